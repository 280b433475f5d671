/- The functions that the law reaches, one Lean function and its proof for each; written by wip/pp of this workplace, joined by claimit.py. -/
import Derived.Test.YtioefechhknnlaaGreatDoorProg
import Derived.Below
import Derived.Deep.Draws
import Derived.Deep.AppendLies
import Derived.Maps.AppendAt
import Derived.OwnWalk
import Derived.Laws.BytesArg
import Derived.Laws.MakeOwn
import Derived.Laws.OwnMore
import Derived.Deep.OwnRows
import Derived.Tactics
import Derived.Lib.ConvBytes
import Derived.Laws.Slices
import Derived.WalkKit
import Derived.KernelRfl
import Derived.RowKit3
import Derived.Deep.LoopGhost
import Derived.Deep.QuietTactic
import Derived.BigQuiet
import Derived.WideLaws
import Derived.Deep.DeepCutAuto
import Derived.Deep.CutBlock
import Derived.Deep.RegionHeld3
import Derived.Laws.Rows
import Derived.Lib.AppendStr
import Derived.ArgAppend
import Derived.Laws.IdiomCopy
import Derived.OrdersHeld
import Derived.Laws.BitsLemmas
import Derived.RowKit
import Derived.Test.YtioefechhknnlaaGreatDoorKFnExactEncloserOfW
import Derived.Test.YtioefechhknnlaaGreatDoorJFnExactEncloserOf0
import Derived.Test.YtioefechhknnlaaGreatDoorJFnExactEncloserOf1
import Derived.Test.YtioefechhknnlaaGreatDoorJFnExactEncloserOf2
namespace Go.Proofs.YtioefechhknnlaaGreatDoor.Pp
open Go.RowKit Go.Proofs.YtioefechhknnlaaGreatDoorW.PrintWords Go.Proofs.YtioefechhknnlaaGreatDoorW.PrintLast Go.Proofs.YtioefechhknnlaaGreatDoorW.PrintMore
attribute [local go_sem] max2_int min2_int max_two min_two max_three min_three max_four min_four   -- for this text's walks alone
set_option linter.unusedVariables false
set_option linter.unusedSimpArgs false
set_option maxHeartbeats 8000000
set_option maxRecDepth 100000

section
/-! ### impl_GoodZone: function 61 -/
def impl_GoodZone.f (k : Nat) (a0_0 : ByteArray) (a0_1 : Int) (l0_2 : List (S_Record)) : Option (Bool) := (impl_isCounter.f a0_1).bind fun t552 => (if t552 = true then ((impl_RuleOf.f k a0_0 l0_2).bind fun t553 => (if t553 = 0 then ((impl_at.f k l0_2 a0_0 6).bind fun t554 => (if 0 < (t554.length : Int) then ((impl_serialText.f a0_1).bind fun t558 => (some (((rd_TRecord t554 0).f3).toList == t558.toList))) else (none))) else (some false))) else (some false))
def impl_GoodZone.T1 : Bool × List (List Nat × List Nat) := (true, [([], []), ([0], [0]), ([1], [1]), ([2, 2], [2]), ([3], [3]), ([4, 3], [3, 4]), ([3], [3]), ([6, 3], [3, 6]), ([5, 7, 3, 3], [3, 5, 7]), ([8, 3], [3, 8]), ([3, 9], [3, 9]), ([10, 8], [10]), ([11], [11]), ([12, 11], [11, 12]), ([11], [11]), ([14, 11], [11, 14]), ([13, 15, 11, 11], [11, 13, 15]), ([16, 11], [11, 16]), ([17, 11], [11, 17]), ([18, 11], [11, 18]), ([11], [11]), ([20, 11], [11, 20]), ([21, 16, 11], [11, 21]), ([19, 22, 11], [11, 19, 22]), ([11, 23], [11, 23]), ([24, 22, 0, 1, 2, 3, 4, 5, 6, 7, 8, 9, 10, 11, 12, 13, 14, 15, 16, 17, 18, 19, 20, 21, 22, 23, 24], [24])])
def impl_GoodZone.B1 : List Nat := [0, 1, 3, 7, 15, 31, 15, 79, 255, 511, 1023, 2047, 4095, 8191, 4095, 20479, 65535, 131071, 262143, 524287, 4095, 1052671, 3276799, 8388607, 16777215, 33554431]
theorem impl_GoodZone.tab1 : rtab .any (opsOf Tryz.f61 1) = impl_GoodZone.T1 := by kernel_rfl
theorem impl_GoodZone.bits1 : waitsOk impl_GoodZone.T1.2 impl_GoodZone.B1 = true := by kernel_rfl
theorem impl_GoodZone.calls (k : Nat) (a0_0 : ByteArray) (a0_1 : Int) (A0_2 : Option Addr) (c0_2 : Nat) (l0_2 : List (S_Record)) (r : Bool) (w : World) (hr0_2 : Kd.C k_Record w A0_2 l0_2.length l0_2) (hc0_2 : l0_2.length ≤ c0_2) (hG_ : Glob w) (h : impl_GoodZone.f k a0_0 a0_1 l0_2 = some r) :
  Calls Tryz.prog 61 #[.agg #[.string a0_0, .int .i64 a0_1, .slice A0_2 l0_2.length c0_2]] w fun e w' => e = .returned (.bool r) ∧ Below w.heap.size w w' := by
 have hu30 := Tryz.underlying30
 have HR0_2 := Aside0.mk hr0_2
 have HC0_2 := Aside0.mk hc0_2
 clear hr0_2 hc0_2
 have HGL := Aside0.mk hG_
 clear hG_
 have HB := Aside0.mk (Below.refl w.heap.size w)
 have H : ((impl_isCounter.f a0_1).bind fun t552 => (if t552 = true then ((impl_RuleOf.f k a0_0 l0_2).bind fun t553 => (if t553 = 0 then ((impl_at.f k l0_2 a0_0 6).bind fun t554 => (if 0 < (t554.length : Int) then ((impl_serialText.f a0_1).bind fun t558 => (some (((rd_TRecord t554 0).f3).toList == t558.toList))) else (none))) else (some false))) else (some false))) = some r := h
 clear h
 obtain ⟨t552, A2, H⟩ := bnd H
 by_cases c3 : t552 = true
 ·subst c3
  replace H := ift H
  obtain ⟨t553, A4, H⟩ := bnd H
  by_cases c5 : t553 = 0
  ·rw [if_pos c5] at H
   have c5b0 : (t553 == 0) = true := beq_iff_eq.mpr c5
   have c5b1 : (t553 != 0) = false := bne_eq_false_iff_eq.mpr c5
   clear c5
   obtain ⟨t554, A6, H⟩ := bnd H
   obtain ⟨c7, H⟩ := ifn H
   have c7b0 : decide (0 < (t554.length : Int)) = true := decide_eq_true c7
   have c7b1 : decide (0 < t554.length) = true := decide_eq_true (by omega)
   clear c7
   obtain ⟨t558, A8, H⟩ := bnd H
   obtain rfl := Option.some.inj H
   go_enter Tryz.func61, Tryz.ntmps61
   try go_wp2_with (first | ((with_reducible refine gate_dst (N := 1) rfl ?_); refine bE 1 #[.string a0_0, .int .i64 a0_1, .slice A0_2 l0_2.length c0_2] 30 ?_; intro gb551 hg w9 hbox hb; have BK551 := Aside0.mk (hbox); have GE551 := bG hg; replace HB := BS hb; clear hb hbox hg))
   replace BK551 := Aside0.mk (blk_drew BK551.out)
   replace HB := Aside0.mk (below_drew1 HB.out)
   refine start_ (n := 26) (S := fun w' => w'.cell? ⟨gb551, 0, none⟩ = some (.string a0_0) ∧ w'.cell? ⟨gb551, 1, none⟩ = some (.int .i64 a0_1) ∧ w'.cell? ⟨gb551, 2, none⟩ = some (.slice A0_2 l0_2.length c0_2)) (ds := []) #[false, false, false, false, false, false, false, false, false, false, false, false, false, false, false, false, false, false, false, false, false, false, false, false, false, false] KR rfl rfl ⟨bc 0 BK551, bc 1 BK551, bc 2 BK551⟩ (fun hHeld => ?_); refine with_tabW impl_GoodZone.tab1 impl_GoodZone.bits1 (fun HT_ HW_ => ?_)
   generalize w9.drew = w10 at BK551 HB hHeld ⊢
   refine pA 0 3 (mL 26 1) HT_ rfl rfl ?_
   refine tA 1 4 (mL 26 3) HT_ HW_ hHeld rfl rfl (by rintro w' ⟨s0, s1, s2⟩; go_simp; with_reducible rfl) ?_
   refine one_ (i := 2) (N := some 5) (mL 26 7) rfl rfl (one_of HT_.out KR) (by decide) (fun K hK => ?_)
   refine goes_ Tryz.func111 KR rfl #[.int .i64 a0_1] (by rfl) rfl rfl TA ?_
   with_reducible refine (impl_isCounter.calls a0_1 true _ A2.out).mono ?_
   rintro e w' ⟨rfl, ⟨nd, rfl⟩⟩
   refine ⟨_, rfl, ?_⟩
   refine hK.out _ _ ⟨bc 0 BK551, bc 1 BK551, bc 2 BK551⟩ (fun hHeld => ?_)
   clear hK K
   refine nA ?_
   refine pA 3 6 (mL 26 15) HT_ rfl rfl ?_
   refine pA 4 7 (mL 26 31) HT_ rfl rfl ?_
   refine pA 6 9 (mL 26 95) HT_ rfl rfl ?_
   refine tA 5 8 (mL 26 127) HT_ HW_ hHeld rfl rfl (by rintro w' ⟨s0, s1, s2⟩; go_simp; with_reducible rfl) ?_
   refine tA 7 10 (mL 26 255) HT_ HW_ hHeld rfl rfl (by rintro w' ⟨s0, s1, s2⟩; go_simp; with_reducible rfl) ?_
   refine one_ (i := 8) (N := some 11) (mL 26 511) rfl rfl (one_of HT_.out KR) (by decide) (fun K hK => ?_)
   refine goes_ Tryz.func112 KR rfl #[.string a0_0, .slice A0_2 l0_2.length c0_2] (by rfl) rfl rfl TA ?_
   with_reducible refine (impl_RuleOf.calls k a0_0 _ _ l0_2 t553 _ ?side1 ?side2 ?side3 A4.out).mono ?_
   (case side1 => exact CW ((Kd.C_below HR0_2.out TB)))
   (case side2 => exact HC0_2.out)
   (case side3 => exact GW HGL)
   rintro e w11 ⟨rfl, hb⟩
   refine ⟨_, rfl, ?_⟩
   replace BK551 := KB BK551 hb
   replace HB := BS hb
   (try clear hb)
   (try clear hb2)
   (try clear hk)
   (try clear hi)
   refine hK.out _ _ ⟨bc 0 BK551, bc 1 BK551, bc 2 BK551⟩ (fun hHeld => ?_)
   clear hK K
   refine nA ?_
   refine pA 9 12 (mL 26 1023) HT_ rfl rfl ?_
   refine pA 10 13 (mL 26 2047) HT_ rfl rfl ?_
   refine pA 11 14 (mL 26 4095) HT_ rfl rfl ?_
   refine pA 12 15 (mL 26 8191) HT_ rfl rfl ?_
   refine pA 14 17 (mL 26 24575) HT_ rfl rfl ?_
   refine pA 20 23 (mL 26 1073151) HT_ rfl rfl ?_
   refine tA 13 16 (mL 26 1081343) HT_ HW_ hHeld rfl rfl (by rintro w' ⟨s0, s1, s2⟩; go_simp; with_reducible rfl) ?_
   refine tA 15 18 (mL 26 1114111) HT_ HW_ hHeld rfl rfl (by rintro w' ⟨s0, s1, s2⟩; go_simp; with_reducible rfl) ?_
   refine tA 21 24 (mL 26 3211263) HT_ HW_ hHeld rfl rfl (by rintro w' ⟨s0, s1, s2⟩; go_simp; with_reducible rfl) ?_
   refine one_ (i := 16) (N := some 19) (mL 26 3276799) rfl rfl (one_of HT_.out KR) (by decide) (fun K hK => ?_)
   refine goes_ Tryz.func85 KR rfl #[.slice A0_2 l0_2.length c0_2, .string a0_0, .int .i64 6] (by rfl) rfl rfl TA ?_
   with_reducible refine (impl_at.calls k _ _ l0_2 a0_0 6 t554 _ ?side1 ?side2 A6.out).mono ?_
   (case side1 => exact CW ((Kd.C_below HR0_2.out HB.out)))
   (case side2 => exact HC0_2.out)
   rintro e w12 ⟨v555, rfl, ho0, hb⟩
   refine ⟨_, rfl, ?_⟩
   have HO556 := RL ho0
   replace BK551 := KB BK551 hb
   replace HB := BS hb
   (try clear hb)
   (try clear hb2)
   (try clear hk)
   (try clear hi)
   (try clear ho0)
   obtain ⟨Ao13, co13, eo13⟩ := Kd.R_slice HO556.out
   (first | subst eo13 | (injection eo13 with f1_ f2_ f3_; have f4_ := f1_.symm; have f5_ := f3_.symm; clear f1_ f2_ f3_; subst f4_; subst f5_))
   have p557 : 0 ≤ (0 : Int) := (by omega)
   have q557 : 0 < (t554.length : Int) := TD
   obtain ⟨ad557, e557, hx557_0, hx557_1, hx557_2, hx557_3⟩ := at_TRecord (Kd.R_reads' HO556.out).2.2 0 p557 q557
   cases e557
   have qi557 : (0 < t554.length) = True := eq_true (by omega)
   (try rw [show ((0 : Int)).toNat = 0 from rfl] at hx557_0)
   (try rw [show 0 * 4 = 0 from rfl] at hx557_0)
   (try rw [Addr.add_zero'] at hx557_0)
   (try rw [show ((0 : Int)).toNat = 0 from rfl] at hx557_1)
   (try rw [show 0 * 4 = 0 from rfl] at hx557_1)
   (try rw [Addr.add_zero'] at hx557_1)
   (try rw [show ((0 : Int)).toNat = 0 from rfl] at hx557_2)
   (try rw [show 0 * 4 = 0 from rfl] at hx557_2)
   (try rw [Addr.add_zero'] at hx557_2)
   (try rw [show ((0 : Int)).toNat = 0 from rfl] at hx557_3)
   (try rw [show 0 * 4 = 0 from rfl] at hx557_3)
   (try rw [Addr.add_zero'] at hx557_3)
   replace p557 := eq_true p557
   replace q557 := eq_true q557
   refine hK.out _ _ ⟨bc 0 BK551, bc 1 BK551, bc 2 BK551⟩ (fun hHeld => ?_)
   clear hK K
   refine nA ?_
   refine more_ (fun w' => w'.cell? ⟨gb551, 0, none⟩ = some (.string a0_0) ∧ w'.cell? ⟨gb551, 1, none⟩ = some (.int .i64 a0_1) ∧ w'.cell? ⟨gb551, 2, none⟩ = some (.slice A0_2 l0_2.length c0_2) ∧ w'.cell? ad557 = some (.string ((rd_TRecord t554 0).f0)) ∧ w'.cell? ⟨ad557.block, ad557.off + 1, none⟩ = some (.int .i64 ((rd_TRecord t554 0).f1)) ∧ w'.cell? ⟨ad557.block, ad557.off + 2, none⟩ = some (.int .i64 ((rd_TRecord t554 0).f2)) ∧ w'.cell? ⟨ad557.block, ad557.off + 3, none⟩ = some (.string ((rd_TRecord t554 0).f3))) (fun w' h => ⟨h.1, h.2.1, h.2.2.1⟩) ⟨bc 0 BK551, bc 1 BK551, bc 2 BK551, hx557_0, hx557_1, hx557_2, hx557_3⟩ (fun hHeld => ?_)
   refine pA 17 20 (mL 26 3407871) HT_ rfl rfl ?_
   refine pA 18 21 (mL 26 3670015) HT_ rfl rfl ?_
   refine tA 19 22 (mL 26 4194303) HT_ HW_ hHeld rfl rfl (by rintro w' ⟨s0, s1, s2, s3, s4, s5, s6⟩; go_simp; with_reducible rfl) ?_
   refine one_ (i := 22) (N := some 25) (mL 26 8388607) rfl rfl (one_of HT_.out KR) (by decide) (fun K hK => ?_)
   refine goes_ Tryz.func113 KR rfl #[.int .i64 a0_1] (by rfl) rfl rfl TA ?_
   with_reducible refine (impl_serialText.calls a0_1 t558 _ ?side1 A8.out).mono ?_
   (case side1 => exact GW HGL)
   rintro e w14 ⟨rfl, hb⟩
   have HS3_ := (hb.cell (World.block_lt_of_cell? _ _ (hHeld.2.2.2.1))).trans (hHeld.2.2.2.1)
   have HS4_ := (hb.cell (World.block_lt_of_cell? _ _ (hHeld.2.2.2.2.1))).trans (hHeld.2.2.2.2.1)
   have HS5_ := (hb.cell (World.block_lt_of_cell? _ _ (hHeld.2.2.2.2.2.1))).trans (hHeld.2.2.2.2.2.1)
   have HS6_ := (hb.cell (World.block_lt_of_cell? _ _ (hHeld.2.2.2.2.2.2))).trans (hHeld.2.2.2.2.2.2)
   refine ⟨_, rfl, ?_⟩
   replace HO556 := RB HO556 hb
   replace BK551 := KB BK551 hb
   replace HB := BS hb
   (try clear hb)
   (try clear hb2)
   (try clear hk)
   (try clear hi)
   refine hK.out _ _ ⟨bc 0 BK551, bc 1 BK551, bc 2 BK551, HS3_, HS4_, HS5_, HS6_⟩ (fun hHeld => ?_)
   clear hK K
   refine nA ?_
   refine pA 23 26 (mL 26 16777215) HT_ rfl rfl ?_
   refine pA 24 27 (mL 26 33554431) HT_ rfl rfl ?_
   refine pA 25 2 (mL 26 67108863) HT_ rfl rfl ?_
   refine done_ (done_of HT_.out KR) ?_
   try go_wp2
   go_ret
   exact ⟨TE, TB⟩
  ·rw [if_neg c5] at H
   have c5b0 : (t553 == 0) = false := beq_eq_false_iff_ne.mpr c5
   have c5b1 : (t553 != 0) = true := bne_iff_ne.mpr c5
   obtain rfl := Option.some.inj H
   go_enter Tryz.func61, Tryz.ntmps61
   try go_wp2_with (first | ((with_reducible refine gate_dst (N := 1) rfl ?_); refine bE 1 #[.string a0_0, .int .i64 a0_1, .slice A0_2 l0_2.length c0_2] 30 ?_; intro gb551 hg w15 hbox hb; have BK551 := Aside0.mk (hbox); have GE551 := bG hg; replace HB := BS hb; clear hb hbox hg))
   replace BK551 := Aside0.mk (blk_drew BK551.out)
   replace HB := Aside0.mk (below_drew1 HB.out)
   refine start_ (n := 26) (S := fun w' => w'.cell? ⟨gb551, 0, none⟩ = some (.string a0_0) ∧ w'.cell? ⟨gb551, 1, none⟩ = some (.int .i64 a0_1) ∧ w'.cell? ⟨gb551, 2, none⟩ = some (.slice A0_2 l0_2.length c0_2)) (ds := []) #[false, false, false, false, false, false, false, false, false, false, false, false, false, false, false, false, false, false, false, false, false, false, false, false, false, false] KR rfl rfl ⟨bc 0 BK551, bc 1 BK551, bc 2 BK551⟩ (fun hHeld => ?_); refine with_tabW impl_GoodZone.tab1 impl_GoodZone.bits1 (fun HT_ HW_ => ?_)
   generalize w15.drew = w16 at BK551 HB hHeld ⊢
   refine pA 0 3 (mL 26 1) HT_ rfl rfl ?_
   refine tA 1 4 (mL 26 3) HT_ HW_ hHeld rfl rfl (by rintro w' ⟨s0, s1, s2⟩; go_simp; with_reducible rfl) ?_
   refine one_ (i := 2) (N := some 5) (mL 26 7) rfl rfl (one_of HT_.out KR) (by decide) (fun K hK => ?_)
   refine goes_ Tryz.func111 KR rfl #[.int .i64 a0_1] (by rfl) rfl rfl TA ?_
   with_reducible refine (impl_isCounter.calls a0_1 true _ A2.out).mono ?_
   rintro e w' ⟨rfl, ⟨nd, rfl⟩⟩
   refine ⟨_, rfl, ?_⟩
   refine hK.out _ _ ⟨bc 0 BK551, bc 1 BK551, bc 2 BK551⟩ (fun hHeld => ?_)
   clear hK K
   refine nA ?_
   refine pA 3 6 (mL 26 15) HT_ rfl rfl ?_
   refine pA 4 7 (mL 26 31) HT_ rfl rfl ?_
   refine pA 6 9 (mL 26 95) HT_ rfl rfl ?_
   refine tA 5 8 (mL 26 127) HT_ HW_ hHeld rfl rfl (by rintro w' ⟨s0, s1, s2⟩; go_simp; with_reducible rfl) ?_
   refine tA 7 10 (mL 26 255) HT_ HW_ hHeld rfl rfl (by rintro w' ⟨s0, s1, s2⟩; go_simp; with_reducible rfl) ?_
   refine one_ (i := 8) (N := some 11) (mL 26 511) rfl rfl (one_of HT_.out KR) (by decide) (fun K hK => ?_)
   refine goes_ Tryz.func112 KR rfl #[.string a0_0, .slice A0_2 l0_2.length c0_2] (by rfl) rfl rfl TA ?_
   with_reducible refine (impl_RuleOf.calls k a0_0 _ _ l0_2 t553 _ ?side1 ?side2 ?side3 A4.out).mono ?_
   (case side1 => exact CW ((Kd.C_below HR0_2.out TB)))
   (case side2 => exact HC0_2.out)
   (case side3 => exact GW HGL)
   rintro e w17 ⟨rfl, hb⟩
   refine ⟨_, rfl, ?_⟩
   replace BK551 := KB BK551 hb
   replace HB := BS hb
   (try clear hb)
   (try clear hb2)
   (try clear hk)
   (try clear hi)
   refine hK.out _ _ ⟨bc 0 BK551, bc 1 BK551, bc 2 BK551⟩ (fun hHeld => ?_)
   clear hK K
   refine nA ?_
   refine pA 9 12 (mL 26 1023) HT_ rfl rfl ?_
   refine pA 10 13 (mL 26 2047) HT_ rfl rfl ?_
   refine pA 11 14 (mL 26 4095) HT_ rfl rfl ?_
   refine pU 12 15 (mL 26 8191) HT_ rfl rfl ?_
   refine pU 13 16 (mL 26 16383) HT_ rfl rfl ?_
   refine pU 14 17 (mL 26 32767) HT_ rfl rfl ?_
   refine pU 15 18 (mL 26 65535) HT_ rfl rfl ?_
   refine pU 16 19 (mL 26 131071) HT_ rfl rfl ?_
   refine pU 17 20 (mL 26 262143) HT_ rfl rfl ?_
   refine pU 18 21 (mL 26 524287) HT_ rfl rfl ?_
   refine pU 19 22 (mL 26 1048575) HT_ rfl rfl ?_
   refine pU 20 23 (mL 26 2097151) HT_ rfl rfl ?_
   refine pU 21 24 (mL 26 4194303) HT_ rfl rfl ?_
   refine pU 22 25 (mL 26 8388607) HT_ rfl rfl ?_
   refine pU 23 26 (mL 26 16777215) HT_ rfl rfl ?_
   refine pA 24 27 (mL 26 33554431) HT_ rfl rfl ?_
   refine pA 25 2 (mL 26 67108863) HT_ rfl rfl ?_
   refine done_ (done_of HT_.out KR) ?_
   try go_wp2
   go_ret
   exact ⟨TE, TB⟩
 ·replace c3 := Bool.eq_false_iff.mpr c3
  subst c3
  replace H := iff' H
  obtain rfl := Option.some.inj H
  go_enter Tryz.func61, Tryz.ntmps61
  try go_wp2_with (first | ((with_reducible refine gate_dst (N := 1) rfl ?_); refine bE 1 #[.string a0_0, .int .i64 a0_1, .slice A0_2 l0_2.length c0_2] 30 ?_; intro gb551 hg w18 hbox hb; have BK551 := Aside0.mk (hbox); have GE551 := bG hg; replace HB := BS hb; clear hb hbox hg))
  replace BK551 := Aside0.mk (blk_drew BK551.out)
  replace HB := Aside0.mk (below_drew1 HB.out)
  refine start_ (n := 26) (S := fun w' => w'.cell? ⟨gb551, 0, none⟩ = some (.string a0_0) ∧ w'.cell? ⟨gb551, 1, none⟩ = some (.int .i64 a0_1) ∧ w'.cell? ⟨gb551, 2, none⟩ = some (.slice A0_2 l0_2.length c0_2)) (ds := []) #[false, false, false, false, false, false, false, false, false, false, false, false, false, false, false, false, false, false, false, false, false, false, false, false, false, false] KR rfl rfl ⟨bc 0 BK551, bc 1 BK551, bc 2 BK551⟩ (fun hHeld => ?_); refine with_tabW impl_GoodZone.tab1 impl_GoodZone.bits1 (fun HT_ HW_ => ?_)
  generalize w18.drew = w19 at BK551 HB hHeld ⊢
  refine pA 0 3 (mL 26 1) HT_ rfl rfl ?_
  refine tA 1 4 (mL 26 3) HT_ HW_ hHeld rfl rfl (by rintro w' ⟨s0, s1, s2⟩; go_simp; with_reducible rfl) ?_
  refine one_ (i := 2) (N := some 5) (mL 26 7) rfl rfl (one_of HT_.out KR) (by decide) (fun K hK => ?_)
  refine goes_ Tryz.func111 KR rfl #[.int .i64 a0_1] (by rfl) rfl rfl TA ?_
  with_reducible refine (impl_isCounter.calls a0_1 false _ A2.out).mono ?_
  rintro e w' ⟨rfl, ⟨nd, rfl⟩⟩
  refine ⟨_, rfl, ?_⟩
  refine hK.out _ _ ⟨bc 0 BK551, bc 1 BK551, bc 2 BK551⟩ (fun hHeld => ?_)
  clear hK K
  refine nA ?_
  refine pA 3 6 (mL 26 15) HT_ rfl rfl ?_
  refine pU 4 7 (mL 26 31) HT_ rfl rfl ?_
  refine pU 5 8 (mL 26 63) HT_ rfl rfl ?_
  refine pU 6 9 (mL 26 127) HT_ rfl rfl ?_
  refine pU 7 10 (mL 26 255) HT_ rfl rfl ?_
  refine pU 8 11 (mL 26 511) HT_ rfl rfl ?_
  refine pU 9 12 (mL 26 1023) HT_ rfl rfl ?_
  refine pA 10 13 (mL 26 2047) HT_ rfl rfl ?_
  refine pA 11 14 (mL 26 4095) HT_ rfl rfl ?_
  refine pU 12 15 (mL 26 8191) HT_ rfl rfl ?_
  refine pU 13 16 (mL 26 16383) HT_ rfl rfl ?_
  refine pU 14 17 (mL 26 32767) HT_ rfl rfl ?_
  refine pU 15 18 (mL 26 65535) HT_ rfl rfl ?_
  refine pU 16 19 (mL 26 131071) HT_ rfl rfl ?_
  refine pU 17 20 (mL 26 262143) HT_ rfl rfl ?_
  refine pU 18 21 (mL 26 524287) HT_ rfl rfl ?_
  refine pU 19 22 (mL 26 1048575) HT_ rfl rfl ?_
  refine pU 20 23 (mL 26 2097151) HT_ rfl rfl ?_
  refine pU 21 24 (mL 26 4194303) HT_ rfl rfl ?_
  refine pU 22 25 (mL 26 8388607) HT_ rfl rfl ?_
  refine pU 23 26 (mL 26 16777215) HT_ rfl rfl ?_
  refine pA 24 27 (mL 26 33554431) HT_ rfl rfl ?_
  refine pA 25 2 (mL 26 67108863) HT_ rfl rfl ?_
  refine done_ (done_of HT_.out KR) ?_
  try go_wp2
  go_ret
  exact ⟨TE, TB⟩
end
section
/-! ### impl_parentOf: function 120 -/
def impl_parentOf.f (a0 : ByteArray) : Option (ByteArray) := (strings_Cut.f a0 (⟨#[46]⟩ : ByteArray)).bind fun bt569 => (some bt569.2.1)
theorem impl_parentOf.calls (a0 : ByteArray) (r : ByteArray) (w : World) (h : impl_parentOf.f a0 = some r) :
  Calls Tryz.prog 120 #[.string a0] w fun e w' => e = .returned (.string r) ∧ Drawn0 w w' := by
 have H : ((strings_Cut.f a0 (⟨#[46]⟩ : ByteArray)).bind fun bt569 => (some bt569.2.1)) = some r := h
 clear h
 obtain ⟨⟨t569, t570, t571⟩, A2, H⟩ := bnd H
 try dsimp only at H
 obtain rfl := Option.some.inj H
 go_enter Tryz.func120, Tryz.ntmps120
 go_wp2_with (first | ((with_reducible refine gate_callee (f := 130) rfl ?_); refine goesL_ (some 8) rfl rfl Tryz.func130 KR rfl #[.string a0, .string (⟨#[46]⟩ : ByteArray)] rfl TA ?_; (with_reducible refine (strings_Cut.calls a0 (⟨#[46]⟩ : ByteArray) t569 t570 t571 _ A2.out).mono ?_); rintro e w' ⟨rfl, ⟨nd, rfl⟩⟩; refine ⟨_, rfl, ?_⟩))
 go_ret
 exact ⟨TF, TN⟩
end
section
/-! ### impl_isThere_1: function 159 -/
def impl_isThere_1.f (a0_0 : ByteArray) (a0_1 : Int) (a0_2 : Int) (a0_3 : ByteArray) (a1_0 : ByteArray) : Option (Bool) := (impl_isBelow.f a0_0 a1_0).bind fun t579 => (some t579)
theorem impl_isThere_1.calls (a0_0 : ByteArray) (a0_1 : Int) (a0_2 : Int) (a0_3 : ByteArray) (g1_ : Nat) (a1_0 : ByteArray) (r : Bool) (w : World) (hkg1_ : w.heap[g1_]? = some (.cells #[.string a1_0] 9 (0, 0))) (h : impl_isThere_1.f a0_0 a0_1 a0_2 a0_3 a1_0 = some r) :
  Calls Tryz.prog 159 #[.agg #[.string a0_0, .int .i64 a0_1, .int .i64 a0_2, .string a0_3], .pointer (some ⟨g1_, 0, none⟩)] w fun e w' => e = .returned (.bool r) ∧ Below w.heap.size w w' := by
 have hu100 := Tryz.underlying100
 have BKrg1_ := Aside0.mk hkg1_
 clear hkg1_
 have HB := Aside0.mk (Below.refl w.heap.size w)
 have H : ((impl_isBelow.f a0_0 a1_0).bind fun t579 => (some t579)) = some r := h
 clear h
 obtain ⟨t579, A3, H⟩ := bnd H
 obtain rfl := Option.some.inj H
 go_enter Tryz.func159, Tryz.ntmps159
 go_wp2_with (first | ((with_reducible refine gate_dst (N := 2) rfl ?_); refine bE 2 #[.string a0_0, .int .i64 a0_1, .int .i64 a0_2, .string a0_3] 100 ?_; intro gb578 hg w4 hbox hb; have BK578 := Aside0.mk (hbox); have GE578 := bG hg; replace HB := BS hb; have NB1_578 := bN BKrg1_ hg; have NB578_1 := bM BKrg1_ hg; replace BKrg1_ := KB BKrg1_ hb; clear hb hbox hg; have hnb5 := NB578_1.out; have hnc5 := NB1_578.out; have hcz6 := cz4 BK578; have hcz7 := cz1 BKrg1_) | ((with_reducible refine gate_callee (f := 63) rfl ?_); refine goesL_ (some 7) rfl rfl Tryz.func63 KR rfl #[.string a0_0, .string a1_0] rfl TA ?_; (with_reducible refine (impl_isBelow.calls a0_0 a1_0 t579 _ A3.out).mono ?_); rintro e w' ⟨rfl, ⟨nd, rfl⟩⟩; refine ⟨_, rfl, ?_⟩))
 go_ret
 exact ⟨TE, TB⟩
end
section
/-! ### slices_IndexFunc_impl_Record_impl_Record_isThere_1: function 128 -/
def slices_IndexFunc_impl_Record_impl_Record_isThere_1.l0 : Nat → List (S_Record) → Int → Int → ByteArray → Option (Int)
 | 0, _, _, _, _ => none
 | k + 1, x0, x7, x8, x59000 => if x8 < x7 then (if 0 ≤ x8 then (if x8 < (x0.length : Int) then ((impl_isThere_1.f ((rd_TRecord x0 x8).f0) ((rd_TRecord x0 x8).f1) ((rd_TRecord x0 x8).f2) ((rd_TRecord x0 x8).f3) x59000).bind fun t581 => (if t581 = true then (some x8) else (slices_IndexFunc_impl_Record_impl_Record_isThere_1.l0 k x0 x7 (wrap64 (x8 + 1)) x59000))) else (none)) else (none)) else (some (-1))
def slices_IndexFunc_impl_Record_impl_Record_isThere_1.f (k : Nat) (l0 : List (S_Record)) (a1_0 : ByteArray) : Option (Int) := slices_IndexFunc_impl_Record_impl_Record_isThere_1.l0 k l0 (l0.length : Int) 0 a1_0
theorem slices_IndexFunc_impl_Record_impl_Record_isThere_1.calls (k : Nat) (A0 : Option Addr) (c0 : Nat) (l0 : List (S_Record)) (g1_0_ : Nat) (a1_0 : ByteArray) (r : Int) (w : World) (hr0 : Kd.C k_Record w A0 l0.length l0) (hc0 : l0.length ≤ c0) (hkg1_0_ : w.heap[g1_0_]? = some (.cells #[.string a1_0] 9 (0, 0))) (h : slices_IndexFunc_impl_Record_impl_Record_isThere_1.f k l0 a1_0 = some r) :
  Calls Tryz.prog 128 #[.slice A0 l0.length c0, .func (.func 159) #[] #[.pointer (some ⟨g1_0_, 0, none⟩)]] w fun e w' => e = .returned (.int .i64 r) ∧ Below w.heap.size w w' := by
 have hu100 := Tryz.underlying100
 have HR0 := Aside0.mk hr0
 have HC0 := Aside0.mk hc0
 clear hr0 hc0
 have BKrg1_0_ := Aside0.mk hkg1_0_
 clear hkg1_0_
 have HB := Aside0.mk (Below.refl w.heap.size w)
 have H : (slices_IndexFunc_impl_Record_impl_Record_isThere_1.l0 k l0 (l0.length : Int) 0 a1_0) = some r := h
 clear h
 have H' := Aside0.mk H
 clear H
 go_enter Tryz.func128, Tryz.ntmps128
 go_wp2
 go_loopg [8] k (fun kq v8 w' => ∃ (x8_1 : Int), v8 = .int .i64 x8_1 ∧ Aside0 (slices_IndexFunc_impl_Record_impl_Record_isThere_1.l0 kq l0 (l0.length : Int) x8_1 a1_0 = some r) ∧ Aside0 (kq ≤ k) ∧ Aside0 (w'.heap[g1_0_]? = some (.cells #[.string a1_0] 9 (0, 0))) ∧ Aside0 (Below w.heap.size w w'))
 case atStart => exact ⟨(0), TF, H', ⟨Nat.le_refl _⟩, KW BKrg1_0_, ⟨TB⟩⟩
 case round =>
  clear H'
  try clear c1
  try clear p2
  obtain ⟨x8_1, rfl, HA, HK1, BKrg1_0_, HB⟩ := hrel
  cases gk with
  | zero => exact absurd HA.out (by simp [slices_IndexFunc_impl_Record_impl_Record_isThere_1.l0])
  | succ k1 =>
   have H := HA.out
   clear HA
   simp only [slices_IndexFunc_impl_Record_impl_Record_isThere_1.l0] at H
   by_cases c3 : x8_1 < (l0.length : Int)
   ·rw [if_pos c3] at H
    have c3b0 : decide (x8_1 < (l0.length : Int)) = true := decide_eq_true c3
    clear c3
    obtain ⟨c4, H⟩ := ifn H
    have c4b0 : decide (0 ≤ x8_1) = true := decide_eq_true c4
    clear c4
    obtain ⟨c5, H⟩ := ifn H
    have c5b0 : decide (x8_1 < (l0.length : Int)) = true := decide_eq_true c5
    clear c5
    obtain ⟨t581, A6, H⟩ := bnd H
    by_cases c7 : t581 = true
    ·subst c7
     replace H := ift H
     obtain rfl := Option.some.inj H
     have p580 : 0 ≤ (x8_1 : Int) := TD
     have q580 : x8_1 < (l0.length : Int) := TD
     obtain ⟨ad580, e580, hx580_0, hx580_1, hx580_2, hx580_3⟩ := at_TRecord (Kd.C_below HR0.out HB.out) x8_1 p580 q580
     cases e580
     replace p580 := eq_true p580
     replace q580 := eq_true q580
     go_wp2_with (first | (go_at_call 159; (with_reducible refine (impl_isThere_1.calls ((rd_TRecord l0 x8_1).f0) ((rd_TRecord l0 x8_1).f1) ((rd_TRecord l0 x8_1).f2) ((rd_TRecord l0 x8_1).f3) g1_0_ a1_0 true _ ?side1 A6.out).mono ?_); (case side1 => exact (KW BKrg1_0_).out); rintro e w8 ⟨rfl, hb⟩; replace BKrg1_0_ := KB BKrg1_0_ hb; replace HB := BS hb; (try clear hb); (try clear hb2); (try clear hk); (try clear hi)))
     go_ret
     exact ⟨TE, TB⟩
    ·replace c7 := Bool.eq_false_iff.mpr c7
     subst c7
     replace H := iff' H
     have H' := Aside0.mk H
     clear H
     have p580 : 0 ≤ (x8_1 : Int) := TD
     have q580 : x8_1 < (l0.length : Int) := TD
     obtain ⟨ad580, e580, hx580_0, hx580_1, hx580_2, hx580_3⟩ := at_TRecord (Kd.C_below HR0.out HB.out) x8_1 p580 q580
     cases e580
     replace p580 := eq_true p580
     replace q580 := eq_true q580
     go_wp2_with (first | (go_at_call 159; (with_reducible refine (impl_isThere_1.calls ((rd_TRecord l0 x8_1).f0) ((rd_TRecord l0 x8_1).f1) ((rd_TRecord l0 x8_1).f2) ((rd_TRecord l0 x8_1).f3) g1_0_ a1_0 false _ ?side1 A6.out).mono ?_); (case side1 => exact (KW BKrg1_0_).out); rintro e w9 ⟨rfl, hb⟩; replace BKrg1_0_ := KB BKrg1_0_ hb; replace HB := BS hb; (try clear hb); (try clear hb2); (try clear hk); (try clear hi)))
     go_roundg k1
     case measure => have := HK1.out; omega
     case rel => exact ⟨(wrap64 (x8_1 + 1)), TF, H', ⟨TM⟩, KW BKrg1_0_, ⟨TB⟩⟩
   ·rw [if_neg c3] at H
    have c3b0 : decide (x8_1 < (l0.length : Int)) = false := decide_eq_false c3
    clear c3
    obtain rfl := Option.some.inj H
    go_wp2
    go_ret
    exact ⟨TE, TB⟩
end
section
/-! ### slices_ContainsFunc_impl_Record_impl_Record_isThere_1: function 80 -/
def slices_ContainsFunc_impl_Record_impl_Record_isThere_1.f (k : Nat) (l0 : List (S_Record)) (a1_0 : ByteArray) : Option (Bool) := (slices_IndexFunc_impl_Record_impl_Record_isThere_1.f k l0 a1_0).bind fun t582 => (some (decide (t582 ≥ 0)))
theorem slices_ContainsFunc_impl_Record_impl_Record_isThere_1.calls (k : Nat) (A0 : Option Addr) (c0 : Nat) (l0 : List (S_Record)) (g1_0_ : Nat) (a1_0 : ByteArray) (r : Bool) (w : World) (hr0 : Kd.C k_Record w A0 l0.length l0) (hc0 : l0.length ≤ c0) (hkg1_0_ : w.heap[g1_0_]? = some (.cells #[.string a1_0] 9 (0, 0))) (h : slices_ContainsFunc_impl_Record_impl_Record_isThere_1.f k l0 a1_0 = some r) :
  Calls Tryz.prog 80 #[.slice A0 l0.length c0, .func (.func 159) #[] #[.pointer (some ⟨g1_0_, 0, none⟩)]] w fun e w' => e = .returned (.bool r) ∧ Below w.heap.size w w' := by
 have HR0 := Aside0.mk hr0
 have HC0 := Aside0.mk hc0
 clear hr0 hc0
 have BKrg1_0_ := Aside0.mk hkg1_0_
 clear hkg1_0_
 have HB := Aside0.mk (Below.refl w.heap.size w)
 have H : ((slices_IndexFunc_impl_Record_impl_Record_isThere_1.f k l0 a1_0).bind fun t582 => (some (decide (t582 ≥ 0)))) = some r := h
 clear h
 obtain ⟨t582, A3, H⟩ := bnd H
 obtain rfl := Option.some.inj H
 go_enter Tryz.func80, Tryz.ntmps80
 go_wp2_with (first | ((with_reducible refine gate_callee (f := 128) rfl ?_); refine goesL_ (some 7) rfl rfl Tryz.func128 KR rfl #[.slice A0 l0.length c0, .func (.func 159) #[] #[.pointer (some ⟨g1_0_, 0, none⟩)]] rfl TA ?_; (with_reducible refine (slices_IndexFunc_impl_Record_impl_Record_isThere_1.calls k _ _ l0 g1_0_ a1_0 t582 _ ?side1 ?side2 ?side3 A3.out).mono ?_); (case side1 => exact CW (HR0.out)); (case side2 => exact HC0.out); (case side3 => exact (KW BKrg1_0_).out); rintro e w4 ⟨rfl, hb⟩; refine ⟨_, rfl, ?_⟩; replace BKrg1_0_ := KB BKrg1_0_ hb; replace HB := BS hb; (try clear hb); (try clear hb2); (try clear hk); (try clear hi)))
 go_ret
 exact ⟨TE, TB⟩
end
section
/-! ### impl_isThere: function 119 -/
def impl_isThere.f (k : Nat) (a0_0 : ByteArray) (a0_1 : Int) (l0_2 : List (S_Record)) (a1 : ByteArray) : Option (Bool) := (impl_isBelow.f a1 a0_0).bind fun t585 => (if t585 = true then ((slices_ContainsFunc_impl_Record_impl_Record_isThere_1.f k l0_2 a1).bind fun t586 => (some t586)) else (some false))
theorem impl_isThere.calls (k : Nat) (a0_0 : ByteArray) (a0_1 : Int) (A0_2 : Option Addr) (c0_2 : Nat) (l0_2 : List (S_Record)) (a1 : ByteArray) (r : Bool) (w : World) (hr0_2 : Kd.C k_Record w A0_2 l0_2.length l0_2) (hc0_2 : l0_2.length ≤ c0_2) (h : impl_isThere.f k a0_0 a0_1 l0_2 a1 = some r) :
  Calls Tryz.prog 119 #[.agg #[.string a0_0, .int .i64 a0_1, .slice A0_2 l0_2.length c0_2], .string a1] w fun e w' => e = .returned (.bool r) ∧ Below w.heap.size w w' := by
 have hu30 := Tryz.underlying30
 have HR0_2 := Aside0.mk hr0_2
 have HC0_2 := Aside0.mk hc0_2
 clear hr0_2 hc0_2
 have HB := Aside0.mk (Below.refl w.heap.size w)
 have H : ((impl_isBelow.f a1 a0_0).bind fun t585 => (if t585 = true then ((slices_ContainsFunc_impl_Record_impl_Record_isThere_1.f k l0_2 a1).bind fun t586 => (some t586)) else (some false))) = some r := h
 clear h
 obtain ⟨t585, A3, H⟩ := bnd H
 by_cases c4 : t585 = true
 ·subst c4
  replace H := ift H
  obtain ⟨t586, A5, H⟩ := bnd H
  obtain rfl := Option.some.inj H
  go_enter Tryz.func119, Tryz.ntmps119
  go_wp2_with (first | ((with_reducible refine gate_dst (N := 2) rfl ?_); refine bE 2 #[.string a0_0, .int .i64 a0_1, .slice A0_2 l0_2.length c0_2] 30 ?_; intro gb583 hg w6 hbox hb; have BK583 := Aside0.mk (hbox); have GE583 := bG hg; replace HB := BS hb; clear hb hbox hg) | ((with_reducible refine gate_dst (N := 3) rfl ?_); refine bE 3 #[.string a1] 9 ?_; intro gb584 hg w7 hbox hb; have BK584 := Aside0.mk (hbox); have GE584 := bG hg; replace HB := BS hb; have NB583_584 := bN BK583 hg; have NB584_583 := bM BK583 hg; replace BK583 := KB BK583 hb; clear hb hbox hg; have hnb8 := NB584_583.out; have hnc8 := NB583_584.out; have hcz9 := cz1 BK584; have hcz10 := cz3 BK583) | ((with_reducible refine gate_callee (f := 63) rfl ?_); refine goesL_ (some 8) rfl rfl Tryz.func63 KR rfl #[.string a1, .string a0_0] rfl TA ?_; (with_reducible refine (impl_isBelow.calls a1 a0_0 true _ A3.out).mono ?_); rintro e w' ⟨rfl, ⟨nd, rfl⟩⟩; refine ⟨_, rfl, ?_⟩) | (go_at_call 80; (with_reducible refine (slices_ContainsFunc_impl_Record_impl_Record_isThere_1.calls k _ _ l0_2 gb584 a1 t586 _ ?side1 ?side2 ?side3 A5.out).mono ?_); (case side1 => exact CW ((Kd.C_below HR0_2.out TB))); (case side2 => exact HC0_2.out); (case side3 => exact (KW BK584).out); rintro e w11 ⟨rfl, hb⟩; replace BK583 := KB BK583 hb; replace BK584 := KB BK584 hb; replace HB := BS hb; (try clear hb); (try clear hb2); (try clear hk); (try clear hi)))
  go_ret
  exact ⟨TE, TB⟩
 ·replace c4 := Bool.eq_false_iff.mpr c4
  subst c4
  replace H := iff' H
  obtain rfl := Option.some.inj H
  go_enter Tryz.func119, Tryz.ntmps119
  go_wp2_with (first | ((with_reducible refine gate_dst (N := 2) rfl ?_); refine bE 2 #[.string a0_0, .int .i64 a0_1, .slice A0_2 l0_2.length c0_2] 30 ?_; intro gb583 hg w12 hbox hb; have BK583 := Aside0.mk (hbox); have GE583 := bG hg; replace HB := BS hb; clear hb hbox hg) | ((with_reducible refine gate_dst (N := 3) rfl ?_); refine bE 3 #[.string a1] 9 ?_; intro gb584 hg w13 hbox hb; have BK584 := Aside0.mk (hbox); have GE584 := bG hg; replace HB := BS hb; have NB583_584 := bN BK583 hg; have NB584_583 := bM BK583 hg; replace BK583 := KB BK583 hb; clear hb hbox hg; have hnb14 := NB584_583.out; have hnc14 := NB583_584.out; have hcz15 := cz1 BK584; have hcz16 := cz3 BK583) | ((with_reducible refine gate_callee (f := 63) rfl ?_); refine goesL_ (some 8) rfl rfl Tryz.func63 KR rfl #[.string a1, .string a0_0] rfl TA ?_; (with_reducible refine (impl_isBelow.calls a1 a0_0 false _ A3.out).mono ?_); rintro e w' ⟨rfl, ⟨nd, rfl⟩⟩; refine ⟨_, rfl, ?_⟩))
  go_ret
  exact ⟨TE, TB⟩
end
section
/-! ### impl_encloserOf: function 64 -/
def impl_encloserOf.l0 : Nat → ByteArray → ByteArray → Int → List (S_Record) → Option (ByteArray)
 | 0, _, _, _, _ => none
 | k + 1, x1, x588000, x588001, x588002 => (impl_isThere.f k x588000 x588001 x588002 x1).bind fun t588 => (if t588 = true then (some x1) else ((impl_parentOf.f x1).bind fun t589 => (impl_encloserOf.l0 k t589 x588000 x588001 x588002)))
def impl_encloserOf.f (k : Nat) (a0_0 : ByteArray) (a0_1 : Int) (l0_2 : List (S_Record)) (a1 : ByteArray) : Option (ByteArray) := impl_encloserOf.l0 k a1 a0_0 a0_1 l0_2
theorem impl_encloserOf.calls (k : Nat) (a0_0 : ByteArray) (a0_1 : Int) (A0_2 : Option Addr) (c0_2 : Nat) (l0_2 : List (S_Record)) (a1 : ByteArray) (r : ByteArray) (w : World) (hr0_2 : Kd.C k_Record w A0_2 l0_2.length l0_2) (hc0_2 : l0_2.length ≤ c0_2) (h : impl_encloserOf.f k a0_0 a0_1 l0_2 a1 = some r) :
  Calls Tryz.prog 64 #[.agg #[.string a0_0, .int .i64 a0_1, .slice A0_2 l0_2.length c0_2], .string a1] w fun e w' => e = .returned (.string r) ∧ Below w.heap.size w w' := by
 have hu30 := Tryz.underlying30
 have HR0_2 := Aside0.mk hr0_2
 have HC0_2 := Aside0.mk hc0_2
 clear hr0_2 hc0_2
 have HB := Aside0.mk (Below.refl w.heap.size w)
 have H : (impl_encloserOf.l0 k a1 a0_0 a0_1 l0_2) = some r := h
 clear h
 have H' := Aside0.mk H
 clear H
 go_enter Tryz.func64, Tryz.ntmps64
 go_wp2_with (first | ((with_reducible refine gate_dst (N := 2) rfl ?_); refine bE 2 #[.string a0_0, .int .i64 a0_1, .slice A0_2 l0_2.length c0_2] 30 ?_; intro gb587 hg w3 hbox hb; have BK587 := Aside0.mk (hbox); have GE587 := bG hg; replace HB := BS hb; clear hb hbox hg))
 go_loopg [1] k (fun kq v1 w' => ∃ (x1_1 : ByteArray), v1 = .string x1_1 ∧ Aside0 (impl_encloserOf.l0 kq x1_1 a0_0 a0_1 l0_2 = some r) ∧ Aside0 (kq ≤ k) ∧ Aside0 (w'.heap[gb587]? = some (.cells #[.string a0_0, .int .i64 a0_1, (.slice A0_2 l0_2.length c0_2)] 30 (0, 0))) ∧ Aside0 (Below w.heap.size w w'))
 case atStart => exact ⟨(a1), TF, H', ⟨Nat.le_refl _⟩, KW BK587, ⟨TB⟩⟩
 case round =>
  clear H'
  try clear p2
  obtain ⟨x1_1, rfl, HA, HK1, BK587, HB⟩ := hrel
  cases gk with
  | zero => exact absurd HA.out (by simp [impl_encloserOf.l0])
  | succ k1 =>
   have H := HA.out
   clear HA
   simp only [impl_encloserOf.l0] at H
   obtain ⟨t588, A4, H⟩ := bnd H
   by_cases c5 : t588 = true
   ·subst c5
    replace H := ift H
    obtain rfl := Option.some.inj H
    have hcz6 := cz3 BK587
    go_wp2_with (first | ((with_reducible refine gate_callee (f := 119) rfl ?_); refine goesL_ (some 7) rfl rfl Tryz.func119 KR rfl #[.agg #[.string a0_0, .int .i64 a0_1, .slice A0_2 l0_2.length c0_2], .string x1_1] rfl TA ?_; (with_reducible refine (impl_isThere.calls k1 a0_0 a0_1 _ _ l0_2 x1_1 true _ ?side1 ?side2 A4.out).mono ?_); (case side1 => exact CW ((Kd.C_below HR0_2.out HB.out))); (case side2 => exact HC0_2.out); rintro e w7 ⟨rfl, hb⟩; refine ⟨_, rfl, ?_⟩; replace BK587 := KB BK587 hb; replace HB := BS hb; (try clear hb); (try clear hb2); (try clear hk); (try clear hi)))
    go_ret
    exact ⟨TE, TB⟩
   ·replace c5 := Bool.eq_false_iff.mpr c5
    subst c5
    replace H := iff' H
    obtain ⟨t589, A8, H⟩ := bnd H
    have H' := Aside0.mk H
    clear H
    have hcz9 := cz3 BK587
    go_wp2_with (first | ((with_reducible refine gate_callee (f := 119) rfl ?_); refine goesL_ (some 7) rfl rfl Tryz.func119 KR rfl #[.agg #[.string a0_0, .int .i64 a0_1, .slice A0_2 l0_2.length c0_2], .string x1_1] rfl TA ?_; (with_reducible refine (impl_isThere.calls k1 a0_0 a0_1 _ _ l0_2 x1_1 false _ ?side1 ?side2 A4.out).mono ?_); (case side1 => exact CW ((Kd.C_below HR0_2.out HB.out))); (case side2 => exact HC0_2.out); rintro e w10 ⟨rfl, hb⟩; refine ⟨_, rfl, ?_⟩; replace BK587 := KB BK587 hb; replace HB := BS hb; (try clear hb); (try clear hb2); (try clear hk); (try clear hi)) | ((with_reducible refine gate_callee (f := 120) rfl ?_); refine goesL_ (some 10) rfl rfl Tryz.func120 KR rfl #[.string x1_1] rfl TA ?_; (with_reducible refine (impl_parentOf.calls x1_1 t589 _ A8.out).mono ?_); rintro e w' ⟨rfl, ⟨nd, rfl⟩⟩; refine ⟨_, rfl, ?_⟩))
    go_roundg k1
    case measure => have := HK1.out; omega
    case rel => exact ⟨(t589), TF, H', ⟨TM⟩, KW BK587, ⟨TB⟩⟩
end
section
/-! ### impl_EncloserOf: function 16 -/
def impl_EncloserOf.f (k : Nat) (a0_0 : ByteArray) (a0_1 : Int) (l0_2 : List (S_Record)) (a1 : ByteArray) : Option (ByteArray × Bool) := (impl_GoodZone.f k a0_0 a0_1 l0_2).bind fun t908 => (if t908 = true then ((impl_GoodName.f k a1).bind fun t909 => (if t909 = true then ((impl_isBelow.f a1 a0_0).bind fun t910 => (if t910 = true then ((impl_encloserOf.f k a0_0 a0_1 l0_2 a1).bind fun t911 => (some (t911, true))) else (some ((⟨#[]⟩ : ByteArray), false)))) else (some ((⟨#[]⟩ : ByteArray), false)))) else (some ((⟨#[]⟩ : ByteArray), false)))
theorem impl_EncloserOf.calls (k : Nat) (a0_0 : ByteArray) (a0_1 : Int) (A0_2 : Option Addr) (c0_2 : Nat) (l0_2 : List (S_Record)) (a1 : ByteArray) (r1 : ByteArray) (r2 : Bool) (w : World) (hr0_2 : Kd.C k_Record w A0_2 l0_2.length l0_2) (hc0_2 : l0_2.length ≤ c0_2) (hG_ : Glob w) (h : impl_EncloserOf.f k a0_0 a0_1 l0_2 a1 = some (r1, r2)) :
  Calls Tryz.prog 16 #[.agg #[.string a0_0, .int .i64 a0_1, .slice A0_2 l0_2.length c0_2], .string a1] w fun e w' => e = .returned (.tuple #[.string r1, .bool r2]) ∧ Below w.heap.size w w' := by
 have hu30 := Tryz.underlying30
 have HR0_2 := Aside0.mk hr0_2
 have HC0_2 := Aside0.mk hc0_2
 clear hr0_2 hc0_2
 have HGL := Aside0.mk hG_
 clear hG_
 have HB := Aside0.mk (Below.refl w.heap.size w)
 have H : ((impl_GoodZone.f k a0_0 a0_1 l0_2).bind fun t908 => (if t908 = true then ((impl_GoodName.f k a1).bind fun t909 => (if t909 = true then ((impl_isBelow.f a1 a0_0).bind fun t910 => (if t910 = true then ((impl_encloserOf.f k a0_0 a0_1 l0_2 a1).bind fun t911 => (some (t911, true))) else (some ((⟨#[]⟩ : ByteArray), false)))) else (some ((⟨#[]⟩ : ByteArray), false)))) else (some ((⟨#[]⟩ : ByteArray), false)))) = some (r1, r2) := h
 clear h
 obtain ⟨t908, A3, H⟩ := bnd H
 by_cases c4 : t908 = true
 ·subst c4
  replace H := ift H
  obtain ⟨t909, A5, H⟩ := bnd H
  by_cases c6 : t909 = true
  ·subst c6
   replace H := ift H
   obtain ⟨t910, A7, H⟩ := bnd H
   by_cases c8 : t910 = true
   ·subst c8
    replace H := ift H
    obtain ⟨t911, A9, H⟩ := bnd H
    simp only [Option.some.injEq, Prod.mk.injEq] at H
    obtain ⟨rfl, rfl⟩ := H
    go_enter Tryz.func16, Tryz.ntmps16
    go_wp2_with (first | ((with_reducible refine gate_dst (N := 2) rfl ?_); refine bE 2 #[.string a0_0, .int .i64 a0_1, .slice A0_2 l0_2.length c0_2] 30 ?_; intro gb907 hg w10 hbox hb; have BK907 := Aside0.mk (hbox); have GE907 := bG hg; replace HB := BS hb; clear hb hbox hg; have hcz11 := cz3 BK907) | ((with_reducible refine gate_callee (f := 61) rfl ?_); refine goesL_ (some 7) rfl rfl Tryz.func61 KR rfl #[.agg #[.string a0_0, .int .i64 a0_1, .slice A0_2 l0_2.length c0_2]] rfl TA ?_; (with_reducible refine (impl_GoodZone.calls k a0_0 a0_1 _ _ l0_2 true _ ?side1 ?side2 ?side3 A3.out).mono ?_); (case side1 => exact CW ((Kd.C_below HR0_2.out HB.out))); (case side2 => exact HC0_2.out); (case side3 => exact GW HGL); rintro e w12 ⟨rfl, hb⟩; refine ⟨_, rfl, ?_⟩; replace BK907 := KB BK907 hb; replace HB := BS hb; (try clear hb); (try clear hb2); (try clear hk); (try clear hi)) | (go_at_call 62; (with_reducible refine (impl_GoodName.calls k a1 true _ A5.out).mono ?_); rintro e w13 ⟨rfl, hb⟩; replace BK907 := KB BK907 hb; replace HB := BS hb; (try clear hb); (try clear hb2); (try clear hk); (try clear hi); have hcz14 := cz3 BK907) | (go_at_call 63; (with_reducible refine (impl_isBelow.calls a1 a0_0 true _ A7.out).mono ?_); rintro e w' ⟨rfl, ⟨nd, rfl⟩⟩) | ((with_reducible refine gate_callee (f := 64) rfl ?_); refine goesL_ (some 23) rfl rfl Tryz.func64 KR rfl #[.agg #[.string a0_0, .int .i64 a0_1, .slice A0_2 l0_2.length c0_2], .string a1] rfl TA ?_; (with_reducible refine (impl_encloserOf.calls k a0_0 a0_1 _ _ l0_2 a1 t911 _ ?side1 ?side2 A9.out).mono ?_); (case side1 => exact CW ((Kd.C_below HR0_2.out TB))); (case side2 => exact HC0_2.out); rintro e w15 ⟨rfl, hb⟩; refine ⟨_, rfl, ?_⟩; replace BK907 := KB BK907 hb; replace HB := BS hb; (try clear hb); (try clear hb2); (try clear hk); (try clear hi)))
    go_ret2
    exact ⟨TE, TB⟩
   ·replace c8 := Bool.eq_false_iff.mpr c8
    subst c8
    replace H := iff' H
    simp only [Option.some.injEq, Prod.mk.injEq] at H
    obtain ⟨rfl, rfl⟩ := H
    go_enter Tryz.func16, Tryz.ntmps16
    go_wp2_with (first | ((with_reducible refine gate_dst (N := 2) rfl ?_); refine bE 2 #[.string a0_0, .int .i64 a0_1, .slice A0_2 l0_2.length c0_2] 30 ?_; intro gb907 hg w16 hbox hb; have BK907 := Aside0.mk (hbox); have GE907 := bG hg; replace HB := BS hb; clear hb hbox hg; have hcz17 := cz3 BK907) | ((with_reducible refine gate_callee (f := 61) rfl ?_); refine goesL_ (some 7) rfl rfl Tryz.func61 KR rfl #[.agg #[.string a0_0, .int .i64 a0_1, .slice A0_2 l0_2.length c0_2]] rfl TA ?_; (with_reducible refine (impl_GoodZone.calls k a0_0 a0_1 _ _ l0_2 true _ ?side1 ?side2 ?side3 A3.out).mono ?_); (case side1 => exact CW ((Kd.C_below HR0_2.out HB.out))); (case side2 => exact HC0_2.out); (case side3 => exact GW HGL); rintro e w18 ⟨rfl, hb⟩; refine ⟨_, rfl, ?_⟩; replace BK907 := KB BK907 hb; replace HB := BS hb; (try clear hb); (try clear hb2); (try clear hk); (try clear hi)) | (go_at_call 62; (with_reducible refine (impl_GoodName.calls k a1 true _ A5.out).mono ?_); rintro e w19 ⟨rfl, hb⟩; replace BK907 := KB BK907 hb; replace HB := BS hb; (try clear hb); (try clear hb2); (try clear hk); (try clear hi); have hcz20 := cz3 BK907) | (go_at_call 63; (with_reducible refine (impl_isBelow.calls a1 a0_0 false _ A7.out).mono ?_); rintro e w' ⟨rfl, ⟨nd, rfl⟩⟩))
    go_ret2
    exact ⟨TE, TB⟩
  ·replace c6 := Bool.eq_false_iff.mpr c6
   subst c6
   replace H := iff' H
   simp only [Option.some.injEq, Prod.mk.injEq] at H
   obtain ⟨rfl, rfl⟩ := H
   go_enter Tryz.func16, Tryz.ntmps16
   go_wp2_with (first | ((with_reducible refine gate_dst (N := 2) rfl ?_); refine bE 2 #[.string a0_0, .int .i64 a0_1, .slice A0_2 l0_2.length c0_2] 30 ?_; intro gb907 hg w21 hbox hb; have BK907 := Aside0.mk (hbox); have GE907 := bG hg; replace HB := BS hb; clear hb hbox hg; have hcz22 := cz3 BK907) | ((with_reducible refine gate_callee (f := 61) rfl ?_); refine goesL_ (some 7) rfl rfl Tryz.func61 KR rfl #[.agg #[.string a0_0, .int .i64 a0_1, .slice A0_2 l0_2.length c0_2]] rfl TA ?_; (with_reducible refine (impl_GoodZone.calls k a0_0 a0_1 _ _ l0_2 true _ ?side1 ?side2 ?side3 A3.out).mono ?_); (case side1 => exact CW ((Kd.C_below HR0_2.out HB.out))); (case side2 => exact HC0_2.out); (case side3 => exact GW HGL); rintro e w23 ⟨rfl, hb⟩; refine ⟨_, rfl, ?_⟩; replace BK907 := KB BK907 hb; replace HB := BS hb; (try clear hb); (try clear hb2); (try clear hk); (try clear hi)) | (go_at_call 62; (with_reducible refine (impl_GoodName.calls k a1 false _ A5.out).mono ?_); rintro e w24 ⟨rfl, hb⟩; replace BK907 := KB BK907 hb; replace HB := BS hb; (try clear hb); (try clear hb2); (try clear hk); (try clear hi)))
   go_ret2
   exact ⟨TE, TB⟩
 ·replace c4 := Bool.eq_false_iff.mpr c4
  subst c4
  replace H := iff' H
  simp only [Option.some.injEq, Prod.mk.injEq] at H
  obtain ⟨rfl, rfl⟩ := H
  go_enter Tryz.func16, Tryz.ntmps16
  go_wp2_with (first | ((with_reducible refine gate_dst (N := 2) rfl ?_); refine bE 2 #[.string a0_0, .int .i64 a0_1, .slice A0_2 l0_2.length c0_2] 30 ?_; intro gb907 hg w25 hbox hb; have BK907 := Aside0.mk (hbox); have GE907 := bG hg; replace HB := BS hb; clear hb hbox hg; have hcz26 := cz3 BK907) | ((with_reducible refine gate_callee (f := 61) rfl ?_); refine goesL_ (some 7) rfl rfl Tryz.func61 KR rfl #[.agg #[.string a0_0, .int .i64 a0_1, .slice A0_2 l0_2.length c0_2]] rfl TA ?_; (with_reducible refine (impl_GoodZone.calls k a0_0 a0_1 _ _ l0_2 false _ ?side1 ?side2 ?side3 A3.out).mono ?_); (case side1 => exact CW ((Kd.C_below HR0_2.out HB.out))); (case side2 => exact HC0_2.out); (case side3 => exact GW HGL); rintro e w27 ⟨rfl, hb⟩; refine ⟨_, rfl, ?_⟩; replace BK907 := KB BK907 hb; replace HB := BS hb; (try clear hb); (try clear hb2); (try clear hk); (try clear hi)))
  go_ret2
  exact ⟨TE, TB⟩
end
section
/-! ### laws_FnExactEncloserOf: function 3 -/
def laws_FnExactEncloserOf.j0 : Nat → Bool → ByteArray → Int → List (S_LRecord) → ByteArray → Int → List (S_Record) → Option (Bool)
 | 0, _, _, _, _, _, _, _ => none
 | k + 1, x41, x913000, x913001, x913002, x927000, x927001, x927002 => if x41 = true then (some false) else ((laws_toZone.f k x913000 x913001 x913002).bind fun bt929 => ((laws_eqZone.f k x927000 x927001 x927002 bt929.1 bt929.2.1 bt929.2.2).bind fun t934 => (if t934 = true then (some true) else (some false))))
def laws_FnExactEncloserOf.f (k : Nat) (a0_0 : ByteArray) (a0_1 : Int) (l0_2 : List (S_LRecord)) (a1 : ByteArray) : Option (Bool) := if (a1.size : Int) > 1048576 then (some true) else ((laws_szZone.f k a0_0 a0_1 l0_2 1048576).bind fun t913 => (if t913 < 0 then (some true) else ((laws_toZone.f k a0_0 a0_1 l0_2).bind fun bt914 => ((spec_EncloserOf.f k bt914.1 bt914.2.1 bt914.2.2 a1).bind fun bt919 => ((laws_toZone.f k a0_0 a0_1 l0_2).bind fun bt921 => ((impl_EncloserOf.f k bt921.1 bt921.2.1 bt921.2.2 a1).bind fun bt927 => (if bt927.1.toList = bt919.1.toList then (laws_FnExactEncloserOf.j0 k (bt927.2 != bt919.2) a0_0 a0_1 l0_2 bt921.1 bt921.2.1 bt921.2.2) else (laws_FnExactEncloserOf.j0 k true a0_0 a0_1 l0_2 bt921.1 bt921.2.1 bt921.2.2))))))))
theorem laws_FnExactEncloserOf.calls (k : Nat) (a0_0 : ByteArray) (a0_1 : Int) (A0_2 : Option Addr) (c0_2 : Nat) (l0_2 : List (S_LRecord)) (a1 : ByteArray) (r : Bool) (w : World) (hr0_2 : Kd.C k_LRecord w A0_2 l0_2.length l0_2) (hc0_2 : l0_2.length ≤ c0_2) (hG_ : Glob w) (h : laws_FnExactEncloserOf.f k a0_0 a0_1 l0_2 a1 = some r) :
  Calls Tryz.prog 3 #[.agg #[.string a0_0, .int .i64 a0_1, .slice A0_2 l0_2.length c0_2], .string a1] w fun e w' => e = .returned (.bool r) ∧ Below w.heap.size w w' := by
 have hu24 := Tryz.underlying24
 have hu30 := Tryz.underlying30
 have HR0_2 := Aside0.mk hr0_2
 have HC0_2 := Aside0.mk hc0_2
 clear hr0_2 hc0_2
 have HGL := Aside0.mk hG_
 clear hG_
 have HB := Aside0.mk (Below.refl w.heap.size w)
 have H : (if (a1.size : Int) > 1048576 then (some true) else ((laws_szZone.f k a0_0 a0_1 l0_2 1048576).bind fun t913 => (if t913 < 0 then (some true) else ((laws_toZone.f k a0_0 a0_1 l0_2).bind fun bt914 => ((spec_EncloserOf.f k bt914.1 bt914.2.1 bt914.2.2 a1).bind fun bt919 => ((laws_toZone.f k a0_0 a0_1 l0_2).bind fun bt921 => ((impl_EncloserOf.f k bt921.1 bt921.2.1 bt921.2.2 a1).bind fun bt927 => (if bt927.1.toList = bt919.1.toList then (laws_FnExactEncloserOf.j0 k (bt927.2 != bt919.2) a0_0 a0_1 l0_2 bt921.1 bt921.2.1 bt921.2.2) else (laws_FnExactEncloserOf.j0 k true a0_0 a0_1 l0_2 bt921.1 bt921.2.1 bt921.2.2))))))))) = some r := h
 clear h
 by_cases c3 : (a1.size : Int) > 1048576
 ·rw [if_pos c3] at H
  have c3b0 : decide (1048576 < (a1.size : Int)) = true := decide_eq_true c3
  have c3b1 : decide (1048576 < a1.size) = true := decide_eq_true (by omega)
  clear c3
  obtain rfl := Option.some.inj H
  go_enter Tryz.func3, Tryz.ntmps3
  go_wp2_with (first | ((with_reducible refine gate_dst (N := 2) rfl ?_); refine bE 2 #[.string a0_0, .int .i64 a0_1, .slice A0_2 l0_2.length c0_2] 24 ?_; intro gb912 hg w4 hbox hb; have BK912 := Aside0.mk (hbox); have GE912 := bG hg; replace HB := BS hb; clear hb hbox hg))
  go_ret
  exact ⟨TE, TB⟩
 ·rw [if_neg c3] at H
  have c3b0 : decide (1048576 < (a1.size : Int)) = false := decide_eq_false c3
  have c3b1 : decide (1048576 < a1.size) = false := decide_eq_false (by omega)
  clear c3
  obtain ⟨t913, A5, H⟩ := bnd H
  by_cases c6 : t913 < 0
  ·rw [if_pos c6] at H
   have c6b0 : decide (t913 < 0) = true := decide_eq_true c6
   clear c6
   obtain rfl := Option.some.inj H
   go_enter Tryz.func3, Tryz.ntmps3
   go_wp2_with (first | ((with_reducible refine gate_dst (N := 2) rfl ?_); refine bE 2 #[.string a0_0, .int .i64 a0_1, .slice A0_2 l0_2.length c0_2] 24 ?_; intro gb912 hg w7 hbox hb; have BK912 := Aside0.mk (hbox); have GE912 := bG hg; replace HB := BS hb; clear hb hbox hg; have hcz8 := cz3 BK912) | ((with_reducible refine gate_callee (f := 13) rfl ?_); refine goesL_ (some 16) rfl rfl Tryz.func13 KR rfl #[.agg #[.string a0_0, .int .i64 a0_1, .slice A0_2 l0_2.length c0_2], .int .i64 1048576] rfl TA ?_; (with_reducible refine (laws_szZone.calls k a0_0 a0_1 _ _ l0_2 1048576 t913 _ ?side1 ?side2 A5.out).mono ?_); (case side1 => exact CW ((Kd.C_below HR0_2.out HB.out))); (case side2 => exact HC0_2.out); rintro e w9 ⟨rfl, hb⟩; refine ⟨_, rfl, ?_⟩; replace BK912 := KB BK912 hb; replace HB := BS hb; (try clear hb); (try clear hb2); (try clear hk); (try clear hi)))
   go_ret
   exact ⟨TE, TB⟩
  ·rw [if_neg c6] at H
   have c6b0 : decide (t913 < 0) = false := decide_eq_false c6
   clear c6
   obtain ⟨⟨t914, t915, t916⟩, A10, H⟩ := bnd H
   try dsimp only at H
   obtain ⟨⟨t919, t920⟩, A11, H⟩ := bnd H
   try dsimp only at H
   obtain ⟨⟨t921, t922, t923⟩, A12, H⟩ := bnd H
   try dsimp only at H
   obtain ⟨⟨t927, t928⟩, A13, H⟩ := bnd H
   try dsimp only at H
   have HC14 := Aside0.mk H
   clear H
   go_enter Tryz.func3, Tryz.ntmps3
   go_upto_region 10 with (first | ((with_reducible refine gate_dst (N := 2) rfl ?_); refine bE 2 #[.string a0_0, .int .i64 a0_1, .slice A0_2 l0_2.length c0_2] 24 ?_; intro gb912 hg w15 hbox hb; have BK912 := Aside0.mk (hbox); have GE912 := bG hg; replace HB := BS hb; clear hb hbox hg; have hcz16 := cz3 BK912) | ((with_reducible refine gate_callee (f := 13) rfl ?_); refine goesL_ (some 16) rfl rfl Tryz.func13 KR rfl #[.agg #[.string a0_0, .int .i64 a0_1, .slice A0_2 l0_2.length c0_2], .int .i64 1048576] rfl TA ?_; (with_reducible refine (laws_szZone.calls k a0_0 a0_1 _ _ l0_2 1048576 t913 _ ?side1 ?side2 A5.out).mono ?_); (case side1 => exact CW ((Kd.C_below HR0_2.out HB.out))); (case side2 => exact HC0_2.out); rintro e w17 ⟨rfl, hb⟩; refine ⟨_, rfl, ?_⟩; replace BK912 := KB BK912 hb; replace HB := BS hb; (try clear hb); (try clear hb2); (try clear hk); (try clear hi); have hcz18 := cz3 BK912) | ((with_reducible refine gate_callee (f := 15) rfl ?_); refine goesL_ (some 21) rfl rfl Tryz.func15 KR rfl #[.agg #[.string a0_0, .int .i64 a0_1, .slice A0_2 l0_2.length c0_2]] rfl TA ?_; (with_reducible refine (laws_toZone.calls k a0_0 a0_1 _ _ l0_2 t914 t915 t916 _ ?side1 ?side2 A10.out).mono ?_); (case side1 => exact CW ((Kd.C_below HR0_2.out HB.out))); (case side2 => exact HC0_2.out); rintro e w19 ⟨v917, rfl, ho0, hb⟩; refine ⟨_, rfl, ?_⟩; have HO918 := RL ho0; replace BK912 := KB BK912 hb; replace HB := BS hb; (try clear hb); (try clear hb2); (try clear hk); (try clear hi); (try clear ho0); obtain ⟨Ao20, co20, eo20⟩ := Kd.R_slice HO918.out; subst eo20) | ((with_reducible refine gate_callee (f := 14) rfl ?_); refine goesL_ (some 23) rfl rfl Tryz.func14 KR rfl #[.agg #[.string t914, .int .i64 t915, .slice Ao20 t916.length co20], .string a1] rfl TA ?_; (with_reducible refine (spec_EncloserOf.calls k t914 t915 _ _ t916 a1 t919 t920 _ ?side1 ?side2 A11.out).mono ?_); (case side1 => exact CW ((Kd.R_reads' HO918.out).2.2)); (case side2 => exact (Kd.R_reads' HO918.out).2.1); rintro e w21 ⟨rfl, hb⟩; refine ⟨_, rfl, ?_⟩; replace HO918 := RB HO918 hb; replace BK912 := KB BK912 hb; replace HB := BS hb; (try clear hb); (try clear hb2); (try clear hk); (try clear hi); have hcz22 := cz3 BK912) | ((with_reducible refine gate_callee (f := 15) rfl ?_); refine goesL_ (some 27) rfl rfl Tryz.func15 KR rfl #[.agg #[.string a0_0, .int .i64 a0_1, .slice A0_2 l0_2.length c0_2]] rfl TA ?_; (with_reducible refine (laws_toZone.calls k a0_0 a0_1 _ _ l0_2 t921 t922 t923 _ ?side1 ?side2 A12.out).mono ?_); (case side1 => exact CW ((Kd.C_below HR0_2.out HB.out))); (case side2 => exact HC0_2.out); rintro e w23 ⟨v924, rfl, ho0, hb⟩; refine ⟨_, rfl, ?_⟩; have HO925 := Aside0.mk (Kd.R_lower (Kd.R_new' ho0 (Kd.R_lt (RW HO918).out)) (below_size TB)); replace HO918 := Aside0.mk (Kd.R_elder' (RW HO918).out (Kd.R_base ho0) hb); replace BK912 := KB BK912 hb; replace HB := BS hb; (try clear hb); (try clear hb2); (try clear hk); (try clear hi); (try clear ho0)) | ((with_reducible refine gate_dst (N := 8) rfl ?_); refine bE 8 #[.string (⟨#[]⟩ : ByteArray), .int .i64 0, .slice none 0 0] 30 ?_; intro gb926 hg w24 hbox hb; replace HO918 := RB HO918 hb; replace HO925 := RB HO925 hb; have BK926 := Aside0.mk (hbox); have GE926 := bG hg; replace HB := BS hb; have NB912_926 := bN BK912 hg; have NB926_912 := bM BK912 hg; replace BK912 := KB BK912 hb; clear hb hbox hg; have hnb25 := NB926_912.out; have hnc25 := NB912_926.out; have hcz26 := cz3 BK926; obtain ⟨Ao27, co27, eo27⟩ := Kd.R_slice HO925.out; subst eo27) | ((with_reducible refine gate_callee (f := 16) rfl ?_); refine goesL_ (some 31) rfl rfl Tryz.func16 KR rfl #[.agg #[.string t921, .int .i64 t922, .slice Ao27 t923.length co27], .string a1] rfl TA ?_; (with_reducible refine (impl_EncloserOf.calls k t921 t922 _ _ t923 a1 t927 t928 _ ?side1 ?side2 ?side3 A13.out).mono ?_); (case side1 => refine (Kd.R_reads' (e := 100) (base := w.heap.size) (ok := fun k_ => (True ∧ some k_ ≠ (.slice Ao20 t916.length co20 : Value).ownBlock)) (n := t923.length) (c := co27) ?_).2.2; exact (by (with_reducible repeat (first | apply Kd.R_alloc | apply Kd.R_drewN | apply Kd.R_drew)); exact (Kd.R_mono (Kd.R_far (p := ⟨gb926, 2, none⟩) (Kd.R_far (p := ⟨gb926, 1, none⟩) (Kd.R_far (p := ⟨gb926, 0, none⟩) (Kd.R_types HO925.out BK926.out (by decide)) (fun _ hk => hk.2) (.string t921)) (fun _ hk => hk.2) (.int .i64 t922)) (fun _ hk => hk.2) (.slice Ao27 t923.length co27)) (fun _ h_ => h_.1)))); (case side2 => exact (Kd.R_reads' HO925.out).2.1); (case side3 => exact GW HGL); rintro e w28 ⟨rfl, hb⟩; refine ⟨_, rfl, ?_⟩; replace HO918 := Aside0.mk (Kd.R_below (by (with_reducible repeat (first | apply Kd.R_alloc | apply Kd.R_drewN | apply Kd.R_drew)); exact (Kd.R_mono (Kd.R_far (p := ⟨gb926, 2, none⟩) (Kd.R_far (p := ⟨gb926, 1, none⟩) (Kd.R_far (p := ⟨gb926, 0, none⟩) (Kd.R_types HO918.out BK926.out (by decide)) (fun _ hk => hk.2) (.string t921)) (fun _ hk => hk.2) (.int .i64 t922)) (fun _ hk => hk.2) (.slice Ao27 t923.length co27)) (fun _ h_ => h_.1))) hb); replace HO925 := Aside0.mk (Kd.R_below (by (with_reducible repeat (first | apply Kd.R_alloc | apply Kd.R_drewN | apply Kd.R_drew)); exact (Kd.R_mono (Kd.R_far (p := ⟨gb926, 2, none⟩) (Kd.R_far (p := ⟨gb926, 1, none⟩) (Kd.R_far (p := ⟨gb926, 0, none⟩) (Kd.R_types HO925.out BK926.out (by decide)) (fun _ hk => hk.2) (.string t921)) (fun _ hk => hk.2) (.int .i64 t922)) (fun _ hk => hk.2) (.slice Ao27 t923.length co27)) (fun _ h_ => h_.1))) hb); replace BK912 := Aside0.mk (blk_below (g := gb912) (o := .cells #[.string a0_0, .int .i64 a0_1, .slice A0_2 l0_2.length c0_2] 24 (0, 0)) (by (with_reducible repeat (first | refine blk_drewN ?_ _ | refine blk_drew ?_ | refine blk_alloc ?_ _)); refine blk_far ?_ NB912_926.out _; (with_reducible repeat (first | refine blk_drewN ?_ _ | refine blk_drew ?_ | refine blk_alloc ?_ _)); refine blk_far ?_ NB912_926.out _; (with_reducible repeat (first | refine blk_drewN ?_ _ | refine blk_drew ?_ | refine blk_alloc ?_ _)); refine blk_far ?_ NB912_926.out _; (with_reducible repeat (first | refine blk_drewN ?_ _ | refine blk_drew ?_ | refine blk_alloc ?_ _)); exact BK912.out) hb); replace BK926 := Aside0.mk (blk_below (g := gb926) (o := .cells #[.string t921, .int .i64 t922, .slice Ao27 t923.length co27] 30 (0, 0)) (by (with_reducible repeat (first | refine blk_drewN ?_ _ | refine blk_drew ?_ | refine blk_alloc ?_ _)); refine blk_put (cs := #[.string t921, .int .i64 t922, .slice none 0 0]) ?_ 2 _ rfl; (with_reducible repeat (first | refine blk_drewN ?_ _ | refine blk_drew ?_ | refine blk_alloc ?_ _)); refine blk_put (cs := #[.string t921, .int .i64 0, .slice none 0 0]) ?_ 1 _ rfl; (with_reducible repeat (first | refine blk_drewN ?_ _ | refine blk_drew ?_ | refine blk_alloc ?_ _)); refine blk_put (cs := #[.string (⟨#[]⟩ : ByteArray), .int .i64 0, .slice none 0 0]) ?_ 0 _ rfl; (with_reducible repeat (first | refine blk_drewN ?_ _ | refine blk_drew ?_ | refine blk_alloc ?_ _)); exact BK926.out) hb); replace HB := BS hb; (try clear hb); (try clear hb2); (try clear hk); (try clear hi)))
   (try simp only [Act.put, List.setIfInBounds_toArray, List.set_cons_zero, List.set_cons_succ])
   go_cut [41] (fun v41 wc => ∃ (kq : Nat) (x41_13 : Bool), v41 = .bool x41_13 ∧ Aside0 (laws_FnExactEncloserOf.j0 kq x41_13 a0_0 a0_1 l0_2 t921 t922 t923 = some r) ∧ Aside0 (kq ≤ k) ∧ Aside0 (Kd.R k_Record 100 wc w.heap.size (fun _ => True) (.slice Ao27 t923.length co27) t923) ∧ Aside0 (wc.heap[gb912]? = some (.cells #[.string a0_0, .int .i64 a0_1, (.slice A0_2 l0_2.length c0_2)] 24 (0, 0))) ∧ Aside0 (wc.heap[gb926]? = some (.cells #[.string t921, .int .i64 t922, (.slice Ao27 t923.length co27)] 30 (0, 0))) ∧ Aside0 (Below w.heap.size w wc))
   case first =>
    have H := HC14.out
    clear HC14
    by_cases c29 : t927.toList = t919.toList
    ·rw [if_pos c29] at H
     have c29b0 : (t927.toList == t919.toList) = true := beq_iff_eq.mpr c29
     have c29b1 : (t927.toList != t919.toList) = false := bne_eq_false_iff_eq.mpr c29
     clear c29
     (first | rw [c29b0] | (simp only [i64_w, i32_w]; rw [c29b0]) | rw [c29b1] | skip)
     have H' := Aside0.mk H
     clear H
     go_wp2
     go_meet
     case rel => exact ⟨_, ((t928 != t920)), TF, H', ⟨by first | omega | exact Nat.le_refl _⟩, ⟨by (with_reducible repeat (first | apply Kd.R_alloc | apply Kd.R_drewN | apply Kd.R_drew)); exact Kd.R_mono HO925.out (fun _ hk => trivial)⟩, KW BK912, KW BK926, ⟨TB⟩⟩
    ·rw [if_neg c29] at H
     have c29b0 : (t927.toList == t919.toList) = false := beq_eq_false_iff_ne.mpr c29
     have c29b1 : (t927.toList != t919.toList) = true := bne_iff_ne.mpr c29
     (first | rw [c29b0] | (simp only [i64_w, i32_w]; rw [c29b0]) | rw [c29b1] | skip)
     have H' := Aside0.mk H
     clear H
     go_wp2
     go_meet
     case rel => exact ⟨_, (true), TF, H', ⟨by first | omega | exact Nat.le_refl _⟩, ⟨by (with_reducible repeat (first | apply Kd.R_alloc | apply Kd.R_drewN | apply Kd.R_drew)); exact Kd.R_mono HO925.out (fun _ hk => trivial)⟩, KW BK912, KW BK926, ⟨TB⟩⟩
   case rest =>
    clear HC14
    try clear c1
    try clear c2
    try clear p2
    try clear c3
    try clear c3b0
    try clear c3b1
    try clear c6
    try clear c6b0
    try clear c13
    try clear c14
    try clear c15
    try clear c16
    try clear c25
    try clear c29
    try clear c29b0
    try clear c29b1
    try clear hcz16
    try clear hcz18
    try clear hcz22
    try clear hcz26
    try clear hcz8
    try clear hfz16_0
    try clear hfz16_1
    try clear hfz16_2
    try clear hfz18_0
    try clear hfz18_1
    try clear hfz18_2
    try clear hfz22_0
    try clear hfz22_1
    try clear hfz22_2
    try clear hfz26_0
    try clear hfz26_1
    try clear hfz26_2
    try clear hfz8_0
    try clear hfz8_1
    try clear hfz8_2
    obtain ⟨kq, x41_13, rfl, HA, HJ13, HO_927002, BK912, BK926, HB⟩ := hcut
    cases kq with
    | zero => exact absurd HA.out (by simp [laws_FnExactEncloserOf.j0])
    | succ kj13 =>
     have H := HA.out
     clear HA
     simp only [laws_FnExactEncloserOf.j0] at H
     by_cases c30 : x41_13 = true
     ·subst c30
      replace H := ift H
      obtain rfl := Option.some.inj H
      go_wp2
      go_ret
      exact ⟨TE, TB⟩
     ·replace c30 := Bool.eq_false_iff.mpr c30
      subst c30
      replace H := iff' H
      obtain ⟨⟨t929, t930, t931⟩, A31, H⟩ := bnd H
      try dsimp only at H
      obtain ⟨t934, A32, H⟩ := bnd H
      by_cases c33 : t934 = true
      ·subst c33
       replace H := ift H
       obtain rfl := Option.some.inj H
       try go_wp2
       replace HO_927002 := Aside0.mk (Kd.R_drew HO_927002.out)
       replace BK912 := Aside0.mk (blk_drew BK912.out)
       replace BK926 := Aside0.mk (blk_drew BK926.out)
       replace HB := Aside0.mk (below_drew1 HB.out)
       refine start_ (n := 5) (S := fun w' => w'.cell? ⟨gb926, 0, none⟩ = some (.string t921) ∧ w'.cell? ⟨gb926, 1, none⟩ = some (.int .i64 t922) ∧ w'.cell? ⟨gb926, 2, none⟩ = some (.slice Ao27 t923.length co27) ∧ w'.cell? ⟨gb912, 0, none⟩ = some (.string a0_0) ∧ w'.cell? ⟨gb912, 1, none⟩ = some (.int .i64 a0_1) ∧ w'.cell? ⟨gb912, 2, none⟩ = some (.slice A0_2 l0_2.length c0_2)) (ds := []) #[false, false, false, false, false] KR rfl rfl ⟨bc 0 BK926, bc 1 BK926, bc 2 BK926, bc 0 BK912, bc 1 BK912, bc 2 BK912⟩ (fun hHeld => ?_)
       generalize wc.drew = w34 at HO_927002 BK912 BK926 HB hHeld ⊢
       refine take_ (i := 0) (N := some 42) (v := ?_) (a' := ?_) #[true, false, false, false, false] rfl rfl KR (fun _ _ _ h => h) (Or.inl ⟨by rfl, ?_⟩) hHeld ?_ ?_
       rotate_left
       ·rintro w' ⟨s0, s1, s2, s3, s4, s5⟩
        go_simp
        with_reducible rfl
       rotate_left
       ·simp only [Act.put, List.setIfInBounds_toArray, List.set_cons_zero, List.set_cons_succ, i64_w, i32_w]
        rfl
       refine take_ (i := 1) (N := some 43) (v := ?_) (a' := ?_) #[true, true, false, false, false] rfl rfl KR (fun _ _ _ h => h) (Or.inl ⟨by rfl, ?_⟩) hHeld ?_ ?_
       rotate_left
       ·rintro w' ⟨s0, s1, s2, s3, s4, s5⟩
        go_simp
        with_reducible rfl
       rotate_left
       ·simp only [Act.put, List.setIfInBounds_toArray, List.set_cons_zero, List.set_cons_succ, i64_w, i32_w]
        rfl
       refine one_ (i := 2) (N := some 44) (mL 5 7) rfl rfl KR (by decide) (fun K hK => ?_)
       refine goes_ Tryz.func15 KR rfl #[.agg #[.string a0_0, .int .i64 a0_1, .slice A0_2 l0_2.length c0_2]] (by rfl) rfl rfl TA ?_
       with_reducible refine (laws_toZone.calls kj13 a0_0 a0_1 _ _ l0_2 t929 t930 t931 _ ?side1 ?side2 A31.out).mono ?_
       (case side1 => exact CW ((Kd.C_below HR0_2.out HB.out)))
       (case side2 => exact HC0_2.out)
       rintro e w35 ⟨v932, rfl, ho0, hb⟩
       refine ⟨_, rfl, ?_⟩
       have HO933 := Aside0.mk (Kd.R_lower (Kd.R_new' ho0 (Kd.R_lt (RW HO_927002).out)) (below_size TB))
       replace HO_927002 := Aside0.mk (Kd.R_elder' (RW HO_927002).out (Kd.R_base ho0) hb)
       replace BK912 := KB BK912 hb
       replace BK926 := KB BK926 hb
       replace HB := BS hb
       (try clear hb)
       (try clear hb2)
       (try clear hk)
       (try clear hi)
       (try clear ho0)
       obtain ⟨Ao36, co36, eo36⟩ := Kd.R_slice HO933.out
       (first | subst eo36 | (injection eo36 with f1_ f2_ f3_; have f4_ := f1_.symm; have f5_ := f3_.symm; clear f1_ f2_ f3_; subst f4_; subst f5_))
       refine hK.out _ _ ⟨bc 0 BK926, bc 1 BK926, bc 2 BK926, bc 0 BK912, bc 1 BK912, bc 2 BK912⟩ (fun hHeld => ?_)
       clear hK K
       refine nA ?_
       refine one_ (i := 3) (N := some 45) (mL 5 15) rfl rfl KR (by decide) (fun K hK => ?_)
       refine goes_ Tryz.func17 KR rfl #[.agg #[.string t921, .int .i64 t922, .slice Ao27 t923.length co27], .agg #[.string t929, .int .i64 t930, .slice Ao36 t931.length co36]] (by rfl) rfl rfl TA ?_
       with_reducible refine (laws_eqZone.calls kj13 t921 t922 _ _ t923 t929 t930 _ _ t931 true _ ?side1 ?side2 ?side3 ?side4 A32.out).mono ?_
       (case side1 => exact CW ((Kd.R_reads' HO_927002.out).2.2))
       (case side2 => exact (Kd.R_reads' HO_927002.out).2.1)
       (case side3 => exact CW ((Kd.R_reads' HO933.out).2.2))
       (case side4 => exact (Kd.R_reads' HO933.out).2.1)
       rintro e w37 ⟨rfl, hb⟩
       refine ⟨_, rfl, ?_⟩
       replace HO_927002 := RB HO_927002 hb
       replace HO933 := RB HO933 hb
       replace BK912 := KB BK912 hb
       replace BK926 := KB BK926 hb
       replace HB := BS hb
       (try clear hb)
       (try clear hb2)
       (try clear hk)
       (try clear hi)
       refine hK.out _ _ ⟨bc 0 BK926, bc 1 BK926, bc 2 BK926, bc 0 BK912, bc 1 BK912, bc 2 BK912⟩ (fun hHeld => ?_)
       clear hK K
       refine nA ?_
       refine pure_ (i := 4) (N := some 46) (v := ?_) (a' := ?_) #[true, true, true, true, true] rfl rfl KR (fun _ _ _ h => h) (Or.inl ⟨by rfl, ?_⟩) ?_ ?_
       rotate_left
       ·intro w'
        go_simp
        with_reducible rfl
       rotate_left
       ·simp only [Act.put, List.setIfInBounds_toArray, List.set_cons_zero, List.set_cons_succ, i64_w, i32_w]
        rfl
       refine done_ KR ?_
       try go_wp2
       go_ret
       exact ⟨TE, TB⟩
      ·replace c33 := Bool.eq_false_iff.mpr c33
       subst c33
       replace H := iff' H
       obtain rfl := Option.some.inj H
       try go_wp2
       replace HO_927002 := Aside0.mk (Kd.R_drew HO_927002.out)
       replace BK912 := Aside0.mk (blk_drew BK912.out)
       replace BK926 := Aside0.mk (blk_drew BK926.out)
       replace HB := Aside0.mk (below_drew1 HB.out)
       refine start_ (n := 5) (S := fun w' => w'.cell? ⟨gb926, 0, none⟩ = some (.string t921) ∧ w'.cell? ⟨gb926, 1, none⟩ = some (.int .i64 t922) ∧ w'.cell? ⟨gb926, 2, none⟩ = some (.slice Ao27 t923.length co27) ∧ w'.cell? ⟨gb912, 0, none⟩ = some (.string a0_0) ∧ w'.cell? ⟨gb912, 1, none⟩ = some (.int .i64 a0_1) ∧ w'.cell? ⟨gb912, 2, none⟩ = some (.slice A0_2 l0_2.length c0_2)) (ds := []) #[false, false, false, false, false] KR rfl rfl ⟨bc 0 BK926, bc 1 BK926, bc 2 BK926, bc 0 BK912, bc 1 BK912, bc 2 BK912⟩ (fun hHeld => ?_)
       generalize wc.drew = w38 at HO_927002 BK912 BK926 HB hHeld ⊢
       refine take_ (i := 0) (N := some 42) (v := ?_) (a' := ?_) #[true, false, false, false, false] rfl rfl KR (fun _ _ _ h => h) (Or.inl ⟨by rfl, ?_⟩) hHeld ?_ ?_
       rotate_left
       ·rintro w' ⟨s0, s1, s2, s3, s4, s5⟩
        go_simp
        with_reducible rfl
       rotate_left
       ·simp only [Act.put, List.setIfInBounds_toArray, List.set_cons_zero, List.set_cons_succ, i64_w, i32_w]
        rfl
       refine take_ (i := 1) (N := some 43) (v := ?_) (a' := ?_) #[true, true, false, false, false] rfl rfl KR (fun _ _ _ h => h) (Or.inl ⟨by rfl, ?_⟩) hHeld ?_ ?_
       rotate_left
       ·rintro w' ⟨s0, s1, s2, s3, s4, s5⟩
        go_simp
        with_reducible rfl
       rotate_left
       ·simp only [Act.put, List.setIfInBounds_toArray, List.set_cons_zero, List.set_cons_succ, i64_w, i32_w]
        rfl
       refine one_ (i := 2) (N := some 44) (mL 5 7) rfl rfl KR (by decide) (fun K hK => ?_)
       refine goes_ Tryz.func15 KR rfl #[.agg #[.string a0_0, .int .i64 a0_1, .slice A0_2 l0_2.length c0_2]] (by rfl) rfl rfl TA ?_
       with_reducible refine (laws_toZone.calls kj13 a0_0 a0_1 _ _ l0_2 t929 t930 t931 _ ?side1 ?side2 A31.out).mono ?_
       (case side1 => exact CW ((Kd.C_below HR0_2.out HB.out)))
       (case side2 => exact HC0_2.out)
       rintro e w39 ⟨v932, rfl, ho0, hb⟩
       refine ⟨_, rfl, ?_⟩
       have HO933 := Aside0.mk (Kd.R_lower (Kd.R_new' ho0 (Kd.R_lt (RW HO_927002).out)) (below_size TB))
       replace HO_927002 := Aside0.mk (Kd.R_elder' (RW HO_927002).out (Kd.R_base ho0) hb)
       replace BK912 := KB BK912 hb
       replace BK926 := KB BK926 hb
       replace HB := BS hb
       (try clear hb)
       (try clear hb2)
       (try clear hk)
       (try clear hi)
       (try clear ho0)
       obtain ⟨Ao40, co40, eo40⟩ := Kd.R_slice HO933.out
       (first | subst eo40 | (injection eo40 with f1_ f2_ f3_; have f4_ := f1_.symm; have f5_ := f3_.symm; clear f1_ f2_ f3_; subst f4_; subst f5_))
       refine hK.out _ _ ⟨bc 0 BK926, bc 1 BK926, bc 2 BK926, bc 0 BK912, bc 1 BK912, bc 2 BK912⟩ (fun hHeld => ?_)
       clear hK K
       refine nA ?_
       refine one_ (i := 3) (N := some 45) (mL 5 15) rfl rfl KR (by decide) (fun K hK => ?_)
       refine goes_ Tryz.func17 KR rfl #[.agg #[.string t921, .int .i64 t922, .slice Ao27 t923.length co27], .agg #[.string t929, .int .i64 t930, .slice Ao40 t931.length co40]] (by rfl) rfl rfl TA ?_
       with_reducible refine (laws_eqZone.calls kj13 t921 t922 _ _ t923 t929 t930 _ _ t931 false _ ?side1 ?side2 ?side3 ?side4 A32.out).mono ?_
       (case side1 => exact CW ((Kd.R_reads' HO_927002.out).2.2))
       (case side2 => exact (Kd.R_reads' HO_927002.out).2.1)
       (case side3 => exact CW ((Kd.R_reads' HO933.out).2.2))
       (case side4 => exact (Kd.R_reads' HO933.out).2.1)
       rintro e w41 ⟨rfl, hb⟩
       refine ⟨_, rfl, ?_⟩
       replace HO_927002 := RB HO_927002 hb
       replace HO933 := RB HO933 hb
       replace BK912 := KB BK912 hb
       replace BK926 := KB BK926 hb
       replace HB := BS hb
       (try clear hb)
       (try clear hb2)
       (try clear hk)
       (try clear hi)
       refine hK.out _ _ ⟨bc 0 BK926, bc 1 BK926, bc 2 BK926, bc 0 BK912, bc 1 BK912, bc 2 BK912⟩ (fun hHeld => ?_)
       clear hK K
       refine nA ?_
       refine pure_ (i := 4) (N := some 46) (v := ?_) (a' := ?_) #[true, true, true, true, true] rfl rfl KR (fun _ _ _ h => h) (Or.inl ⟨by rfl, ?_⟩) ?_ ?_
       rotate_left
       ·intro w'
        go_simp
        with_reducible rfl
       rotate_left
       ·simp only [Act.put, List.setIfInBounds_toArray, List.set_cons_zero, List.set_cons_succ, i64_w, i32_w]
        rfl
       refine done_ KR ?_
       try go_wp2
       go_ret
       exact ⟨TE, TB⟩

/-- THE ONE PURE STATEMENT of laws_FnExactEncloserOf. -/
def laws_FnExactEncloserOf.Pure : Prop := ∀ (a0_0 : ByteArray) (a0_1 : Int) (l0_2 : List (S_LRecord)) (a1 : ByteArray), (a0_0.size ≤ maxLen) → ((Lit.int .i64 a0_1).wf = true) → (l0_2.length ≤ maxLen ∧ ∀ x_ ∈ l0_2, WF_LRecord x_) → (a1.size ≤ maxLen) → ∃ k, laws_FnExactEncloserOf.f k a0_0 a0_1 l0_2 a1 = some true
end
section
/-! ### impl_cutAbove: function 141 -/
def impl_cutAbove.l0 : Nat → ByteArray → ByteArray → Bool → ByteArray → Int → List (S_Record) → Option (ByteArray × Bool)
 | 0, _, _, _, _, _, _ => none
 | k + 1, x1, x6, x7, x573000, x573001, x573002 => if x1.toList = x573000.toList then (some (x6, x7)) else ((impl_at.f k x573002 x1 2).bind fun t573 => (if (t573.length : Int) > 0 then ((impl_parentOf.f x1).bind fun t576 => (impl_cutAbove.l0 k t576 x1 true x573000 x573001 x573002)) else ((impl_parentOf.f x1).bind fun t577 => (impl_cutAbove.l0 k t577 x6 x7 x573000 x573001 x573002))))
def impl_cutAbove.f (k : Nat) (a0_0 : ByteArray) (a0_1 : Int) (l0_2 : List (S_Record)) (a1 : ByteArray) : Option (ByteArray × Bool) := impl_cutAbove.l0 k a1 (⟨#[]⟩ : ByteArray) false a0_0 a0_1 l0_2
theorem impl_cutAbove.calls (k : Nat) (a0_0 : ByteArray) (a0_1 : Int) (A0_2 : Option Addr) (c0_2 : Nat) (l0_2 : List (S_Record)) (a1 : ByteArray) (r1 : ByteArray) (r2 : Bool) (w : World) (hr0_2 : Kd.C k_Record w A0_2 l0_2.length l0_2) (hc0_2 : l0_2.length ≤ c0_2) (h : impl_cutAbove.f k a0_0 a0_1 l0_2 a1 = some (r1, r2)) :
  Calls Tryz.prog 141 #[.agg #[.string a0_0, .int .i64 a0_1, .slice A0_2 l0_2.length c0_2], .string a1] w fun e w' => e = .returned (.tuple #[.string r1, .bool r2]) ∧ Below w.heap.size w w' := by
 have hu30 := Tryz.underlying30
 have HR0_2 := Aside0.mk hr0_2
 have HC0_2 := Aside0.mk hc0_2
 clear hr0_2 hc0_2
 have HB := Aside0.mk (Below.refl w.heap.size w)
 have H : (impl_cutAbove.l0 k a1 (⟨#[]⟩ : ByteArray) false a0_0 a0_1 l0_2) = some (r1, r2) := h
 clear h
 have H' := Aside0.mk H
 clear H
 go_enter Tryz.func141, Tryz.ntmps141
 go_wp2_with (first | ((with_reducible refine gate_dst (N := 2) rfl ?_); refine bE 2 #[.string a0_0, .int .i64 a0_1, .slice A0_2 l0_2.length c0_2] 30 ?_; intro gb572 hg w3 hbox hb; have BK572 := Aside0.mk (hbox); have GE572 := bG hg; replace HB := BS hb; clear hb hbox hg))
 go_loopg [1, 6, 7] k (fun kq v1 v6 v7 w' => ∃ (x1_1 : ByteArray) (x6_1 : ByteArray) (x7_1 : Bool), v1 = .string x1_1 ∧ v6 = .string x6_1 ∧ v7 = .bool x7_1 ∧ Aside0 (impl_cutAbove.l0 kq x1_1 x6_1 x7_1 a0_0 a0_1 l0_2 = some (r1, r2)) ∧ Aside0 (kq ≤ k) ∧ Aside0 (w'.heap[gb572]? = some (.cells #[.string a0_0, .int .i64 a0_1, (.slice A0_2 l0_2.length c0_2)] 30 (0, 0))) ∧ Aside0 (Below w.heap.size w w'))
 case atStart => exact ⟨(a1), ((⟨#[]⟩ : ByteArray)), (false), TF, TF, TF, H', ⟨Nat.le_refl _⟩, KW BK572, ⟨TB⟩⟩
 case round =>
  clear H'
  try clear c1
  try clear p2
  obtain ⟨x1_1, x6_1, x7_1, rfl, rfl, rfl, HA, HK1, BK572, HB⟩ := hrel
  cases gk with
  | zero => exact absurd HA.out (by simp [impl_cutAbove.l0])
  | succ k1 =>
   have H := HA.out
   clear HA
   simp only [impl_cutAbove.l0] at H
   by_cases c4 : x1_1.toList = a0_0.toList
   ·rw [if_pos c4] at H
    have c4b0 : (x1_1.toList == a0_0.toList) = true := beq_iff_eq.mpr c4
    have c4b1 : (x1_1.toList != a0_0.toList) = false := bne_eq_false_iff_eq.mpr c4
    clear c4
    simp only [Option.some.injEq, Prod.mk.injEq] at H
    obtain ⟨rfl, rfl⟩ := H
    have hcz5 := cz3 BK572
    go_wp2
    go_ret2
    exact ⟨TE, TB⟩
   ·rw [if_neg c4] at H
    have c4b0 : (x1_1.toList == a0_0.toList) = false := beq_eq_false_iff_ne.mpr c4
    have c4b1 : (x1_1.toList != a0_0.toList) = true := bne_iff_ne.mpr c4
    obtain ⟨t573, A6, H⟩ := bnd H
    by_cases c7 : (t573.length : Int) > 0
    ·rw [if_pos c7] at H
     have c7b0 : decide (0 < (t573.length : Int)) = true := decide_eq_true c7
     have c7b1 : decide (0 < t573.length) = true := decide_eq_true (by omega)
     clear c7
     obtain ⟨t576, A8, H⟩ := bnd H
     have H' := Aside0.mk H
     clear H
     have hcz9 := cz3 BK572
     go_wp2_with (first | ((with_reducible refine gate_callee (f := 85) rfl ?_); refine goesL_ (some 17) rfl rfl Tryz.func85 KR rfl #[.slice A0_2 l0_2.length c0_2, .string x1_1, .int .i64 2] rfl TA ?_; (with_reducible refine (impl_at.calls k1 _ _ l0_2 x1_1 2 t573 _ ?side1 ?side2 A6.out).mono ?_); (case side1 => exact CW ((Kd.C_below HR0_2.out HB.out))); (case side2 => exact HC0_2.out); rintro e w10 ⟨v574, rfl, ho0, hb⟩; refine ⟨_, rfl, ?_⟩; have HO575 := RL ho0; replace BK572 := KB BK572 hb; replace HB := BS hb; (try clear hb); (try clear hb2); (try clear hk); (try clear hi); (try clear ho0); obtain ⟨Ao11, co11, eo11⟩ := Kd.R_slice HO575.out; subst eo11) | ((with_reducible refine gate_callee (f := 120) rfl ?_); refine goesL_ (some 13) rfl rfl Tryz.func120 KR rfl #[.string x1_1] rfl TA ?_; (with_reducible refine (impl_parentOf.calls x1_1 t576 _ A8.out).mono ?_); rintro e w' ⟨rfl, ⟨nd, rfl⟩⟩; refine ⟨_, rfl, ?_⟩))
     go_roundg k1
     case measure => have := HK1.out; omega
     case rel => exact ⟨(t576), (x1_1), (true), TF, TF, TF, H', ⟨TM⟩, KW BK572, ⟨TB⟩⟩
    ·rw [if_neg c7] at H
     have c7b0 : decide (0 < (t573.length : Int)) = false := decide_eq_false c7
     have c7b1 : decide (0 < t573.length) = false := decide_eq_false (by omega)
     clear c7
     obtain ⟨t577, A12, H⟩ := bnd H
     have H' := Aside0.mk H
     clear H
     have hcz13 := cz3 BK572
     go_wp2_with (first | ((with_reducible refine gate_callee (f := 85) rfl ?_); refine goesL_ (some 17) rfl rfl Tryz.func85 KR rfl #[.slice A0_2 l0_2.length c0_2, .string x1_1, .int .i64 2] rfl TA ?_; (with_reducible refine (impl_at.calls k1 _ _ l0_2 x1_1 2 t573 _ ?side1 ?side2 A6.out).mono ?_); (case side1 => exact CW ((Kd.C_below HR0_2.out HB.out))); (case side2 => exact HC0_2.out); rintro e w14 ⟨v574, rfl, ho0, hb⟩; refine ⟨_, rfl, ?_⟩; have HO575 := RL ho0; replace BK572 := KB BK572 hb; replace HB := BS hb; (try clear hb); (try clear hb2); (try clear hk); (try clear hi); (try clear ho0); obtain ⟨Ao15, co15, eo15⟩ := Kd.R_slice HO575.out; subst eo15) | ((with_reducible refine gate_callee (f := 120) rfl ?_); refine goesL_ (some 13) rfl rfl Tryz.func120 KR rfl #[.string x1_1] rfl TA ?_; (with_reducible refine (impl_parentOf.calls x1_1 t577 _ A12.out).mono ?_); rintro e w' ⟨rfl, ⟨nd, rfl⟩⟩; refine ⟨_, rfl, ?_⟩))
     go_roundg k1
     case measure => have := HK1.out; omega
     case rel => exact ⟨(t577), (x6_1), (x7_1), TF, TF, TF, H', ⟨TM⟩, KW BK572, ⟨TB⟩⟩
end
end Go.Proofs.YtioefechhknnlaaGreatDoor.Pp
