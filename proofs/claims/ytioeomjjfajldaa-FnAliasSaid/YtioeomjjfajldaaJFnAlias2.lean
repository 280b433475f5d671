/- The functions that the law reaches, one Lean function and its proof for each; written by wip/pp of this workplace, joined by claimit.py. -/
import Derived.Test.YtioeomjjfajldaaProg
import Derived.Below
import Derived.Deep.Draws
import Derived.Deep.AppendLies
import Derived.Maps.AppendAt
import Derived.OwnWalk
import Derived.Laws.BytesArg
import Derived.Laws.MakeOwn
import Derived.Laws.OwnMore
import Derived.Deep.OwnRows
import Derived.Tactics
import Derived.Lib.ConvBytes
import Derived.Laws.Slices
import Derived.WalkKit
import Derived.KernelRfl
import Derived.RowKit3
import Derived.Deep.LoopGhost
import Derived.Deep.QuietTactic
import Derived.BigQuiet
import Derived.WideLaws
import Derived.Deep.DeepCutAuto
import Derived.Deep.CutBlock
import Derived.Deep.RegionHeld3
import Derived.Laws.Rows
import Derived.Lib.AppendStr
import Derived.ArgAppend
import Derived.Laws.IdiomCopy
import Derived.OrdersHeld
import Derived.Laws.BitsLemmas
import Derived.RowKit
import Derived.Test.YtioeomjjfajldaaXWords
import Derived.Test.YtioeomjjfajldaaXSq
import Derived.Test.YtioeomjjfajldaaWWords
import Derived.Test.YtioeomjjfajldaaWLast
import Derived.Test.YtioeomjjfajldaaWTab
import Derived.Test.YtioeomjjfajldaaWFour
import Derived.Test.YtioeomjjfajldaaWQPut
import Derived.Test.YtioeomjjfajldaaWApart
import Derived.Test.YtioeomjjfajldaaWArr
import Derived.Test.YtioeomjjfajldaaWZeros
import Derived.Test.YtioeomjjfajldaaWFoot
import Derived.Test.YtioeomjjfajldaaWKept
import Derived.Test.YtioeomjjfajldaaWShare
import Derived.Test.YtioeomjjfajldaaWN
import Derived.Test.YtioeomjjfajldaaWFootNe
import Derived.Test.YtioeomjjfajldaaWAt
import Derived.Test.YtioeomjjfajldaaWEqStruct
import Derived.Test.YtioeomjjfajldaaWRepsOne
import Derived.Test.YtioeomjjfajldaaWInv
import Derived.Test.YtioeomjjfajldaaWInvWords
import Derived.Test.YtioeomjjfajldaaWGuard
import Derived.Test.YtioeomjjfajldaaWNEv
import Derived.Test.YtioeomjjfajldaaWMore
import Derived.Test.YtioeomjjfajldaaJFnAlias0
import Derived.Test.YtioeomjjfajldaaJFnAlias1
namespace Go.Proofs.Ytioeomjjfajldaa.Pp
open Go.RowKit Go.Proofs.YtioeomjjfajldaaW.PrintWords Go.Proofs.YtioeomjjfajldaaW.PrintLast Go.Proofs.YtioeomjjfajldaaW.PrintMore
attribute [local go_sem] max2_int min2_int max_two min_two max_three min_three max_four min_four   -- for this text's walks alone
set_option linter.unusedVariables false
set_option linter.unusedSimpArgs false
set_option maxHeartbeats 8000000
set_option maxRecDepth 100000

section
/-! ### impl_NextTurn: function 46 -/
def impl_NextTurn.l0 : Nat → Int → List Int → Int → Int → List Int → List Int → Option (List Int × List Int × Int × Bool)
 | 0, _, _, _, _, _, _ => none
 | k + 1, x6, x21, x22, x23, x688000, x688001 => if x23 < x22 then (if 0 ≤ x23 then (if x23 < (x21.length : Int) then (if x23 < (x688001.length : Int) then ((some (x688001.set (x23 : Int).toNat (wrap64 ((rd x688001 x23) + (rd x21 x23))) : List Int)).bind fun y690 => (if 0 ≤ x6 then (if x6 < (x688001.length : Int) then (if (rd y690 x23) > (rd y690 x6) then (impl_NextTurn.l0 k x23 x21 x22 (wrap64 (x23 + 1)) x688000 y690) else (impl_NextTurn.l0 k x6 x21 x22 (wrap64 (x23 + 1)) x688000 y690)) else (none)) else (none))) else (none)) else (none)) else (none)) else (if 0 ≤ x6 then (if x6 < (x688001.length : Int) then ((impl_totalOf.f k x688000).bind fun t694 => ((some (x688001.set (x6 : Int).toNat (wrap64 ((rd x688001 x6) - t694)) : List Int)).bind fun y695 => ((impl_GoodTurn.f k x688000 y695).bind fun t696 => (if t696 = true then (some (x688000, y695, x6, true)) else (some (([] : List Int), ([] : List Int), 0, false)))))) else (none)) else (none))
def impl_NextTurn.f (k : Nat) (l0_0 : List Int) (l0_1 : List Int) : Option (List Int × List Int × Int × Bool) := (impl_GoodTurn.f k l0_0 l0_1).bind fun t680 => (if t680 = true then ((slices_Clone_int_int.f l0_0).bind fun t681 => ((slices_Clone_int_int.f l0_1).bind fun t684 => (impl_NextTurn.l0 k 0 t681 (t681.length : Int) 0 t681 t684))) else (some (([] : List Int), ([] : List Int), 0, false)))
def impl_NextTurn.T3 : Bool × List (List Nat × List Nat) := (true, [([], []), ([0], [0]), ([1], [1]), ([], []), ([3], [3]), ([4, 2], [4]), ([2, 5], [2, 5]), ([], []), ([7, 6, 5, 0, 1, 2, 3, 4, 5, 6, 7], [6, 7])])
def impl_NextTurn.B3 : List Nat := [0, 1, 3, 0, 8, 31, 63, 0, 255]
theorem impl_NextTurn.tab3 : rtab .any (opsOf Try.f46 3) = impl_NextTurn.T3 := by kernel_rfl
theorem impl_NextTurn.bits3 : waitsOk impl_NextTurn.T3.2 impl_NextTurn.B3 = true := by kernel_rfl
def impl_NextTurn.T9 : Bool × List (List Nat × List Nat) := (true, [([], []), ([0], [0]), ([], []), ([1, 2], [1, 2]), ([3], [3]), ([], []), ([5], [5]), ([], []), ([6, 7], [6, 7]), ([8], [8]), ([4, 9], [4, 9])])
def impl_NextTurn.B9 : List Nat := [0, 1, 0, 7, 15, 0, 32, 0, 224, 480, 1023]
theorem impl_NextTurn.tab9 : rtab .any (opsOf Try.f46 9) = impl_NextTurn.T9 := by kernel_rfl
theorem impl_NextTurn.bits9 : waitsOk impl_NextTurn.T9.2 impl_NextTurn.B9 = true := by kernel_rfl
def impl_NextTurn.T12 : Bool × List (List Nat × List Nat) := (true, [([], []), ([0], [0]), ([], []), ([1, 2], [1, 2]), ([3], [3]), ([], []), ([5], [5]), ([6], [6]), ([4, 7], [4, 7]), ([1, 2, 0, 1, 2, 3, 4, 5, 6, 7, 8], [1, 2]), ([9, 8, 7, 0, 1, 2, 3, 4, 5, 6, 7, 8], [8, 9])])
def impl_NextTurn.B12 : List Nat := [0, 1, 0, 7, 15, 0, 32, 96, 255, 511, 1023]
theorem impl_NextTurn.tab12 : rtab .any (opsOf Try.f46 12) = impl_NextTurn.T12 := by kernel_rfl
theorem impl_NextTurn.bits12 : waitsOk impl_NextTurn.T12.2 impl_NextTurn.B12 = true := by kernel_rfl
theorem impl_NextTurn.calls (k : Nat) (A0_0 : Option Addr) (c0_0 : Nat) (l0_0 : List Int) (A0_1 : Option Addr) (c0_1 : Nat) (l0_1 : List Int) (r1 : List Int) (r2 : List Int) (r3 : Int) (r4 : Bool) (w : World) (hr0_0 : Kd.C (Kd.int .i64) w A0_0 l0_0.length l0_0) (hc0_0 : l0_0.length ≤ c0_0) (hr0_1 : Kd.C (Kd.int .i64) w A0_1 l0_1.length l0_1) (hc0_1 : l0_1.length ≤ c0_1) (h : impl_NextTurn.f k l0_0 l0_1 = some (r1, r2, r3, r4)) :
  Calls Try.prog 46 #[.agg #[.slice A0_0 l0_0.length c0_0, .slice A0_1 l0_1.length c0_1]] w fun e w' => ∃ v0_ v1_ : Value, e = .returned (.tuple #[.agg #[v0_, v1_], .int .i64 r3, .bool r4]) ∧ Kd.R (Kd.int .i64) 3 w' w.heap.size (fun k_ => some k_ ≠ (v1_ : Value).ownBlock) v0_ r1 ∧ Kd.R (Kd.int .i64) 3 w' w.heap.size (fun k_ => some k_ ≠ (v0_ : Value).ownBlock) v1_ r2 ∧ Below w.heap.size w w' := by
 have hu40 := Try.underlying40
 have HR0_0 := Aside0.mk hr0_0
 have HC0_0 := Aside0.mk hc0_0
 clear hr0_0 hc0_0
 have HR0_1 := Aside0.mk hr0_1
 have HC0_1 := Aside0.mk hc0_1
 clear hr0_1 hc0_1
 have HB := Aside0.mk (Below.refl w.heap.size w)
 have H : ((impl_GoodTurn.f k l0_0 l0_1).bind fun t680 => (if t680 = true then ((slices_Clone_int_int.f l0_0).bind fun t681 => ((slices_Clone_int_int.f l0_1).bind fun t684 => (impl_NextTurn.l0 k 0 t681 (t681.length : Int) 0 t681 t684))) else (some (([] : List Int), ([] : List Int), 0, false)))) = some (r1, r2, r3, r4) := h
 clear h
 obtain ⟨t680, A2, H⟩ := bnd H
 by_cases c3 : t680 = true
 ·subst c3
  replace H := ift H
  obtain ⟨t681, A4, H⟩ := bnd H
  obtain ⟨t684, A5, H⟩ := bnd H
  have H' := Aside0.mk H
  clear H
  go_enter Try.func46, Try.ntmps46
  try go_wp2_with (first | ((with_reducible refine gate_dst (N := 1) rfl ?_); refine bE 1 #[.slice A0_0 l0_0.length c0_0, .slice A0_1 l0_1.length c0_1] 40 ?_; intro gb678 hg w6 hbox hb; have BK678 := Aside0.mk (hbox); have GE678 := bG hg; replace HB := BS hb; clear hb hbox hg) | ((with_reducible refine gate_dst (N := 2) rfl ?_); refine bE 2 #[.slice none 0 0, .slice none 0 0] 40 ?_; intro gb679 hg w7 hbox hb; have BK679 := Aside0.mk (hbox); have GE679 := bG hg; replace HB := BS hb; have NB678_679 := bN BK678 hg; have NB679_678 := bM BK678 hg; replace BK678 := KB BK678 hb; clear hb hbox hg; obtain ⟨hnb8, hnc8⟩ := nn NB678_679; have hcz9 := cz2 BK678) | ((with_reducible refine gate_callee (f := 29) rfl ?_); refine goesL_ (some 10) rfl rfl Try.func29 KR rfl #[.agg #[.slice A0_0 l0_0.length c0_0, .slice A0_1 l0_1.length c0_1]] rfl TA ?_; (with_reducible refine (impl_GoodTurn.calls k _ _ l0_0 _ _ l0_1 true _ ?side1 ?side2 ?side3 ?side4 A2.out).mono ?_); (case side1 => exact CW ((Kd.C_below HR0_0.out HB.out))); (case side2 => exact HC0_0.out); (case side3 => exact CW ((Kd.C_below HR0_1.out HB.out))); (case side4 => exact HC0_1.out); rintro e w10 ⟨rfl, hb⟩; refine ⟨_, rfl, ?_⟩; replace BK678 := KB BK678 hb; replace BK679 := KB BK679 hb; replace HB := BS hb; clear hb))
  replace BK678 := Aside0.mk (blk_drew BK678.out)
  replace BK679 := Aside0.mk (blk_drew BK679.out)
  replace HB := Aside0.mk (below_drew1 HB.out)
  refine start_ (n := 9) (S := fun w' => w'.cell? ⟨gb678, 0, none⟩ = some (.slice A0_0 l0_0.length c0_0) ∧ w'.cell? ⟨gb678, 1, none⟩ = some (.slice A0_1 l0_1.length c0_1)) (ds := []) #[false, false, false, false, false, false, false, false, false] KR rfl rfl ⟨bc 0 BK678, bc 1 BK678⟩ (fun hHeld => ?_); refine with_tabW impl_NextTurn.tab3 impl_NextTurn.bits3 (fun HT_ HW_ => ?_)
  generalize w10.drew = w11 at BK678 BK679 HB hHeld ⊢
  refine pA 0 13 (mL 9 1) HT_ rfl rfl ?_
  refine pA 3 16 (mL 9 9) HT_ rfl rfl ?_
  refine tA 1 14 (mL 9 11) HT_ HW_ hHeld rfl rfl (by rintro w' ⟨s0, s1⟩; go_simp; with_reducible rfl) ?_
  refine tA 4 17 (mL 9 27) HT_ HW_ hHeld rfl rfl (by rintro w' ⟨s0, s1⟩; go_simp; with_reducible rfl) ?_
  refine join_ (σ := Value × Value × Nat) 1 #[true, true, true, true, true, true, true, true, false] (fun s_ => [(15, s_.1), (18, s_.2.1), (5, .pointer (some ⟨s_.2.2, 0, none⟩)), (19, .agg #[s_.1, s_.2.1])]) (fun s_ w' => (w'.cell? ⟨gb678, 0, none⟩ = some (.slice A0_0 l0_0.length c0_0) ∧ w'.cell? ⟨gb678, 1, none⟩ = some (.slice A0_1 l0_1.length c0_1)) ∧ (Kd.R (Kd.int .i64) 3 w' w.heap.size (fun k_ => some k_ ≠ (s_.2.1 : Value).ownBlock) s_.1 t681) ∧ (Kd.R (Kd.int .i64) 3 w' w.heap.size (fun k_ => some k_ ≠ (s_.1 : Value).ownBlock) s_.2.1 t684) ∧ (w'.heap[gb678]? = some (.cells #[.slice A0_0 l0_0.length c0_0, .slice A0_1 l0_1.length c0_1] 40 (0, 0))) ∧ (w'.heap[gb679]? = some (.cells #[.slice none 0 0, .slice none 0 0] 40 (0, 0))) ∧ (w'.heap[s_.2.2]? = some (.cells #[.slice none 0 0, .slice none 0 0] 40 (0, 0))) ∧ (w.heap.size ≤ s_.2.2) ∧ (w.heap.size ≤ s_.2.2) ∧ (gb678 ≠ s_.2.2) ∧ (s_.2.2 ≠ gb678) ∧ (gb679 ≠ s_.2.2) ∧ (s_.2.2 ≠ gb679) ∧ (Below w.heap.size w w')) ?_ ?_
  rotate_left
  ·intro hCont
   refine two_ (i := 2) (j := 7) (Ni := some 15) (Nj := some 5) #[true, true, true, true, true, false, false, false, false] #[true, true, false, true, true, false, false, true, false] rfl rfl rfl rfl (two_of HT_.out KR) (by decide) (by decide) (fun K hK => ?_) (fun K hK => ?_)
   ·skip
    refine goes_ Try.func72 KR rfl #[.slice A0_0 l0_0.length c0_0] (by rfl) rfl rfl TA ?_
    with_reducible refine (slices_Clone_int_int.calls _ _ l0_0 t681 _ ?side1 ?side2 A4.out).mono ?_
    (case side1 => exact CW ((Kd.C_below HR0_0.out HB.out)))
    (case side2 => exact HC0_0.out)
    rintro e w12 ⟨v682, rfl, ho0, hb⟩
    refine ⟨_, rfl, ?_⟩
    have HO683 := RL ho0
    replace BK678 := KB BK678 hb
    replace BK679 := KB BK679 hb
    replace HB := BS hb
    (try clear hb)
    (try clear hb2)
    (try clear hk)
    (try clear hi)
    (try clear ho0)
    refine hK.out _ _ ⟨bc 0 BK678, bc 1 BK678⟩ (fun hHeld => ?_)
    clear hK K
    refine nA ?_
    refine two_ (i := 5) (j := 7) (Ni := some 18) (Nj := some 5) #[true, true, true, true, true, true, false, false, false] #[true, true, true, true, true, false, false, true, false] rfl rfl rfl rfl (two_of HT_.out KR) (by decide) (by decide) (fun K hK => ?_) (fun K hK => ?_)
    ·skip
     refine goes_ Try.func72 KR rfl #[.slice A0_1 l0_1.length c0_1] (by rfl) rfl rfl TA ?_
     with_reducible refine (slices_Clone_int_int.calls _ _ l0_1 t684 _ ?side1 ?side2 A5.out).mono ?_
     (case side1 => exact CW ((Kd.C_below HR0_1.out HB.out)))
     (case side2 => exact HC0_1.out)
     rintro e w13 ⟨v685, rfl, ho0, hb⟩
     refine ⟨_, rfl, ?_⟩
     have HO686 := RL (NW ho0 HO683)
     replace HO683 := EL HO683 ho0 hb
     replace BK678 := KB BK678 hb
     replace BK679 := KB BK679 hb
     replace HB := BS hb
     (try clear hb)
     (try clear hb2)
     (try clear hk)
     (try clear hi)
     (try clear ho0)
     obtain ⟨Ao14, co14, eo14⟩ := Kd.R_slice HO686.out
     (first | subst eo14 | (injection eo14 with f1_ f2_ f3_; have f4_ := f1_.symm; have f5_ := f3_.symm; clear f1_ f2_ f3_; subst f4_; subst f5_))
     obtain ⟨Ao15, co15, eo15⟩ := Kd.R_slice HO683.out
     (first | subst eo15 | (injection eo15 with f1_ f2_ f3_; have f4_ := f1_.symm; have f5_ := f3_.symm; clear f1_ f2_ f3_; subst f4_; subst f5_))
     refine hK.out _ _ ⟨bc 0 BK678, bc 1 BK678⟩ (fun hHeld => ?_)
     clear hK K
     refine nA ?_
     refine pA 6 19 (mL 9 127) HT_ rfl rfl ?_
     refine one_ (i := 7) (N := some 5) (mL 9 255) rfl rfl (one_of HT_.out KR) (by decide) (fun K hK => ?_)
     refine box_step ?hg (N := 5) ?hd (cs := #[.slice none 0 0, .slice none 0 0]) (t := 40) ?hr ?_; (case hd => rfl); (case hg => rfl); (case hr => first | (go_simp; done) | (go_simp; rfl))
     intro gb687 hg w16 hbox hb
     replace HO683 := RB HO683 hb
     replace HO686 := RB HO686 hb
     have BK687 := Aside0.mk (hbox)
     have GW687 := bG hg
     have GE687 := bG hg
     replace HB := BS hb
     have NB678_687 := bN BK678 hg
     have NB687_678 := bM BK678 hg
     replace BK678 := KB BK678 hb
     have NB679_687 := bN BK679 hg
     have NB687_679 := bM BK679 hg
     replace BK679 := KB BK679 hb
     clear hb hbox hg
     refine hK.out _ _ ⟨bc 0 BK678, bc 1 BK678⟩ (fun hHeld => ?_)
     clear hK K
     refine nA ?_
     exact norm_ (by simp only [putAll, Act.put, List.setIfInBounds_toArray, List.set_cons_zero, List.set_cons_succ]) (hCont (.slice Ao15 t681.length co15, .slice Ao14 t684.length co14, gb687) _ ⟨hHeld, (MO HO683).out, (MO HO686).out, (KW BK678).out, (KW BK679).out, (KW BK687).out, GW687.out, GE687.out, NB678_687.out, NB687_678.out, NB679_687.out, NB687_679.out, TB⟩)
    ·skip
     refine box_step ?hg (N := 5) ?hd (cs := #[.slice none 0 0, .slice none 0 0]) (t := 40) ?hr ?_; (case hd => rfl); (case hg => rfl); (case hr => first | (go_simp; done) | (go_simp; rfl))
     intro gb687 hg w13 hbox hb
     replace HO683 := RB HO683 hb
     have BK687 := Aside0.mk (hbox)
     have GW687 := bG hg
     have GE687 := bG hg
     replace HB := BS hb
     have NB678_687 := bN BK678 hg
     have NB687_678 := bM BK678 hg
     replace BK678 := KB BK678 hb
     have NB679_687 := bN BK679 hg
     have NB687_679 := bM BK679 hg
     replace BK679 := KB BK679 hb
     clear hb hbox hg
     refine hK.out _ _ ⟨bc 0 BK678, bc 1 BK678⟩ (fun hHeld => ?_)
     clear hK K
     refine nA ?_
     refine one_ (i := 5) (N := some 18) (mL 9 191) rfl rfl (one_of HT_.out KR) (by decide) (fun K hK => ?_)
     refine goes_ Try.func72 KR rfl #[.slice A0_1 l0_1.length c0_1] (by rfl) rfl rfl TA ?_
     with_reducible refine (slices_Clone_int_int.calls _ _ l0_1 t684 _ ?side1 ?side2 A5.out).mono ?_
     (case side1 => exact CW ((Kd.C_below HR0_1.out HB.out)))
     (case side2 => exact HC0_1.out)
     rintro e w14 ⟨v685, rfl, ho0, hb⟩
     refine ⟨_, rfl, ?_⟩
     have HO686 := RL (NW ho0 HO683)
     replace HO683 := EL HO683 ho0 hb
     replace BK678 := KB BK678 hb
     replace BK679 := KB BK679 hb
     replace BK687 := KB BK687 hb
     replace HB := BS hb
     (try clear hb)
     (try clear hb2)
     (try clear hk)
     (try clear hi)
     (try clear ho0)
     obtain ⟨Ao15, co15, eo15⟩ := Kd.R_slice HO686.out
     (first | subst eo15 | (injection eo15 with f1_ f2_ f3_; have f4_ := f1_.symm; have f5_ := f3_.symm; clear f1_ f2_ f3_; subst f4_; subst f5_))
     obtain ⟨Ao16, co16, eo16⟩ := Kd.R_slice HO683.out
     (first | subst eo16 | (injection eo16 with f1_ f2_ f3_; have f4_ := f1_.symm; have f5_ := f3_.symm; clear f1_ f2_ f3_; subst f4_; subst f5_))
     refine hK.out _ _ ⟨bc 0 BK678, bc 1 BK678⟩ (fun hHeld => ?_)
     clear hK K
     refine nA ?_
     refine pA 6 19 (mL 9 255) HT_ rfl rfl ?_
     exact norm_ (by simp only [putAll, Act.put, List.setIfInBounds_toArray, List.set_cons_zero, List.set_cons_succ]) (hCont (.slice Ao16 t681.length co16, .slice Ao15 t684.length co15, gb687) _ ⟨hHeld, (MO HO683).out, (MO HO686).out, (KW BK678).out, (KW BK679).out, (KW BK687).out, GW687.out, GE687.out, NB678_687.out, NB687_678.out, NB679_687.out, NB687_679.out, TB⟩)
   ·skip
    refine box_step ?hg (N := 5) ?hd (cs := #[.slice none 0 0, .slice none 0 0]) (t := 40) ?hr ?_; (case hd => rfl); (case hg => rfl); (case hr => first | (go_simp; done) | (go_simp; rfl))
    intro gb687 hg w12 hbox hb
    have BK687 := Aside0.mk (hbox)
    have GW687 := bG hg
    have GE687 := bG hg
    replace HB := BS hb
    have NB678_687 := bN BK678 hg
    have NB687_678 := bM BK678 hg
    replace BK678 := KB BK678 hb
    have NB679_687 := bN BK679 hg
    have NB687_679 := bM BK679 hg
    replace BK679 := KB BK679 hb
    clear hb hbox hg
    refine hK.out _ _ ⟨bc 0 BK678, bc 1 BK678⟩ (fun hHeld => ?_)
    clear hK K
    refine nA ?_
    refine one_ (i := 2) (N := some 15) (mL 9 159) rfl rfl (one_of HT_.out KR) (by decide) (fun K hK => ?_)
    refine goes_ Try.func72 KR rfl #[.slice A0_0 l0_0.length c0_0] (by rfl) rfl rfl TA ?_
    with_reducible refine (slices_Clone_int_int.calls _ _ l0_0 t681 _ ?side1 ?side2 A4.out).mono ?_
    (case side1 => exact CW ((Kd.C_below HR0_0.out HB.out)))
    (case side2 => exact HC0_0.out)
    rintro e w13 ⟨v682, rfl, ho0, hb⟩
    refine ⟨_, rfl, ?_⟩
    have HO683 := RL ho0
    replace BK678 := KB BK678 hb
    replace BK679 := KB BK679 hb
    replace BK687 := KB BK687 hb
    replace HB := BS hb
    (try clear hb)
    (try clear hb2)
    (try clear hk)
    (try clear hi)
    (try clear ho0)
    refine hK.out _ _ ⟨bc 0 BK678, bc 1 BK678⟩ (fun hHeld => ?_)
    clear hK K
    refine nA ?_
    refine one_ (i := 5) (N := some 18) (mL 9 191) rfl rfl (one_of HT_.out KR) (by decide) (fun K hK => ?_)
    refine goes_ Try.func72 KR rfl #[.slice A0_1 l0_1.length c0_1] (by rfl) rfl rfl TA ?_
    with_reducible refine (slices_Clone_int_int.calls _ _ l0_1 t684 _ ?side1 ?side2 A5.out).mono ?_
    (case side1 => exact CW ((Kd.C_below HR0_1.out HB.out)))
    (case side2 => exact HC0_1.out)
    rintro e w14 ⟨v685, rfl, ho0, hb⟩
    refine ⟨_, rfl, ?_⟩
    have HO686 := RL (NW ho0 HO683)
    replace HO683 := EL HO683 ho0 hb
    replace BK678 := KB BK678 hb
    replace BK679 := KB BK679 hb
    replace BK687 := KB BK687 hb
    replace HB := BS hb
    (try clear hb)
    (try clear hb2)
    (try clear hk)
    (try clear hi)
    (try clear ho0)
    obtain ⟨Ao15, co15, eo15⟩ := Kd.R_slice HO686.out
    (first | subst eo15 | (injection eo15 with f1_ f2_ f3_; have f4_ := f1_.symm; have f5_ := f3_.symm; clear f1_ f2_ f3_; subst f4_; subst f5_))
    obtain ⟨Ao16, co16, eo16⟩ := Kd.R_slice HO683.out
    (first | subst eo16 | (injection eo16 with f1_ f2_ f3_; have f4_ := f1_.symm; have f5_ := f3_.symm; clear f1_ f2_ f3_; subst f4_; subst f5_))
    refine hK.out _ _ ⟨bc 0 BK678, bc 1 BK678⟩ (fun hHeld => ?_)
    clear hK K
    refine nA ?_
    refine pA 6 19 (mL 9 255) HT_ rfl rfl ?_
    exact norm_ (by simp only [putAll, Act.put, List.setIfInBounds_toArray, List.set_cons_zero, List.set_cons_succ]) (hCont (.slice Ao16 t681.length co16, .slice Ao15 t684.length co15, gb687) _ ⟨hHeld, (MO HO683).out, (MO HO686).out, (KW BK678).out, (KW BK679).out, (KW BK687).out, GW687.out, GE687.out, NB678_687.out, NB687_678.out, NB679_687.out, NB687_679.out, TB⟩)
  rintro ⟨v682, v685, gb687⟩ w17 ⟨hS_, h0_, h1_, h2_, h3_, h4_, h5_, h6_, h7_, h8_, h9_, h10_, h11_⟩
  have n0_ : Aside0 (Kd.R (Kd.int .i64) 3 w17 w.heap.size (fun k_ => some k_ ≠ (v685 : Value).ownBlock) v682 t681) := ⟨h0_⟩
  have n1_ : Aside0 (Kd.R (Kd.int .i64) 3 w17 w.heap.size (fun k_ => some k_ ≠ (v682 : Value).ownBlock) v685 t684) := ⟨h1_⟩
  have n2_ : Aside0 (w17.heap[gb678]? = some (.cells #[.slice A0_0 l0_0.length c0_0, .slice A0_1 l0_1.length c0_1] 40 (0, 0))) := ⟨h2_⟩
  have n3_ : Aside0 (w17.heap[gb679]? = some (.cells #[.slice none 0 0, .slice none 0 0] 40 (0, 0))) := ⟨h3_⟩
  have n4_ : Aside0 (w17.heap[gb687]? = some (.cells #[.slice none 0 0, .slice none 0 0] 40 (0, 0))) := ⟨h4_⟩
  have n5_ : Aside0 (w.heap.size ≤ gb687) := ⟨h5_⟩
  have n6_ : Aside0 (w.heap.size ≤ gb687) := ⟨h6_⟩
  have n7_ : Aside0 (gb678 ≠ gb687) := ⟨h7_⟩
  have n8_ : Aside0 (gb687 ≠ gb678) := ⟨h8_⟩
  have n9_ : Aside0 (gb679 ≠ gb687) := ⟨h9_⟩
  have n10_ : Aside0 (gb687 ≠ gb679) := ⟨h10_⟩
  have n11_ : Aside0 (Below w.heap.size w w17) := ⟨h11_⟩
  clear BK678
  clear BK679
  clear HB
  clear h0_ h1_ h2_ h3_ h4_ h5_ h6_ h7_ h8_ h9_ h10_ h11_
  have HO683 := n0_
  have HO686 := n1_
  have BK678 := n2_
  have BK679 := n3_
  have BK687 := n4_
  have GW687 := n5_
  have GE687 := n6_
  have NB678_687 := n7_
  have NB687_678 := n8_
  have NB679_687 := n9_
  have NB687_679 := n10_
  have HB := n11_
  clear n0_ n1_ n2_ n3_ n4_ n5_ n6_ n7_ n8_ n9_ n10_ n11_
  have hHeld : w17.cell? ⟨gb678, 0, none⟩ = some (.slice A0_0 l0_0.length c0_0) ∧ w17.cell? ⟨gb678, 1, none⟩ = some (.slice A0_1 l0_1.length c0_1) := hS_
  obtain ⟨Ao18, co18, eo18⟩ := Kd.R_slice HO686.out
  (first | subst eo18 | (injection eo18 with f1_ f2_ f3_; have f4_ := f1_.symm; have f5_ := f3_.symm; clear f1_ f2_ f3_; subst f4_; subst f5_))
  obtain ⟨Ao19, co19, eo19⟩ := Kd.R_slice HO683.out
  (first | subst eo19 | (injection eo19 with f1_ f2_ f3_; have f4_ := f1_.symm; have f5_ := f3_.symm; clear f1_ f2_ f3_; subst f4_; subst f5_))
  refine norm_ (a' := ?_) ?_ ?_
  rotate_left
  ·simp only [putAll, Act.put, List.setIfInBounds_toArray, List.set_cons_zero, List.set_cons_succ]
   rfl
  refine one_ (i := 8) (N := none) (mL 9 511) rfl rfl (one_of HT_.out KR) (by decide) (fun K hK => ?_)
  have hs20 := bc 0 BK687
  have hfs20 := blk_frozen BK687.out 0
  have hns20_0 := NB678_687.out
  have hns20_1 := NB679_687.out
  have hms20_0 := NB687_678.out
  have hms20_1 := NB687_679.out
  have hs21 := bc 1 BK687
  have hfs21 := blk_frozen BK687.out 1
  have hns21_0 := NB678_687.out
  have hns21_1 := NB679_687.out
  have hms21_0 := NB687_678.out
  have hms21_1 := NB687_679.out
  refine skip_ (w1 := ?_) (by rfl) rfl ?_ ?_
  rotate_left
  ·go_simp
   rfl
  refine hK.out _ _ ⟨((cell_far (p := ⟨gb687, _, none⟩) NB678_687.out _).trans (((cell_far (p := ⟨gb687, _, none⟩) NB678_687.out _).trans (hHeld.1)))), ((cell_far (p := ⟨gb687, _, none⟩) NB678_687.out _).trans (((cell_far (p := ⟨gb687, _, none⟩) NB678_687.out _).trans (hHeld.2))))⟩ (fun hHeld => ?_)
  clear hK K
  refine done_ (done_of HT_.out KR) ?_
  have hnb22 := NB687_678.out
  have hnc22 := NB678_687.out
  have hnb23 := NB687_679.out
  have hnc23 := NB679_687.out
  have hcz24 := cz2 BK687
  try go_wp2
  go_loopg [6, 23] k (fun kq v6 v23 w' => ∃ (x6_1 : Int) (x21_1 : List Int) (x23_1 : Int) (x688000_1 : List Int) (x688001_1 : List Int) (u688000 : Value) (u688001 : Value), v6 = .int .i64 x6_1 ∧ v23 = .int .i64 x23_1 ∧ Aside0 (impl_NextTurn.l0 kq x6_1 x21_1 (t681.length : Int) x23_1 x688000_1 x688001_1 = some (r1, r2, r3, r4)) ∧ Aside0 (kq ≤ k) ∧ Aside0 (Kd.R (Kd.int .i64) 3 w' w.heap.size (fun k_ => some k_ ≠ (u688001 : Value).ownBlock) (.slice Ao19 t681.length co19) x21_1) ∧ Aside0 (Kd.R (Kd.int .i64) 3 w' w.heap.size (fun k_ => some k_ ≠ (u688001 : Value).ownBlock) u688000 x688000_1) ∧ Aside0 (Kd.R (Kd.int .i64) 3 w' w.heap.size (fun k_ => some k_ ≠ ((.slice Ao19 t681.length co19) : Value).ownBlock ∧ some k_ ≠ (u688000 : Value).ownBlock) u688001 x688001_1) ∧ Aside0 (w'.heap[gb678]? = some (.cells #[(.slice A0_0 l0_0.length c0_0), (.slice A0_1 l0_1.length c0_1)] 40 (0, 0))) ∧ Aside0 (w'.heap[gb679]? = some (.cells #[(.slice none 0 0), (.slice none 0 0)] 40 (0, 0))) ∧ Aside0 (w'.heap[gb687]? = some (.cells #[u688000, u688001] 40 (0, 0))) ∧ Aside0 (Below w.heap.size w w'))
  case atStart => exact ⟨(0), (t681), (0), (t681), (t684), (.slice Ao19 t681.length co19), (.slice Ao18 t684.length co18), TF, TF, H', ⟨Nat.le_refl _⟩, ⟨by (with_reducible repeat (first | apply Kd.R_alloc | apply Kd.R_drewN | apply Kd.R_drew)); exact Kd.R_mono (Kd.R_far (p := ⟨gb687, 1, none⟩) (Kd.R_far (p := ⟨gb687, 0, none⟩) (Kd.R_types HO683.out BK687.out (by decide)) (fun _ hk => hk.2) (.slice Ao19 t681.length co19)) (fun _ hk => hk.2) (.slice Ao18 t684.length co18)) (fun _ hk => hk.1)⟩, ⟨by (with_reducible repeat (first | apply Kd.R_alloc | apply Kd.R_drewN | apply Kd.R_drew)); exact Kd.R_mono (Kd.R_far (p := ⟨gb687, 1, none⟩) (Kd.R_far (p := ⟨gb687, 0, none⟩) (Kd.R_types HO683.out BK687.out (by decide)) (fun _ hk => hk.2) (.slice Ao19 t681.length co19)) (fun _ hk => hk.2) (.slice Ao18 t684.length co18)) (fun _ hk => hk.1)⟩, ⟨by (with_reducible repeat (first | apply Kd.R_alloc | apply Kd.R_drewN | apply Kd.R_drew)); exact Kd.R_mono (Kd.R_far (p := ⟨gb687, 1, none⟩) (Kd.R_far (p := ⟨gb687, 0, none⟩) (Kd.R_types HO686.out BK687.out (by decide)) (fun _ hk => hk.2) (.slice Ao19 t681.length co19)) (fun _ hk => hk.2) (.slice Ao18 t684.length co18)) (fun _ hk => ⟨hk.1, hk.1⟩)⟩, ⟨TS⟩, ⟨TS⟩, ⟨TS⟩, ⟨TB⟩⟩
  case round =>
   clear H'
   obtain ⟨x6_1, x21_1, x23_1, x688000_1, x688001_1, u688000, u688001, rfl, rfl, HA, HK1, HO_21, HO_688000, HO_688001, BK678, BK679, BK687, HB⟩ := hrel
   have hl21_1 := (Kd.R_reads' HO_21.out).1
   rw [hl21_1] at HO_21
   (try simp only [hl21_1])
   (try simp only [hl21_1] at BK678)
   (try simp only [hl21_1] at BK679)
   (try simp only [hl21_1] at BK687)
   (try simp only [hl21_1] at HO_688000)
   (try simp only [hl21_1] at HO_688001)
   cases gk with
   | zero => exact absurd HA.out (by simp [impl_NextTurn.l0])
   | succ k1 =>
    have H := HA.out
    clear HA
    simp only [impl_NextTurn.l0] at H
    by_cases c25 : x23_1 < (t681.length : Int)
    ·rw [if_pos c25] at H
     have c25b0 : decide (x23_1 < (t681.length : Int)) = true := decide_eq_true c25
     (try simp only [hl21_1] at c25b0)
     clear c25
     obtain ⟨c26, H⟩ := ifn H
     have c26b0 : decide (0 ≤ x23_1) = true := decide_eq_true c26
     clear c26
     obtain ⟨c27, H⟩ := ifn H
     have c27b0 : decide (x23_1 < (x21_1.length : Int)) = true := decide_eq_true c27
     (try simp only [hl21_1] at c27b0)
     clear c27
     obtain ⟨c28, H⟩ := ifn H
     have c28b0 : decide (x23_1 < (x688001_1.length : Int)) = true := decide_eq_true c28
     (try simp only [hl21_1] at c28b0)
     clear c28
     obtain ⟨y690, hy690⟩ : ∃ y_ : List Int, y_ = (x688001_1.set (x23_1 : Int).toNat (wrap64 ((rd x688001_1 x23_1) + (rd x21_1 x23_1)))) := ⟨_, rfl⟩
     replace H : (if 0 ≤ x6_1 then (if x6_1 < (x688001_1.length : Int) then (if (rd y690 x23_1) > (rd y690 x6_1) then (impl_NextTurn.l0 k1 x23_1 x21_1 (t681.length : Int) (wrap64 (x23_1 + 1)) x688000_1 y690) else (impl_NextTurn.l0 k1 x6_1 x21_1 (t681.length : Int) (wrap64 (x23_1 + 1)) x688000_1 y690)) else (none)) else (none)) = some (r1, r2, r3, r4) := by first | (rw [hy690]; with_reducible exact H) | (have H2_ := (Option.bind_some _ _).symm.trans H; rw [hy690]; with_reducible exact H2_) | (have H2_ := (Option.bind_some _ _).symm.trans H; with_reducible exact H2_) | with_reducible exact H | (rw [hy690]; exact H) | exact H
     have Ny690 := Aside0.mk hy690
     clear hy690
     obtain ⟨c30, H⟩ := ifn H
     have c30b0 : decide (0 ≤ x6_1) = true := decide_eq_true c30
     clear c30
     obtain ⟨c31, H⟩ := ifn H
     have c31b0 : decide (x6_1 < (x688001_1.length : Int)) = true := decide_eq_true c31
     (try simp only [hl21_1] at c31b0)
     clear c31
     by_cases c32 : (rd y690 x23_1) > (rd y690 x6_1)
     ·rw [if_pos c32] at H
      have c32b0 : decide ((rd y690 x6_1) < (rd y690 x23_1)) = true := decide_eq_true c32
      clear c32
      have H' := Aside0.mk H
      clear H
      have p688 : 0 ≤ (x23_1 : Int) := TD
      have q688 : x23_1 < (x21_1.length : Int) := TD
      obtain ⟨ad688, e688, hx688_0⟩ := Kd.at_int (Kd.R_reads' HO_21.out).2.2 x23_1 p688 q688
      cases e688
      replace p688 := eq_true p688
      replace q688 := eq_true q688
      have hnb33 := NB687_678.out
      have hnc33 := NB678_687.out
      have hnb34 := NB687_679.out
      have hnc34 := NB679_687.out
      have hcz35 := cz2 BK687
      obtain ⟨Ao36, co36, eo36⟩ := Kd.R_slice HO_688001.out
      subst eo36
      have p689 : 0 ≤ (x23_1 : Int) := TD
      have q689 : x23_1 < (x688001_1.length : Int) := TD
      obtain ⟨ad689, e689, hx689_0⟩ := Kd.at_int (Kd.R_reads' HO_688001.out).2.2 x23_1 p689 q689
      cases e689
      replace p689 := eq_true p689
      replace q689 := eq_true q689
      have p29 : 0 ≤ (x23_1 : Int) := TD
      have q29 : (x23_1 : Int) < ((x688001_1.length : Int) : Int) := TD
      obtain ⟨go29, co29, eo29, gb29, gl29, cl29, HG29⟩ := Kd.R_form HO_688001.out (by omega)
      (first | cases eo29 | (injection eo29 with ea_ en_ ec_; (first | subst ea_ | (injection ea_ with ea_; subst ea_)); subst ec_; clear en_))
      have GB29 := Aside0.mk gb29
      have GG29 := Aside0.mk HG29
      clear gb29 gl29 HG29
      (first | simp only [add_plain] at hx689_0 | skip)
      obtain ⟨hx29_0, hf29_0⟩ := Kd.R_celln 0 HO_688001.out (x23_1 : Int) p29 q29
      replace p29 := eq_true p29
      replace q29 := eq_true q29
      have HP37 := Kd.R_putg HO_688001.out (x23_1 : Int) (wrap64 ((rd x688001_1 x23_1) + (rd x21_1 x23_1)))
      try go_wp2_with (first | ((with_reducible refine gate_store (t := 3) (p := 35) rfl ?_); refine store_event (t := 3) (p := 35) (v := ?vo_w38) (w1 := (wr.setCell ⟨go29, (x23_1 : Int).toNat, none⟩ (.int .i64 (wrap64 ((rd x688001_1 x23_1) + (rd x21_1 x23_1)))))) ?hg ?ho ?hn ?hr ?_; (case ho => rfl); (case hg => rfl); (case hn => rfl); (case hr => first | (go_simp; done) | (go_simp; rfl)); intro w38 hw; have hg : wr.grownBy w38 (some go29) := (by rw [hw]; exact HP37.2); have hp_ : Kd.R (Kd.int .i64) 3 w38 w.heap.size (fun k_ => some k_ ≠ (.slice (some ad688) x21_1.length co19 : Value).ownBlock ∧ some k_ ≠ (u688000 : Value).ownBlock) (.slice (some ⟨go29, 0, none⟩) x688001_1.length co36) y690 := (by rw [hw, Ny690.out]; exact HP37.1); clear HP37; replace HO_21 := Aside0.mk (Kd.R_after (v := (.slice (some ⟨go29, 0, none⟩) x688001_1.length co36)) (v1 := (.slice (some ⟨go29, 0, none⟩) x688001_1.length co36)) (ok := (fun _ => True)) (by (with_reducible repeat (first | apply Kd.R_alloc | apply Kd.R_drewN | apply Kd.R_drew)); exact Kd.R_mono HO_21.out (fun _ hk => ⟨trivial, hk⟩)) hg (.inl rfl)); replace HO_688000 := Aside0.mk (Kd.R_after (v := (.slice (some ⟨go29, 0, none⟩) x688001_1.length co36)) (v1 := (.slice (some ⟨go29, 0, none⟩) x688001_1.length co36)) (ok := (fun _ => True)) (by (with_reducible repeat (first | apply Kd.R_alloc | apply Kd.R_drewN | apply Kd.R_drew)); exact Kd.R_mono HO_688000.out (fun _ hk => ⟨trivial, hk⟩)) hg (.inl rfl)); replace BK678 := Aside0.mk (blk_grown (g := gb678) (o := .cells #[.slice A0_0 l0_0.length c0_0, .slice A0_1 l0_1.length c0_1] 40 (0, 0)) (KW BK678).out hg (Kd.R_ne HO_688001.out BK678.out (by decide))); replace BK679 := Aside0.mk (blk_grown (g := gb679) (o := .cells #[.slice none 0 0, .slice none 0 0] 40 (0, 0)) (KW BK679).out hg (Kd.R_ne HO_688001.out BK679.out (by decide))); replace BK687 := Aside0.mk (blk_grown (g := gb687) (o := .cells #[u688000, .slice (some ⟨go29, 0, none⟩) x688001_1.length co36] 40 (0, 0)) (KW BK687).out hg (Kd.R_ne HO_688001.out BK687.out (by decide))); replace HO_688001 := Aside0.mk (hp_); replace HB := Aside0.mk ((by rw [hw]; exact below_set (HB.out) GB29.out : Below w.heap.size w w38)); clear hg hw hp_))
      replace HO_21 := Aside0.mk (Kd.R_drew HO_21.out)
      replace HO_688000 := Aside0.mk (Kd.R_drew HO_688000.out)
      replace HO_688001 := Aside0.mk (Kd.R_drew HO_688001.out)
      replace BK678 := Aside0.mk (blk_drew BK678.out)
      replace BK679 := Aside0.mk (blk_drew BK679.out)
      replace BK687 := Aside0.mk (blk_drew BK687.out)
      replace HB := Aside0.mk (below_drew1 HB.out)
      have p691 : 0 ≤ (x23_1 : Int) := TD
      have q691 : x23_1 < (y690.length : Int) := (by have h_ : (x23_1 : Int) < ((x688001_1.length : Int) : Int) := TD; first | (have e_ := (Kd.R_reads' HO_688001.out).1; omega) | simpa only [Ny690.out, List.length_set] using h_)
      have ql691 : ((x23_1 : Int) < ((x688001_1.length : Int) : Int)) = True := eq_true TD
      obtain ⟨ad691, e691, hx691_0⟩ := Kd.at_int (Kd.R_reads' HO_688001.out).2.2 x23_1 p691 q691
      obtain rfl : (⟨go29, 0, none⟩ : Addr) = ad691 := (by injection e691)
      (first | simp only [add_plain] at hx691_0 | simp only [add_at] at hx691_0 | simp only [Addr.add, Nat.zero_add] at hx691_0 | skip)
      replace p691 := eq_true p691
      replace q691 := eq_true q691
      have p692 : 0 ≤ (x6_1 : Int) := TD
      have q692 : x6_1 < (y690.length : Int) := (by have h_ : (x6_1 : Int) < ((x688001_1.length : Int) : Int) := TD; first | (have e_ := (Kd.R_reads' HO_688001.out).1; omega) | simpa only [Ny690.out, List.length_set] using h_)
      have ql692 : ((x6_1 : Int) < ((x688001_1.length : Int) : Int)) = True := eq_true TD
      obtain ⟨ad692, e692, hx692_0⟩ := Kd.at_int (Kd.R_reads' HO_688001.out).2.2 x6_1 p692 q692
      obtain rfl : (⟨go29, 0, none⟩ : Addr) = ad692 := (by injection e692)
      (first | simp only [add_plain] at hx692_0 | simp only [add_at] at hx692_0 | simp only [Addr.add, Nat.zero_add] at hx692_0 | skip)
      replace p692 := eq_true p692
      replace q692 := eq_true q692
      refine start_ (n := 11) (S := fun w' => w'.cell? ⟨gb687, 0, none⟩ = some (u688000) ∧ w'.cell? ⟨gb687, 1, none⟩ = some (.slice (some ⟨go29, 0, none⟩) x688001_1.length co36) ∧ w'.cell? ⟨go29, (x23_1).toNat, none⟩ = some (.int .i64 (rd y690 x23_1)) ∧ w'.cell? ⟨go29, (x6_1).toNat, none⟩ = some (.int .i64 (rd y690 x6_1))) (ds := []) #[false, false, false, false, false, false, false, false, false, false, false] KR rfl rfl ⟨bc 0 BK687, bc 1 BK687, hx691_0, hx692_0⟩ (fun hHeld => ?_); refine with_tabW impl_NextTurn.tab9 impl_NextTurn.bits9 (fun HT_ HW_ => ?_)
      generalize w38.drew = w39 at HO_21 HO_688000 HO_688001 BK678 BK679 BK687 HB hx691_0 hx692_0 hHeld ⊢
      refine pA 0 36 (mL 11 1) HT_ rfl rfl ?_
      refine pA 2 38 (mL 11 5) HT_ rfl rfl ?_
      refine pA 5 41 (mL 11 37) HT_ rfl rfl ?_
      refine pA 7 43 (mL 11 165) HT_ rfl rfl ?_
      refine tA 1 37 (mL 11 167) HT_ HW_ hHeld rfl rfl (by rintro w' ⟨s0, s1, s2, s3⟩; go_simp; with_reducible rfl) ?_
      refine pA 3 39 (mL 11 175) HT_ rfl rfl ?_
      refine tA 4 40 (mL 11 191) HT_ HW_ hHeld rfl rfl (by rintro w' ⟨s0, s1, s2, s3⟩; go_simp; with_reducible rfl) ?_
      refine tA 6 42 (mL 11 255) HT_ HW_ hHeld rfl rfl (by rintro w' ⟨s0, s1, s2, s3⟩; go_simp; with_reducible rfl) ?_
      refine pA 8 44 (mL 11 511) HT_ rfl rfl ?_
      refine tA 9 45 (mL 11 1023) HT_ HW_ hHeld rfl rfl (by rintro w' ⟨s0, s1, s2, s3⟩; go_simp; with_reducible rfl) ?_
      refine pA 10 46 (mL 11 2047) HT_ rfl rfl ?_
      refine done_ (done_of HT_.out KR) ?_
      try go_wp2
      (try simp only [← hl21_1])
      go_roundg k1
      case measure => have := HK1.out; omega
      case rel => exact ⟨(x23_1), (x21_1), (wrap64 (x23_1 + 1)), (x688000_1), (y690), (u688000), (.slice (some ⟨go29, 0, none⟩) x688001_1.length co36), TF, TF, H', ⟨TM⟩, ⟨by (try simp only [hl21_1]); (with_reducible repeat (first | apply Kd.R_alloc | apply Kd.R_drewN | apply Kd.R_drew)); exact Kd.R_mono HO_21.out (fun _ hk => hk.2)⟩, ⟨by (try simp only [hl21_1]); (with_reducible repeat (first | apply Kd.R_alloc | apply Kd.R_drewN | apply Kd.R_drew)); exact Kd.R_mono HO_688000.out (fun _ hk => hk.2)⟩, ⟨by (try simp only [hl21_1]); (with_reducible repeat (first | apply Kd.R_alloc | apply Kd.R_drewN | apply Kd.R_drew)); exact HO_688001.out⟩, ⟨by (try simp only [hl21_1]); (with_reducible repeat (first | refine blk_drewN ?_ _ | refine blk_drew ?_ | refine blk_alloc ?_ _)); exact BK678.out⟩, ⟨by (try simp only [hl21_1]); (with_reducible repeat (first | refine blk_drewN ?_ _ | refine blk_drew ?_ | refine blk_alloc ?_ _)); exact BK679.out⟩, ⟨by (try simp only [hl21_1]); (with_reducible repeat (first | refine blk_drewN ?_ _ | refine blk_drew ?_ | refine blk_alloc ?_ _)); exact BK687.out⟩, ⟨TB⟩⟩
     ·rw [if_neg c32] at H
      have c32b0 : decide ((rd y690 x6_1) < (rd y690 x23_1)) = false := decide_eq_false c32
      clear c32
      have H' := Aside0.mk H
      clear H
      have p688 : 0 ≤ (x23_1 : Int) := TD
      have q688 : x23_1 < (x21_1.length : Int) := TD
      obtain ⟨ad688, e688, hx688_0⟩ := Kd.at_int (Kd.R_reads' HO_21.out).2.2 x23_1 p688 q688
      cases e688
      replace p688 := eq_true p688
      replace q688 := eq_true q688
      have hnb40 := NB687_678.out
      have hnc40 := NB678_687.out
      have hnb41 := NB687_679.out
      have hnc41 := NB679_687.out
      have hcz42 := cz2 BK687
      obtain ⟨Ao43, co43, eo43⟩ := Kd.R_slice HO_688001.out
      subst eo43
      have p689 : 0 ≤ (x23_1 : Int) := TD
      have q689 : x23_1 < (x688001_1.length : Int) := TD
      obtain ⟨ad689, e689, hx689_0⟩ := Kd.at_int (Kd.R_reads' HO_688001.out).2.2 x23_1 p689 q689
      cases e689
      replace p689 := eq_true p689
      replace q689 := eq_true q689
      have p29 : 0 ≤ (x23_1 : Int) := TD
      have q29 : (x23_1 : Int) < ((x688001_1.length : Int) : Int) := TD
      obtain ⟨go29, co29, eo29, gb29, gl29, cl29, HG29⟩ := Kd.R_form HO_688001.out (by omega)
      (first | cases eo29 | (injection eo29 with ea_ en_ ec_; (first | subst ea_ | (injection ea_ with ea_; subst ea_)); subst ec_; clear en_))
      have GB29 := Aside0.mk gb29
      have GG29 := Aside0.mk HG29
      clear gb29 gl29 HG29
      (first | simp only [add_plain] at hx689_0 | skip)
      obtain ⟨hx29_0, hf29_0⟩ := Kd.R_celln 0 HO_688001.out (x23_1 : Int) p29 q29
      replace p29 := eq_true p29
      replace q29 := eq_true q29
      have HP44 := Kd.R_putg HO_688001.out (x23_1 : Int) (wrap64 ((rd x688001_1 x23_1) + (rd x21_1 x23_1)))
      try go_wp2_with (first | ((with_reducible refine gate_store (t := 3) (p := 35) rfl ?_); refine store_event (t := 3) (p := 35) (v := ?vo_w45) (w1 := (wr.setCell ⟨go29, (x23_1 : Int).toNat, none⟩ (.int .i64 (wrap64 ((rd x688001_1 x23_1) + (rd x21_1 x23_1)))))) ?hg ?ho ?hn ?hr ?_; (case ho => rfl); (case hg => rfl); (case hn => rfl); (case hr => first | (go_simp; done) | (go_simp; rfl)); intro w45 hw; have hg : wr.grownBy w45 (some go29) := (by rw [hw]; exact HP44.2); have hp_ : Kd.R (Kd.int .i64) 3 w45 w.heap.size (fun k_ => some k_ ≠ (.slice (some ad688) x21_1.length co19 : Value).ownBlock ∧ some k_ ≠ (u688000 : Value).ownBlock) (.slice (some ⟨go29, 0, none⟩) x688001_1.length co43) y690 := (by rw [hw, Ny690.out]; exact HP44.1); clear HP44; replace HO_21 := Aside0.mk (Kd.R_after (v := (.slice (some ⟨go29, 0, none⟩) x688001_1.length co43)) (v1 := (.slice (some ⟨go29, 0, none⟩) x688001_1.length co43)) (ok := (fun _ => True)) (by (with_reducible repeat (first | apply Kd.R_alloc | apply Kd.R_drewN | apply Kd.R_drew)); exact Kd.R_mono HO_21.out (fun _ hk => ⟨trivial, hk⟩)) hg (.inl rfl)); replace HO_688000 := Aside0.mk (Kd.R_after (v := (.slice (some ⟨go29, 0, none⟩) x688001_1.length co43)) (v1 := (.slice (some ⟨go29, 0, none⟩) x688001_1.length co43)) (ok := (fun _ => True)) (by (with_reducible repeat (first | apply Kd.R_alloc | apply Kd.R_drewN | apply Kd.R_drew)); exact Kd.R_mono HO_688000.out (fun _ hk => ⟨trivial, hk⟩)) hg (.inl rfl)); replace BK678 := Aside0.mk (blk_grown (g := gb678) (o := .cells #[.slice A0_0 l0_0.length c0_0, .slice A0_1 l0_1.length c0_1] 40 (0, 0)) (KW BK678).out hg (Kd.R_ne HO_688001.out BK678.out (by decide))); replace BK679 := Aside0.mk (blk_grown (g := gb679) (o := .cells #[.slice none 0 0, .slice none 0 0] 40 (0, 0)) (KW BK679).out hg (Kd.R_ne HO_688001.out BK679.out (by decide))); replace BK687 := Aside0.mk (blk_grown (g := gb687) (o := .cells #[u688000, .slice (some ⟨go29, 0, none⟩) x688001_1.length co43] 40 (0, 0)) (KW BK687).out hg (Kd.R_ne HO_688001.out BK687.out (by decide))); replace HO_688001 := Aside0.mk (hp_); replace HB := Aside0.mk ((by rw [hw]; exact below_set (HB.out) GB29.out : Below w.heap.size w w45)); clear hg hw hp_))
      replace HO_21 := Aside0.mk (Kd.R_drew HO_21.out)
      replace HO_688000 := Aside0.mk (Kd.R_drew HO_688000.out)
      replace HO_688001 := Aside0.mk (Kd.R_drew HO_688001.out)
      replace BK678 := Aside0.mk (blk_drew BK678.out)
      replace BK679 := Aside0.mk (blk_drew BK679.out)
      replace BK687 := Aside0.mk (blk_drew BK687.out)
      replace HB := Aside0.mk (below_drew1 HB.out)
      have p691 : 0 ≤ (x23_1 : Int) := TD
      have q691 : x23_1 < (y690.length : Int) := (by have h_ : (x23_1 : Int) < ((x688001_1.length : Int) : Int) := TD; first | (have e_ := (Kd.R_reads' HO_688001.out).1; omega) | simpa only [Ny690.out, List.length_set] using h_)
      have ql691 : ((x23_1 : Int) < ((x688001_1.length : Int) : Int)) = True := eq_true TD
      obtain ⟨ad691, e691, hx691_0⟩ := Kd.at_int (Kd.R_reads' HO_688001.out).2.2 x23_1 p691 q691
      obtain rfl : (⟨go29, 0, none⟩ : Addr) = ad691 := (by injection e691)
      (first | simp only [add_plain] at hx691_0 | simp only [add_at] at hx691_0 | simp only [Addr.add, Nat.zero_add] at hx691_0 | skip)
      replace p691 := eq_true p691
      replace q691 := eq_true q691
      have p692 : 0 ≤ (x6_1 : Int) := TD
      have q692 : x6_1 < (y690.length : Int) := (by have h_ : (x6_1 : Int) < ((x688001_1.length : Int) : Int) := TD; first | (have e_ := (Kd.R_reads' HO_688001.out).1; omega) | simpa only [Ny690.out, List.length_set] using h_)
      have ql692 : ((x6_1 : Int) < ((x688001_1.length : Int) : Int)) = True := eq_true TD
      obtain ⟨ad692, e692, hx692_0⟩ := Kd.at_int (Kd.R_reads' HO_688001.out).2.2 x6_1 p692 q692
      obtain rfl : (⟨go29, 0, none⟩ : Addr) = ad692 := (by injection e692)
      (first | simp only [add_plain] at hx692_0 | simp only [add_at] at hx692_0 | simp only [Addr.add, Nat.zero_add] at hx692_0 | skip)
      replace p692 := eq_true p692
      replace q692 := eq_true q692
      refine start_ (n := 11) (S := fun w' => w'.cell? ⟨gb687, 0, none⟩ = some (u688000) ∧ w'.cell? ⟨gb687, 1, none⟩ = some (.slice (some ⟨go29, 0, none⟩) x688001_1.length co43) ∧ w'.cell? ⟨go29, (x23_1).toNat, none⟩ = some (.int .i64 (rd y690 x23_1)) ∧ w'.cell? ⟨go29, (x6_1).toNat, none⟩ = some (.int .i64 (rd y690 x6_1))) (ds := []) #[false, false, false, false, false, false, false, false, false, false, false] KR rfl rfl ⟨bc 0 BK687, bc 1 BK687, hx691_0, hx692_0⟩ (fun hHeld => ?_); refine with_tabW impl_NextTurn.tab9 impl_NextTurn.bits9 (fun HT_ HW_ => ?_)
      generalize w45.drew = w46 at HO_21 HO_688000 HO_688001 BK678 BK679 BK687 HB hx691_0 hx692_0 hHeld ⊢
      refine pA 0 36 (mL 11 1) HT_ rfl rfl ?_
      refine pA 2 38 (mL 11 5) HT_ rfl rfl ?_
      refine pA 5 41 (mL 11 37) HT_ rfl rfl ?_
      refine pA 7 43 (mL 11 165) HT_ rfl rfl ?_
      refine tA 1 37 (mL 11 167) HT_ HW_ hHeld rfl rfl (by rintro w' ⟨s0, s1, s2, s3⟩; go_simp; with_reducible rfl) ?_
      refine pA 3 39 (mL 11 175) HT_ rfl rfl ?_
      refine tA 4 40 (mL 11 191) HT_ HW_ hHeld rfl rfl (by rintro w' ⟨s0, s1, s2, s3⟩; go_simp; with_reducible rfl) ?_
      refine tA 6 42 (mL 11 255) HT_ HW_ hHeld rfl rfl (by rintro w' ⟨s0, s1, s2, s3⟩; go_simp; with_reducible rfl) ?_
      refine pA 8 44 (mL 11 511) HT_ rfl rfl ?_
      refine tA 9 45 (mL 11 1023) HT_ HW_ hHeld rfl rfl (by rintro w' ⟨s0, s1, s2, s3⟩; go_simp; with_reducible rfl) ?_
      refine pA 10 46 (mL 11 2047) HT_ rfl rfl ?_
      refine done_ (done_of HT_.out KR) ?_
      try go_wp2
      (try simp only [← hl21_1])
      go_roundg k1
      case measure => have := HK1.out; omega
      case rel => exact ⟨(x6_1), (x21_1), (wrap64 (x23_1 + 1)), (x688000_1), (y690), (u688000), (.slice (some ⟨go29, 0, none⟩) x688001_1.length co43), TF, TF, H', ⟨TM⟩, ⟨by (try simp only [hl21_1]); (with_reducible repeat (first | apply Kd.R_alloc | apply Kd.R_drewN | apply Kd.R_drew)); exact Kd.R_mono HO_21.out (fun _ hk => hk.2)⟩, ⟨by (try simp only [hl21_1]); (with_reducible repeat (first | apply Kd.R_alloc | apply Kd.R_drewN | apply Kd.R_drew)); exact Kd.R_mono HO_688000.out (fun _ hk => hk.2)⟩, ⟨by (try simp only [hl21_1]); (with_reducible repeat (first | apply Kd.R_alloc | apply Kd.R_drewN | apply Kd.R_drew)); exact HO_688001.out⟩, ⟨by (try simp only [hl21_1]); (with_reducible repeat (first | refine blk_drewN ?_ _ | refine blk_drew ?_ | refine blk_alloc ?_ _)); exact BK678.out⟩, ⟨by (try simp only [hl21_1]); (with_reducible repeat (first | refine blk_drewN ?_ _ | refine blk_drew ?_ | refine blk_alloc ?_ _)); exact BK679.out⟩, ⟨by (try simp only [hl21_1]); (with_reducible repeat (first | refine blk_drewN ?_ _ | refine blk_drew ?_ | refine blk_alloc ?_ _)); exact BK687.out⟩, ⟨TB⟩⟩
    ·rw [if_neg c25] at H
     have c25b0 : decide (x23_1 < (t681.length : Int)) = false := decide_eq_false c25
     (try simp only [hl21_1] at c25b0)
     clear c25
     obtain ⟨c47, H⟩ := ifn H
     have c47b0 : decide (0 ≤ x6_1) = true := decide_eq_true c47
     clear c47
     obtain ⟨c48, H⟩ := ifn H
     have c48b0 : decide (x6_1 < (x688001_1.length : Int)) = true := decide_eq_true c48
     (try simp only [hl21_1] at c48b0)
     clear c48
     obtain ⟨t694, A49, H⟩ := bnd H
     obtain ⟨y695, hy695⟩ : ∃ y_ : List Int, y_ = (x688001_1.set (x6_1 : Int).toNat (wrap64 ((rd x688001_1 x6_1) - t694))) := ⟨_, rfl⟩
     replace H : ((impl_GoodTurn.f k1 x688000_1 y695).bind fun t696 => (if t696 = true then (some (x688000_1, y695, x6_1, true)) else (some (([] : List Int), ([] : List Int), 0, false)))) = some (r1, r2, r3, r4) := by first | (rw [hy695]; with_reducible exact H) | (have H2_ := (Option.bind_some _ _).symm.trans H; rw [hy695]; with_reducible exact H2_) | (have H2_ := (Option.bind_some _ _).symm.trans H; with_reducible exact H2_) | with_reducible exact H | (rw [hy695]; exact H) | exact H
     have Ny695 := Aside0.mk hy695
     clear hy695
     obtain ⟨t696, A51, H⟩ := bnd H
     by_cases c52 : t696 = true
     ·subst c52
      replace H := ift H
      simp only [Option.some.injEq, Prod.mk.injEq] at H
      obtain ⟨rfl, rfl, rfl, rfl⟩ := H
      try go_wp2
      replace HO_21 := Aside0.mk (Kd.R_drew HO_21.out)
      replace HO_688000 := Aside0.mk (Kd.R_drew HO_688000.out)
      replace HO_688001 := Aside0.mk (Kd.R_drew HO_688001.out)
      replace BK678 := Aside0.mk (blk_drew BK678.out)
      replace BK679 := Aside0.mk (blk_drew BK679.out)
      replace BK687 := Aside0.mk (blk_drew BK687.out)
      replace HB := Aside0.mk (below_drew1 HB.out)
      obtain ⟨Ao54, co54, eo54⟩ := Kd.R_slice HO_688001.out
      (first | subst eo54 | (injection eo54 with f1_ f2_ f3_; have f4_ := f1_.symm; have f5_ := f3_.symm; clear f1_ f2_ f3_; subst f4_; subst f5_))
      have p693 : 0 ≤ (x6_1 : Int) := TD
      have q693 : x6_1 < (x688001_1.length : Int) := TD
      obtain ⟨ad693, e693, hx693_0⟩ := Kd.at_int (Kd.R_reads' HO_688001.out).2.2 x6_1 p693 q693
      cases e693
      replace p693 := eq_true p693
      replace q693 := eq_true q693
      obtain ⟨Ao55, co55, eo55⟩ := Kd.R_slice HO_688000.out
      (first | subst eo55 | (injection eo55 with f1_ f2_ f3_; have f4_ := f1_.symm; have f5_ := f3_.symm; clear f1_ f2_ f3_; subst f4_; subst f5_))
      refine start_ (n := 11) (S := fun w' => w'.cell? ⟨gb687, 0, none⟩ = some (.slice Ao55 x688000_1.length co55) ∧ w'.cell? ⟨gb687, 1, none⟩ = some (.slice (some ad693) x688001_1.length co54) ∧ w'.cell? (ad693.add (x6_1).toNat) = some (.int .i64 (rd x688001_1 x6_1))) (ds := [10]) #[false, false, false, false, false, false, false, false, false, false, false] KR rfl rfl ⟨bc 0 BK687, bc 1 BK687, hx693_0⟩ (fun hHeld => ?_); refine with_tabW impl_NextTurn.tab12 impl_NextTurn.bits12 (fun HT_ HW_ => ?_)
      generalize wr.drew = w53 at HO_21 HO_688000 HO_688001 BK678 BK679 BK687 HB hx693_0 hHeld ⊢
      refine pA 0 49 (mL 11 1) HT_ rfl rfl ?_
      refine pA 2 51 (mL 11 5) HT_ rfl rfl ?_
      refine pA 5 54 (mL 11 37) HT_ rfl rfl ?_
      refine tA 1 50 (mL 11 39) HT_ HW_ hHeld rfl rfl (by rintro w' ⟨s0, s1, s2⟩; go_simp; with_reducible rfl) ?_
      refine pA 3 52 (mL 11 47) HT_ rfl rfl ?_
      refine tA 4 53 (mL 11 63) HT_ HW_ hHeld rfl rfl (by rintro w' ⟨s0, s1, s2⟩; go_simp; with_reducible rfl) ?_
      refine tA 6 55 (mL 11 127) HT_ HW_ hHeld rfl rfl (by rintro w' ⟨s0, s1, s2⟩; go_simp; with_reducible rfl) ?_
      refine one_ (i := 7) (N := some 56) (mL 11 255) rfl rfl (one_of HT_.out KR) (by decide) (fun K hK => ?_)
      refine goes_ Try.func62 KR rfl #[.slice Ao55 x688000_1.length co55] (by rfl) rfl rfl TA ?_
      with_reducible refine (impl_totalOf.calls k1 _ _ x688000_1 t694 _ ?side1 ?side2 A49.out).mono ?_
      (case side1 => exact CW ((Kd.R_reads' HO_688000.out).2.2))
      (case side2 => exact RI HO_688000)
      rintro e w53q ⟨rfl, ⟨nd, hq_⟩⟩
      replace hq_ := hq_.symm
      replace HO_21 := Aside0.mk (Kd.R_at hq_ HO_21.out)
      replace HO_688000 := Aside0.mk (Kd.R_at hq_ HO_688000.out)
      replace HO_688001 := Aside0.mk (Kd.R_at hq_ HO_688001.out)
      replace BK678 := Aside0.mk (blk_at hq_ BK678.out)
      replace BK679 := Aside0.mk (blk_at hq_ BK679.out)
      replace BK687 := Aside0.mk (blk_at hq_ BK687.out)
      replace HB := Aside0.mk (below_at hq_ HB.out)
      replace hx693_0 := cell_at hq_ hx693_0
      clear hq_
      refine ⟨_, rfl, ?_⟩
      have p50 : 0 ≤ (x6_1 : Int) := TD
      have q50 : (x6_1 : Int) < ((x688001_1.length : Int) : Int) := TD
      obtain ⟨go50, co50, eo50, gb50, gl50, cl50, HG50⟩ := Kd.R_form HO_688001.out (by omega)
      (first | cases eo50 | (injection eo50 with ea_ en_ ec_; (first | subst ea_ | (injection ea_ with ea_; subst ea_)); subst ec_; clear en_))
      have GB50 := Aside0.mk gb50
      have GG50 := Aside0.mk HG50
      clear gb50 gl50 HG50
      (first | simp only [add_plain] at hx693_0 | skip)
      obtain ⟨hx50_0, hf50_0⟩ := Kd.R_celln 0 HO_688001.out (x6_1 : Int) p50 q50
      replace p50 := eq_true p50
      replace q50 := eq_true q50
      have HP56 := Kd.R_putn HO_688001.out (x6_1 : Int) (wrap64 ((rd x688001_1 x6_1) - t694))
      rw [← Ny695.out] at HP56
      have HQ56 := Aside0.mk HP56
      clear HP56
      refine hK.out _ _ ⟨bc 0 BK687, bc 1 BK687, (by first | exact hx693_0 | (simp only [add_plain]; exact hx693_0))⟩ (fun hHeld => ?_)
      clear hK K
      refine nA ?_
      refine pA 8 57 (mL 11 511) HT_ rfl rfl ?_
      refine pA 9 58 (mL 11 1023) HT_ rfl rfl ?_
      refine last_ (i := 10) (N := none) (mL 11 2047) rfl rfl (one_of HT_.out KR) (by decide) (fun K hK => ?_)
      refine skip_ (w1 := ?_) (by rfl) rfl ?_ ?_
      rotate_left
      ·go_simp
       rfl
      refine hK.out _ _ ?_
      clear hK K
      refine done_ (done_of HT_.out KR) ?_
      have n0_ : Aside0 (Kd.R (Kd.int .i64) 3 (w53q.setCell ⟨go50, (x6_1 : Int).toNat, none⟩ (.int .i64 (wrap64 ((rd x688001_1 x6_1) - t694)))) w.heap.size (fun k_ => some k_ ≠ (.slice (some ⟨go50, 0, none⟩) x688001_1.length co54 : Value).ownBlock) (.slice Ao19 x21_1.length co19) x21_1) := ⟨by (with_reducible repeat (first | apply Kd.R_alloc | apply Kd.R_drewN | apply Kd.R_drew)); exact Kd.R_mono (Kd.R_far (p := ⟨go50, (x6_1 : Int).toNat, none⟩) (Kd.R_mono HO_21.out (fun k_ hk => (⟨hk, fun e_ => hk (by rw [e_]; rfl)⟩ : _ ∧ k_ ≠ go50))) (fun _ hk => hk.2) (.int .i64 (wrap64 ((rd x688001_1 x6_1) - t694)))) (fun _ hk => hk.1)⟩
      have n1_ : Aside0 (Kd.R (Kd.int .i64) 3 (w53q.setCell ⟨go50, (x6_1 : Int).toNat, none⟩ (.int .i64 (wrap64 ((rd x688001_1 x6_1) - t694)))) w.heap.size (fun k_ => some k_ ≠ (.slice (some ⟨go50, 0, none⟩) x688001_1.length co54 : Value).ownBlock) (.slice Ao55 x688000_1.length co55) x688000_1) := ⟨by (with_reducible repeat (first | apply Kd.R_alloc | apply Kd.R_drewN | apply Kd.R_drew)); exact Kd.R_mono (Kd.R_far (p := ⟨go50, (x6_1 : Int).toNat, none⟩) (Kd.R_mono HO_688000.out (fun k_ hk => (⟨hk, fun e_ => hk (by rw [e_]; rfl)⟩ : _ ∧ k_ ≠ go50))) (fun _ hk => hk.2) (.int .i64 (wrap64 ((rd x688001_1 x6_1) - t694)))) (fun _ hk => hk.1)⟩
      have n2_ : Aside0 (Kd.R (Kd.int .i64) 3 (w53q.setCell ⟨go50, (x6_1 : Int).toNat, none⟩ (.int .i64 (wrap64 ((rd x688001_1 x6_1) - t694)))) w.heap.size (fun k_ => some k_ ≠ (.slice Ao19 x21_1.length co19 : Value).ownBlock ∧ some k_ ≠ (.slice Ao55 x688000_1.length co55 : Value).ownBlock) (.slice (some ⟨go50, 0, none⟩) x688001_1.length co54) y695) := RW HQ56
      have n3_ : Aside0 ((w53q.setCell ⟨go50, (x6_1 : Int).toNat, none⟩ (.int .i64 (wrap64 ((rd x688001_1 x6_1) - t694)))).heap[gb678]? = some (.cells #[.slice A0_0 l0_0.length c0_0, .slice A0_1 l0_1.length c0_1] 40 (0, 0))) := ⟨by (with_reducible repeat (first | refine blk_drewN ?_ _ | refine blk_drew ?_ | refine blk_alloc ?_ _)); refine blk_far ?_ (by have h_ := Kd.R_ne HO_688001.out BK678.out (by decide); intro e_; exact h_ (by rw [e_]; rfl)) _; (with_reducible repeat (first | refine blk_drewN ?_ _ | refine blk_drew ?_ | refine blk_alloc ?_ _)); exact BK678.out⟩
      have n4_ : Aside0 ((w53q.setCell ⟨go50, (x6_1 : Int).toNat, none⟩ (.int .i64 (wrap64 ((rd x688001_1 x6_1) - t694)))).heap[gb679]? = some (.cells #[.slice none 0 0, .slice none 0 0] 40 (0, 0))) := ⟨by (with_reducible repeat (first | refine blk_drewN ?_ _ | refine blk_drew ?_ | refine blk_alloc ?_ _)); refine blk_far ?_ (by have h_ := Kd.R_ne HO_688001.out BK679.out (by decide); intro e_; exact h_ (by rw [e_]; rfl)) _; (with_reducible repeat (first | refine blk_drewN ?_ _ | refine blk_drew ?_ | refine blk_alloc ?_ _)); exact BK679.out⟩
      have n5_ : Aside0 ((w53q.setCell ⟨go50, (x6_1 : Int).toNat, none⟩ (.int .i64 (wrap64 ((rd x688001_1 x6_1) - t694)))).heap[gb687]? = some (.cells #[.slice Ao55 x688000_1.length co55, .slice (some ⟨go50, 0, none⟩) x688001_1.length co54] 40 (0, 0))) := ⟨by (with_reducible repeat (first | refine blk_drewN ?_ _ | refine blk_drew ?_ | refine blk_alloc ?_ _)); refine blk_far ?_ (by have h_ := Kd.R_ne HO_688001.out BK687.out (by decide); intro e_; exact h_ (by rw [e_]; rfl)) _; (with_reducible repeat (first | refine blk_drewN ?_ _ | refine blk_drew ?_ | refine blk_alloc ?_ _)); exact BK687.out⟩
      have n6_ : Aside0 (Below w.heap.size w (w53q.setCell ⟨go50, (x6_1 : Int).toNat, none⟩ (.int .i64 (wrap64 ((rd x688001_1 x6_1) - t694))))) := ⟨TB⟩
      (try clear HO_21)
      (try clear HO_688000)
      (try clear HO_688001)
      (try clear BK678)
      (try clear BK679)
      (try clear BK687)
      (try clear HB)
      generalize (w53q.setCell ⟨go50, (x6_1 : Int).toNat, none⟩ (.int .i64 (wrap64 ((rd x688001_1 x6_1) - t694)))) = w57 at n0_ n1_ n2_ n3_ n4_ n5_ n6_ ⊢
      have HO_21 := n0_
      have HO_688000 := n1_
      have HO_688001 := n2_
      have BK678 := n3_
      have BK679 := n4_
      have BK687 := n5_
      have HB := n6_
      clear n0_ n1_ n2_ n3_ n4_ n5_ n6_
      have hnb58 := NB687_678.out
      have hnc58 := NB678_687.out
      have hnb59 := NB687_679.out
      have hnc59 := NB679_687.out
      have hcz60 := cz2 BK687
      try go_wp2_with (first | ((with_reducible refine gate_callee (f := 29) rfl ?_); refine goesL_ (some 60) rfl rfl Try.func29 KR rfl #[.agg #[.slice Ao55 x688000_1.length co55, .slice (some ⟨go50, 0, none⟩) y695.length co54]] rfl (by (try simp only [List.map_toArray, List.map_cons, List.map_nil]); first | done | (rw [show y695.length = x688001_1.length from (Kd.R_reads' HO_688001.out).1.symm] <;> rfl) | rfl | (simp only [List.length_drop, List.length_take]; rfl)) ?_; (with_reducible refine (impl_GoodTurn.calls k1 _ _ x688000_1 _ _ y695 true _ ?side1 ?side2 ?side3 ?side4 A51.out).mono ?_); (case side1 => exact CW ((Kd.R_reads' HO_688000.out).2.2)); (case side2 => exact RI HO_688000); (case side3 => exact CW ((Kd.R_reads' HO_688001.out).2.2)); (case side4 => rw [show y695.length = x688001_1.length from (Kd.R_reads' HO_688001.out).1.symm]; exact RI HO_688001); rintro e w61 ⟨rfl, hb⟩; refine ⟨_, rfl, ?_⟩; replace HO_21 := RB HO_21 hb; replace HO_688000 := RB HO_688000 hb; replace HO_688001 := RB HO_688001 hb; replace BK678 := KB BK678 hb; replace BK679 := KB BK679 hb; replace BK687 := KB BK687 hb; replace HB := BS hb; clear hb; have hcz62 := cz2 BK687; obtain ⟨hnb63, hnc63⟩ := nn NB679_678; have hcz64 := cz2 BK679))
      refine bodyPost_ret (results_ctt rfl _ _ gb679 40 #[.slice Ao55 x688000_1.length co55, .slice (some ⟨go50, 0, none⟩) x688001_1.length co54] (0, 0) _ rfl (by (with_reducible repeat (first | refine blk_drewN ?_ _ | refine blk_drew ?_ | refine blk_alloc ?_ _)); refine blk_put (cs := #[.slice Ao55 x688000_1.length co55, .slice none 0 0]) ?_ 1 _ rfl; (with_reducible repeat (first | refine blk_drewN ?_ _ | refine blk_drew ?_ | refine blk_alloc ?_ _)); refine blk_put (cs := #[.slice none 0 0, .slice none 0 0]) ?_ 0 _ rfl; (with_reducible repeat (first | refine blk_drewN ?_ _ | refine blk_drew ?_ | refine blk_alloc ?_ _)); exact BK679.out) Try.underlying40 rfl KR) rfl ?_
      exact ⟨_, _, TE, by (with_reducible repeat (first | apply Kd.R_alloc | apply Kd.R_drewN | apply Kd.R_drew)); exact Kd.R_mono (Kd.R_far (p := ⟨gb679, 1, none⟩) (Kd.R_far (p := ⟨gb679, 0, none⟩) (Kd.R_types HO_688000.out BK679.out (by decide)) (fun _ hk => hk.2) (.slice Ao55 x688000_1.length co55)) (fun _ hk => hk.2) (.slice (some ⟨go50, 0, none⟩) x688001_1.length co54)) (fun _ hk => hk.1), by (with_reducible repeat (first | apply Kd.R_alloc | apply Kd.R_drewN | apply Kd.R_drew)); exact Kd.R_mono (Kd.R_far (p := ⟨gb679, 1, none⟩) (Kd.R_far (p := ⟨gb679, 0, none⟩) (Kd.R_types HO_688001.out BK679.out (by decide)) (fun _ hk => hk.2) (.slice Ao55 x688000_1.length co55)) (fun _ hk => hk.2) (.slice (some ⟨go50, 0, none⟩) x688001_1.length co54)) (fun _ hk => hk.1.2), TB⟩
     ·replace c52 := Bool.eq_false_iff.mpr c52
      subst c52
      replace H := iff' H
      simp only [Option.some.injEq, Prod.mk.injEq] at H
      obtain ⟨rfl, rfl, rfl, rfl⟩ := H
      try go_wp2
      replace HO_21 := Aside0.mk (Kd.R_drew HO_21.out)
      replace HO_688000 := Aside0.mk (Kd.R_drew HO_688000.out)
      replace HO_688001 := Aside0.mk (Kd.R_drew HO_688001.out)
      replace BK678 := Aside0.mk (blk_drew BK678.out)
      replace BK679 := Aside0.mk (blk_drew BK679.out)
      replace BK687 := Aside0.mk (blk_drew BK687.out)
      replace HB := Aside0.mk (below_drew1 HB.out)
      obtain ⟨Ao66, co66, eo66⟩ := Kd.R_slice HO_688001.out
      (first | subst eo66 | (injection eo66 with f1_ f2_ f3_; have f4_ := f1_.symm; have f5_ := f3_.symm; clear f1_ f2_ f3_; subst f4_; subst f5_))
      have p693 : 0 ≤ (x6_1 : Int) := TD
      have q693 : x6_1 < (x688001_1.length : Int) := TD
      obtain ⟨ad693, e693, hx693_0⟩ := Kd.at_int (Kd.R_reads' HO_688001.out).2.2 x6_1 p693 q693
      cases e693
      replace p693 := eq_true p693
      replace q693 := eq_true q693
      obtain ⟨Ao67, co67, eo67⟩ := Kd.R_slice HO_688000.out
      (first | subst eo67 | (injection eo67 with f1_ f2_ f3_; have f4_ := f1_.symm; have f5_ := f3_.symm; clear f1_ f2_ f3_; subst f4_; subst f5_))
      refine start_ (n := 11) (S := fun w' => w'.cell? ⟨gb687, 0, none⟩ = some (.slice Ao67 x688000_1.length co67) ∧ w'.cell? ⟨gb687, 1, none⟩ = some (.slice (some ad693) x688001_1.length co66) ∧ w'.cell? (ad693.add (x6_1).toNat) = some (.int .i64 (rd x688001_1 x6_1))) (ds := [10]) #[false, false, false, false, false, false, false, false, false, false, false] KR rfl rfl ⟨bc 0 BK687, bc 1 BK687, hx693_0⟩ (fun hHeld => ?_); refine with_tabW impl_NextTurn.tab12 impl_NextTurn.bits12 (fun HT_ HW_ => ?_)
      generalize wr.drew = w65 at HO_21 HO_688000 HO_688001 BK678 BK679 BK687 HB hx693_0 hHeld ⊢
      refine pA 0 49 (mL 11 1) HT_ rfl rfl ?_
      refine pA 2 51 (mL 11 5) HT_ rfl rfl ?_
      refine pA 5 54 (mL 11 37) HT_ rfl rfl ?_
      refine tA 1 50 (mL 11 39) HT_ HW_ hHeld rfl rfl (by rintro w' ⟨s0, s1, s2⟩; go_simp; with_reducible rfl) ?_
      refine pA 3 52 (mL 11 47) HT_ rfl rfl ?_
      refine tA 4 53 (mL 11 63) HT_ HW_ hHeld rfl rfl (by rintro w' ⟨s0, s1, s2⟩; go_simp; with_reducible rfl) ?_
      refine tA 6 55 (mL 11 127) HT_ HW_ hHeld rfl rfl (by rintro w' ⟨s0, s1, s2⟩; go_simp; with_reducible rfl) ?_
      refine one_ (i := 7) (N := some 56) (mL 11 255) rfl rfl (one_of HT_.out KR) (by decide) (fun K hK => ?_)
      refine goes_ Try.func62 KR rfl #[.slice Ao67 x688000_1.length co67] (by rfl) rfl rfl TA ?_
      with_reducible refine (impl_totalOf.calls k1 _ _ x688000_1 t694 _ ?side1 ?side2 A49.out).mono ?_
      (case side1 => exact CW ((Kd.R_reads' HO_688000.out).2.2))
      (case side2 => exact RI HO_688000)
      rintro e w65q ⟨rfl, ⟨nd, hq_⟩⟩
      replace hq_ := hq_.symm
      replace HO_21 := Aside0.mk (Kd.R_at hq_ HO_21.out)
      replace HO_688000 := Aside0.mk (Kd.R_at hq_ HO_688000.out)
      replace HO_688001 := Aside0.mk (Kd.R_at hq_ HO_688001.out)
      replace BK678 := Aside0.mk (blk_at hq_ BK678.out)
      replace BK679 := Aside0.mk (blk_at hq_ BK679.out)
      replace BK687 := Aside0.mk (blk_at hq_ BK687.out)
      replace HB := Aside0.mk (below_at hq_ HB.out)
      replace hx693_0 := cell_at hq_ hx693_0
      clear hq_
      refine ⟨_, rfl, ?_⟩
      have p50 : 0 ≤ (x6_1 : Int) := TD
      have q50 : (x6_1 : Int) < ((x688001_1.length : Int) : Int) := TD
      obtain ⟨go50, co50, eo50, gb50, gl50, cl50, HG50⟩ := Kd.R_form HO_688001.out (by omega)
      (first | cases eo50 | (injection eo50 with ea_ en_ ec_; (first | subst ea_ | (injection ea_ with ea_; subst ea_)); subst ec_; clear en_))
      have GB50 := Aside0.mk gb50
      have GG50 := Aside0.mk HG50
      clear gb50 gl50 HG50
      (first | simp only [add_plain] at hx693_0 | skip)
      obtain ⟨hx50_0, hf50_0⟩ := Kd.R_celln 0 HO_688001.out (x6_1 : Int) p50 q50
      replace p50 := eq_true p50
      replace q50 := eq_true q50
      have HP68 := Kd.R_putn HO_688001.out (x6_1 : Int) (wrap64 ((rd x688001_1 x6_1) - t694))
      rw [← Ny695.out] at HP68
      have HQ68 := Aside0.mk HP68
      clear HP68
      refine hK.out _ _ ⟨bc 0 BK687, bc 1 BK687, (by first | exact hx693_0 | (simp only [add_plain]; exact hx693_0))⟩ (fun hHeld => ?_)
      clear hK K
      refine nA ?_
      refine pA 8 57 (mL 11 511) HT_ rfl rfl ?_
      refine pA 9 58 (mL 11 1023) HT_ rfl rfl ?_
      refine last_ (i := 10) (N := none) (mL 11 2047) rfl rfl (one_of HT_.out KR) (by decide) (fun K hK => ?_)
      refine skip_ (w1 := ?_) (by rfl) rfl ?_ ?_
      rotate_left
      ·go_simp
       rfl
      refine hK.out _ _ ?_
      clear hK K
      refine done_ (done_of HT_.out KR) ?_
      have n0_ : Aside0 (Kd.R (Kd.int .i64) 3 (w65q.setCell ⟨go50, (x6_1 : Int).toNat, none⟩ (.int .i64 (wrap64 ((rd x688001_1 x6_1) - t694)))) w.heap.size (fun k_ => some k_ ≠ (.slice (some ⟨go50, 0, none⟩) x688001_1.length co66 : Value).ownBlock) (.slice Ao19 x21_1.length co19) x21_1) := ⟨by (with_reducible repeat (first | apply Kd.R_alloc | apply Kd.R_drewN | apply Kd.R_drew)); exact Kd.R_mono (Kd.R_far (p := ⟨go50, (x6_1 : Int).toNat, none⟩) (Kd.R_mono HO_21.out (fun k_ hk => (⟨hk, fun e_ => hk (by rw [e_]; rfl)⟩ : _ ∧ k_ ≠ go50))) (fun _ hk => hk.2) (.int .i64 (wrap64 ((rd x688001_1 x6_1) - t694)))) (fun _ hk => hk.1)⟩
      have n1_ : Aside0 (Kd.R (Kd.int .i64) 3 (w65q.setCell ⟨go50, (x6_1 : Int).toNat, none⟩ (.int .i64 (wrap64 ((rd x688001_1 x6_1) - t694)))) w.heap.size (fun k_ => some k_ ≠ (.slice (some ⟨go50, 0, none⟩) x688001_1.length co66 : Value).ownBlock) (.slice Ao67 x688000_1.length co67) x688000_1) := ⟨by (with_reducible repeat (first | apply Kd.R_alloc | apply Kd.R_drewN | apply Kd.R_drew)); exact Kd.R_mono (Kd.R_far (p := ⟨go50, (x6_1 : Int).toNat, none⟩) (Kd.R_mono HO_688000.out (fun k_ hk => (⟨hk, fun e_ => hk (by rw [e_]; rfl)⟩ : _ ∧ k_ ≠ go50))) (fun _ hk => hk.2) (.int .i64 (wrap64 ((rd x688001_1 x6_1) - t694)))) (fun _ hk => hk.1)⟩
      have n2_ : Aside0 (Kd.R (Kd.int .i64) 3 (w65q.setCell ⟨go50, (x6_1 : Int).toNat, none⟩ (.int .i64 (wrap64 ((rd x688001_1 x6_1) - t694)))) w.heap.size (fun k_ => some k_ ≠ (.slice Ao19 x21_1.length co19 : Value).ownBlock ∧ some k_ ≠ (.slice Ao67 x688000_1.length co67 : Value).ownBlock) (.slice (some ⟨go50, 0, none⟩) x688001_1.length co66) y695) := RW HQ68
      have n3_ : Aside0 ((w65q.setCell ⟨go50, (x6_1 : Int).toNat, none⟩ (.int .i64 (wrap64 ((rd x688001_1 x6_1) - t694)))).heap[gb678]? = some (.cells #[.slice A0_0 l0_0.length c0_0, .slice A0_1 l0_1.length c0_1] 40 (0, 0))) := ⟨by (with_reducible repeat (first | refine blk_drewN ?_ _ | refine blk_drew ?_ | refine blk_alloc ?_ _)); refine blk_far ?_ (by have h_ := Kd.R_ne HO_688001.out BK678.out (by decide); intro e_; exact h_ (by rw [e_]; rfl)) _; (with_reducible repeat (first | refine blk_drewN ?_ _ | refine blk_drew ?_ | refine blk_alloc ?_ _)); exact BK678.out⟩
      have n4_ : Aside0 ((w65q.setCell ⟨go50, (x6_1 : Int).toNat, none⟩ (.int .i64 (wrap64 ((rd x688001_1 x6_1) - t694)))).heap[gb679]? = some (.cells #[.slice none 0 0, .slice none 0 0] 40 (0, 0))) := ⟨by (with_reducible repeat (first | refine blk_drewN ?_ _ | refine blk_drew ?_ | refine blk_alloc ?_ _)); refine blk_far ?_ (by have h_ := Kd.R_ne HO_688001.out BK679.out (by decide); intro e_; exact h_ (by rw [e_]; rfl)) _; (with_reducible repeat (first | refine blk_drewN ?_ _ | refine blk_drew ?_ | refine blk_alloc ?_ _)); exact BK679.out⟩
      have n5_ : Aside0 ((w65q.setCell ⟨go50, (x6_1 : Int).toNat, none⟩ (.int .i64 (wrap64 ((rd x688001_1 x6_1) - t694)))).heap[gb687]? = some (.cells #[.slice Ao67 x688000_1.length co67, .slice (some ⟨go50, 0, none⟩) x688001_1.length co66] 40 (0, 0))) := ⟨by (with_reducible repeat (first | refine blk_drewN ?_ _ | refine blk_drew ?_ | refine blk_alloc ?_ _)); refine blk_far ?_ (by have h_ := Kd.R_ne HO_688001.out BK687.out (by decide); intro e_; exact h_ (by rw [e_]; rfl)) _; (with_reducible repeat (first | refine blk_drewN ?_ _ | refine blk_drew ?_ | refine blk_alloc ?_ _)); exact BK687.out⟩
      have n6_ : Aside0 (Below w.heap.size w (w65q.setCell ⟨go50, (x6_1 : Int).toNat, none⟩ (.int .i64 (wrap64 ((rd x688001_1 x6_1) - t694))))) := ⟨TB⟩
      (try clear HO_21)
      (try clear HO_688000)
      (try clear HO_688001)
      (try clear BK678)
      (try clear BK679)
      (try clear BK687)
      (try clear HB)
      generalize (w65q.setCell ⟨go50, (x6_1 : Int).toNat, none⟩ (.int .i64 (wrap64 ((rd x688001_1 x6_1) - t694)))) = w69 at n0_ n1_ n2_ n3_ n4_ n5_ n6_ ⊢
      have HO_21 := n0_
      have HO_688000 := n1_
      have HO_688001 := n2_
      have BK678 := n3_
      have BK679 := n4_
      have BK687 := n5_
      have HB := n6_
      clear n0_ n1_ n2_ n3_ n4_ n5_ n6_
      have hnb70 := NB687_678.out
      have hnc70 := NB678_687.out
      have hnb71 := NB687_679.out
      have hnc71 := NB679_687.out
      have hcz72 := cz2 BK687
      try go_wp2_with (first | ((with_reducible refine gate_callee (f := 29) rfl ?_); refine goesL_ (some 60) rfl rfl Try.func29 KR rfl #[.agg #[.slice Ao67 x688000_1.length co67, .slice (some ⟨go50, 0, none⟩) y695.length co66]] rfl (by (try simp only [List.map_toArray, List.map_cons, List.map_nil]); first | done | (rw [show y695.length = x688001_1.length from (Kd.R_reads' HO_688001.out).1.symm] <;> rfl) | rfl | (simp only [List.length_drop, List.length_take]; rfl)) ?_; (with_reducible refine (impl_GoodTurn.calls k1 _ _ x688000_1 _ _ y695 false _ ?side1 ?side2 ?side3 ?side4 A51.out).mono ?_); (case side1 => exact CW ((Kd.R_reads' HO_688000.out).2.2)); (case side2 => exact RI HO_688000); (case side3 => exact CW ((Kd.R_reads' HO_688001.out).2.2)); (case side4 => rw [show y695.length = x688001_1.length from (Kd.R_reads' HO_688001.out).1.symm]; exact RI HO_688001); rintro e w73 ⟨rfl, hb⟩; refine ⟨_, rfl, ?_⟩; replace HO_21 := RB HO_21 hb; replace HO_688000 := RB HO_688000 hb; replace HO_688001 := RB HO_688001 hb; replace BK678 := KB BK678 hb; replace BK679 := KB BK679 hb; replace BK687 := KB BK687 hb; replace HB := BS hb; clear hb; obtain ⟨hnb74, hnc74⟩ := nn NB679_678; have hcz75 := cz2 BK679))
      refine bodyPost_ret (results_ctt rfl _ _ gb679 40 #[.slice none 0 0, .slice none 0 0] (0, 0) _ rfl (by (with_reducible repeat (first | refine blk_drewN ?_ _ | refine blk_drew ?_ | refine blk_alloc ?_ _)); refine blk_put (cs := #[.slice none 0 0, .slice none 0 0]) ?_ 1 _ rfl; (with_reducible repeat (first | refine blk_drewN ?_ _ | refine blk_drew ?_ | refine blk_alloc ?_ _)); refine blk_put (cs := #[.slice none 0 0, .slice none 0 0]) ?_ 0 _ rfl; (with_reducible repeat (first | refine blk_drewN ?_ _ | refine blk_drew ?_ | refine blk_alloc ?_ _)); exact BK679.out) Try.underlying40 rfl KR) rfl ?_
      exact ⟨_, _, TE, TZ, TZ, TB⟩
 ·replace c3 := Bool.eq_false_iff.mpr c3
  subst c3
  replace H := iff' H
  simp only [Option.some.injEq, Prod.mk.injEq] at H
  obtain ⟨rfl, rfl, rfl, rfl⟩ := H
  go_enter Try.func46, Try.ntmps46
  go_wp2_with (first | ((with_reducible refine gate_dst (N := 1) rfl ?_); refine bE 1 #[.slice A0_0 l0_0.length c0_0, .slice A0_1 l0_1.length c0_1] 40 ?_; intro gb678 hg w76 hbox hb; have BK678 := Aside0.mk (hbox); have GE678 := bG hg; replace HB := BS hb; clear hb hbox hg) | ((with_reducible refine gate_dst (N := 2) rfl ?_); refine bE 2 #[.slice none 0 0, .slice none 0 0] 40 ?_; intro gb679 hg w77 hbox hb; have BK679 := Aside0.mk (hbox); have GE679 := bG hg; replace HB := BS hb; have NB678_679 := bN BK678 hg; have NB679_678 := bM BK678 hg; replace BK678 := KB BK678 hb; clear hb hbox hg; obtain ⟨hnb78, hnc78⟩ := nn NB678_679; have hcz79 := cz2 BK678) | ((with_reducible refine gate_callee (f := 29) rfl ?_); refine goesL_ (some 10) rfl rfl Try.func29 KR rfl #[.agg #[.slice A0_0 l0_0.length c0_0, .slice A0_1 l0_1.length c0_1]] rfl TA ?_; (with_reducible refine (impl_GoodTurn.calls k _ _ l0_0 _ _ l0_1 false _ ?side1 ?side2 ?side3 ?side4 A2.out).mono ?_); (case side1 => exact CW ((Kd.C_below HR0_0.out HB.out))); (case side2 => exact HC0_0.out); (case side3 => exact CW ((Kd.C_below HR0_1.out HB.out))); (case side4 => exact HC0_1.out); rintro e w80 ⟨rfl, hb⟩; refine ⟨_, rfl, ?_⟩; replace BK678 := KB BK678 hb; replace BK679 := KB BK679 hb; replace HB := BS hb; clear hb; have hcz81 := cz2 BK679))
  refine bodyPost_ret (results_ctt rfl _ _ gb679 40 #[.slice none 0 0, .slice none 0 0] (0, 0) _ rfl (by (with_reducible repeat (first | refine blk_drewN ?_ _ | refine blk_drew ?_ | refine blk_alloc ?_ _)); refine blk_put (cs := #[.slice none 0 0, .slice none 0 0]) ?_ 1 _ rfl; (with_reducible repeat (first | refine blk_drewN ?_ _ | refine blk_drew ?_ | refine blk_alloc ?_ _)); refine blk_put (cs := #[.slice none 0 0, .slice none 0 0]) ?_ 0 _ rfl; (with_reducible repeat (first | refine blk_drewN ?_ _ | refine blk_drew ?_ | refine blk_alloc ?_ _)); exact BK679.out) Try.underlying40 rfl KR) rfl ?_
  exact ⟨_, _, TE, TZ, TZ, TB⟩
end
section
/-! ### spec_l12Next: function 73 -/
def spec_l12Next.l0 : Nat → Int → List Int → Int → Int → List Int → List Int → List Int → List Int → Option (List Int × List Int × Int)
 | 0, _, _, _, _, _, _, _, _ => none
 | k + 1, x5, x14, x15, x16, x648000, x648001, x656000, x656001 => if x16 < x15 then (if 0 ≤ x16 then (if x16 < (x14.length : Int) then (if x16 < (x648000.length : Int) then (if x656001.length < 17592186044416 then ((some (x656001 ++ [wrap64 ((rd x14 x16) + (rd x648000 x16))] : List Int)).bind fun y658 => (if x16 < (y658.length : Int) then (if 0 ≤ x5 then (if x5 < (y658.length : Int) then (if (rd y658 x16) > (rd y658 x5) then (spec_l12Next.l0 k x16 x14 x15 (wrap64 (x16 + 1)) x648000 x648001 x656000 y658) else (spec_l12Next.l0 k x5 x14 x15 (wrap64 (x16 + 1)) x648000 x648001 x656000 y658)) else (none)) else (none)) else (none))) else (none)) else (none)) else (none)) else (none)) else (if 0 ≤ x5 then (if x5 < (x656001.length : Int) then ((spec_l12Total.f k x648000).bind fun t664 => (some (x656000, (x656001.set (x5 : Int).toNat (wrap64 ((rd x656001 x5) - t664))), x5))) else (none)) else (none))
def spec_l12Next.f (k : Nat) (l0_0 : List Int) (l0_1 : List Int) : Option (List Int × List Int × Int) := (some (([] : List Int) : List Int)).bind fun y649 => (if y649.length + l0_0.length < 17592186044416 then (spec_l12Next.l0 k 0 l0_1 (l0_1.length : Int) 0 l0_0 l0_1 (y649 ++ l0_0) ([] : List Int)) else (none))
def spec_l12Next.T6 : Bool × List (List Nat × List Nat) := (true, [([], []), ([0], [0]), ([], []), ([], []), ([3], [3]), ([], []), ([4, 5], [4, 5]), ([6], [6]), ([2, 7], [2, 7]), ([8], [8]), ([1, 9], [1, 9]), ([0, 1, 2, 3, 4, 5, 6, 7, 8, 9, 10], []), ([11, 10, 10, 0, 1, 2, 3, 4, 5, 6, 7, 8, 9, 10], [10, 11])])
def spec_l12Next.B6 : List Nat := [0, 1, 0, 0, 8, 0, 56, 120, 252, 508, 1023, 2047, 4095]
theorem spec_l12Next.tab6 : rtab .any (opsOf Try.f73 6) = spec_l12Next.T6 := by kernel_rfl
theorem spec_l12Next.bits6 : waitsOk spec_l12Next.T6.2 spec_l12Next.B6 = true := by kernel_rfl
def spec_l12Next.T7 : Bool × List (List Nat × List Nat) := (true, [([], []), ([0], [0]), ([], []), ([1, 2], [1, 2]), ([3], [3]), ([], []), ([5], [5]), ([], []), ([6, 7], [6, 7]), ([8], [8]), ([4, 9], [4, 9])])
def spec_l12Next.B7 : List Nat := [0, 1, 0, 7, 15, 0, 32, 0, 224, 480, 1023]
theorem spec_l12Next.tab7 : rtab .any (opsOf Try.f73 7) = spec_l12Next.T7 := by kernel_rfl
theorem spec_l12Next.bits7 : waitsOk spec_l12Next.T7.2 spec_l12Next.B7 = true := by kernel_rfl
def spec_l12Next.T10 : Bool × List (List Nat × List Nat) := (true, [([], []), ([0], [0]), ([], []), ([1, 2], [1, 2]), ([3], [3]), ([], []), ([5], [5]), ([6], [6]), ([4, 7], [4, 7]), ([1, 2, 0, 1, 2, 3, 4, 5, 6, 7, 8], [1, 2]), ([9, 8, 7, 0, 1, 2, 3, 4, 5, 6, 7, 8], [8, 9])])
def spec_l12Next.B10 : List Nat := [0, 1, 0, 7, 15, 0, 32, 96, 255, 511, 1023]
theorem spec_l12Next.tab10 : rtab .any (opsOf Try.f73 10) = spec_l12Next.T10 := by kernel_rfl
theorem spec_l12Next.bits10 : waitsOk spec_l12Next.T10.2 spec_l12Next.B10 = true := by kernel_rfl
theorem spec_l12Next.calls (k : Nat) (A0_0 : Option Addr) (c0_0 : Nat) (l0_0 : List Int) (A0_1 : Option Addr) (c0_1 : Nat) (l0_1 : List Int) (r1 : List Int) (r2 : List Int) (r3 : Int) (w : World) (hr0_0 : Kd.C (Kd.int .i64) w A0_0 l0_0.length l0_0) (hc0_0 : l0_0.length ≤ c0_0) (hr0_1 : Kd.C (Kd.int .i64) w A0_1 l0_1.length l0_1) (hc0_1 : l0_1.length ≤ c0_1) (h : spec_l12Next.f k l0_0 l0_1 = some (r1, r2, r3)) :
  Calls Try.prog 73 #[.agg #[.slice A0_0 l0_0.length c0_0, .slice A0_1 l0_1.length c0_1]] w fun e w' => ∃ v0_ v1_ : Value, e = .returned (.tuple #[.agg #[v0_, v1_], .int .i64 r3]) ∧ Kd.R (Kd.int .i64) 3 w' w.heap.size (fun k_ => some k_ ≠ (v1_ : Value).ownBlock) v0_ r1 ∧ Kd.R (Kd.int .i64) 3 w' w.heap.size (fun k_ => some k_ ≠ (v0_ : Value).ownBlock) v1_ r2 ∧ Below w.heap.size w w' := by
 have hu40 := Try.underlying40
 have HR0_0 := Aside0.mk hr0_0
 have HC0_0 := Aside0.mk hc0_0
 clear hr0_0 hc0_0
 have HR0_1 := Aside0.mk hr0_1
 have HC0_1 := Aside0.mk hc0_1
 clear hr0_1 hc0_1
 have HB := Aside0.mk (Below.refl w.heap.size w)
 have H : ((some (([] : List Int) : List Int)).bind fun y649 => (if y649.length + l0_0.length < 17592186044416 then (spec_l12Next.l0 k 0 l0_1 (l0_1.length : Int) 0 l0_0 l0_1 (y649 ++ l0_0) ([] : List Int)) else (none))) = some (r1, r2, r3) := h
 clear h
 obtain ⟨y649, hy649⟩ : ∃ y_ : List Int, y_ = (([] : List Int)) := ⟨_, rfl⟩
 replace H : (if y649.length + l0_0.length < 17592186044416 then (spec_l12Next.l0 k 0 l0_1 (l0_1.length : Int) 0 l0_0 l0_1 (y649 ++ l0_0) ([] : List Int)) else (none)) = some (r1, r2, r3) := by first | (rw [hy649]; with_reducible exact H) | (have H2_ := (Option.bind_some _ _).symm.trans H; rw [hy649]; with_reducible exact H2_) | (have H2_ := (Option.bind_some _ _).symm.trans H; with_reducible exact H2_) | with_reducible exact H | (rw [hy649]; exact H) | exact H
 have Ny649 := Aside0.mk hy649
 clear hy649
 obtain ⟨c2, H⟩ := ifn H
 have LMc2 := Aside0.mk c2
 clear c2
 obtain ⟨y652, hy652⟩ : ∃ y_ : List Int, y_ = (y649 ++ l0_0) := ⟨_, rfl⟩
 replace H : (spec_l12Next.l0 k 0 l0_1 (l0_1.length : Int) 0 l0_0 l0_1 y652 ([] : List Int)) = some (r1, r2, r3) := by first | (rw [hy652]; with_reducible exact H) | (have H2_ := (Option.bind_some _ _).symm.trans H; rw [hy652]; with_reducible exact H2_) | (have H2_ := (Option.bind_some _ _).symm.trans H; with_reducible exact H2_) | with_reducible exact H | (rw [hy652]; exact H) | exact H
 have Ny652 := Aside0.mk hy652
 clear hy652
 have H' := Aside0.mk H
 clear H
 go_enter Try.func73, Try.ntmps73
 go_wp2_with (first | ((with_reducible refine gate_dst (N := 1) rfl ?_); refine bE 1 #[.slice A0_0 l0_0.length c0_0, .slice A0_1 l0_1.length c0_1] 40 ?_; intro gb647 hg w3 hbox hb; have BK647 := Aside0.mk (hbox); have GE647 := bG hg; replace HB := BS hb; clear hb hbox hg) | ((with_reducible refine gate_dst (N := 2) rfl ?_); refine bE 2 #[.slice none 0 0, .slice none 0 0] 40 ?_; intro gb648 hg w4 hbox hb; have BK648 := Aside0.mk (hbox); have GE648 := bG hg; replace HB := BS hb; have NB647_648 := bN BK647 hg; have NB648_647 := bM BK647 hg; replace BK647 := KB BK647 hb; clear hb hbox hg) | ((with_reducible refine gate_dst (N := 8) rfl ?_); refine Kd.R_lit (Kd.int .i64) _ 3 ?hg (N := 8) ?hd (xs := ([] : List Int)) (inner := []) (ok := fun _ => True) (okp := fun _ => True) ?hr ?hp (fun _ hk => hk) trivial (Below.refl _ _) (Nat.le_refl _) (by simp) ?_; (case hd => rfl); (case hg => rfl); (case hr => first | (go_simp; done) | (go_simp; rfl)); (case hp => exact (Reps.none _ _)); intro v650 w5 ho6 hb hg_ hnew_; clear hg_ hnew_; (first | rw [← Ny649.out] at ho6 | (simp only [Int.reduceToNat] at ho6; rw [← Ny649.out] at ho6)); have HO651 := RL ho6; replace BK647 := KB BK647 hb; replace BK648 := KB BK648 hb; replace HB := BS hb; clear hb ho6; obtain ⟨hnb7, hnc7⟩ := nn NB647_648; have hcz8 := cz2 BK647) | ((with_reducible refine gate_builtin (b := .append) (xs := #[.tmp 8, .tmp 10]) rfl ?_); at_builtin; refine Kd.R_append_rows (Kd.int .i64) (w0 := w) w.heap.size rfl (.tmp 8) (.tmp 10) 22 3 (.int .i64 0) 8 rfl Try.underlying22 info3 rfl (by decide) (by omega) v650 y649 l0_0 _ _ _ (fun _ => True) (fun _ => False) rfl rfl ?aO ?aR (fun _ _ h => h) (fun _ h => h.elim) ?aF ?aB ?aS ?aL ?_; (case aR => repeat (first | exact (Kd.C_below HR0_0.out HB.out) | (with_reducible refine Kd.C_alloc ?_ _) | (with_reducible refine Kd.C_drewN ?_ _) | (with_reducible refine Kd.C_drew ?_))); (case aB => exact TB); (case aF => exact (fun _ _ => trivial)); (case aO => exact (RW HO651).out); (case aS => exact (below_size TB)); (case aL => have := LMc2.out; omega); intro v653 w9 ho hb hg hat; rw [← Ny652.out] at ho; have n0_ := Aside0.mk (blk_grown (g := gb647) (o := .cells #[.slice A0_0 l0_0.length c0_0, .slice A0_1 l0_1.length c0_1] 40 (0, 0)) (KW BK647).out hg (Kd.R_ne HO651.out BK647.out (by decide))); have n1_ := Aside0.mk (blk_grown (g := gb648) (o := .cells #[.slice none 0 0, .slice none 0 0] 40 (0, 0)) (KW BK648).out hg (Kd.R_ne HO651.out BK648.out (by decide))); have n2_ := Aside0.mk (hb); have n3_ := Aside0.mk (ho); clear BK647; clear BK648; clear HB; clear HO651; have BK647 := n0_; have BK648 := n1_; have HB := n2_; have HO654 := n3_; clear n0_ n1_ n2_ n3_; clear ho hb hg hat; obtain ⟨Ao10, co10, eo10⟩ := Kd.R_slice HO654.out; subst eo10) | ((with_reducible refine gate_dst (N := 4) rfl ?_); refine bE 4 #[.slice none 0 0, .slice none 0 0] 40 ?_; intro gb655 hg w11 hbox hb; replace HO654 := RB HO654 hb; have BK655 := Aside0.mk (hbox); have GE655 := bG hg; replace HB := BS hb; have NB647_655 := bN BK647 hg; have NB655_647 := bM BK647 hg; replace BK647 := KB BK647 hb; have NB648_655 := bN BK648 hg; have NB655_648 := bM BK648 hg; replace BK648 := KB BK648 hb; clear hb hbox hg; obtain ⟨hnb12, hnc12⟩ := nn NB655_647; obtain ⟨hnb13, hnc13⟩ := nn NB655_648; have hcz14 := cz2 BK655; have hcz15 := cz2 BK647))
 go_loopg [5, 16] k (fun kq v5 v16 w' => ∃ (x5_1 : Int) (x16_1 : Int) (x656001_1 : List Int) (u656001 : Value), v5 = .int .i64 x5_1 ∧ v16 = .int .i64 x16_1 ∧ Aside0 (spec_l12Next.l0 kq x5_1 l0_1 (l0_1.length : Int) x16_1 l0_0 l0_1 y652 x656001_1 = some (r1, r2, r3)) ∧ Aside0 (kq ≤ k) ∧ Aside0 (Kd.R (Kd.int .i64) 3 w' w.heap.size (fun k_ => some k_ ≠ (u656001 : Value).ownBlock) (.slice Ao10 y652.length co10) y652) ∧ Aside0 (Kd.R (Kd.int .i64) 3 w' w.heap.size (fun k_ => some k_ ≠ ((.slice Ao10 y652.length co10) : Value).ownBlock) u656001 x656001_1) ∧ Aside0 (w'.heap[gb647]? = some (.cells #[(.slice A0_0 l0_0.length c0_0), (.slice A0_1 l0_1.length c0_1)] 40 (0, 0))) ∧ Aside0 (w'.heap[gb648]? = some (.cells #[(.slice none 0 0), (.slice none 0 0)] 40 (0, 0))) ∧ Aside0 (w'.heap[gb655]? = some (.cells #[(.slice Ao10 y652.length co10), u656001] 40 (0, 0))) ∧ Aside0 (Below w.heap.size w w'))
 case atStart => exact ⟨(0), (0), (([] : List Int)), (.slice none 0 0), TF, TF, H', ⟨Nat.le_refl _⟩, ⟨by (with_reducible repeat (first | apply Kd.R_alloc | apply Kd.R_drewN | apply Kd.R_drew)); exact Kd.R_mono (Kd.R_far (p := ⟨gb655, 1, none⟩) (Kd.R_far (p := ⟨gb655, 0, none⟩) (Kd.R_types HO654.out BK655.out (by decide)) (fun _ hk => hk.2) (.slice Ao10 y652.length co10)) (fun _ hk => hk.2) (.slice none 0 0)) (fun _ hk => (by simp [Value.ownBlock]))⟩, ⟨TZ⟩, ⟨TS⟩, ⟨TS⟩, ⟨TS⟩, ⟨TB⟩⟩
 case round =>
  clear H'
  obtain ⟨x5_1, x16_1, x656001_1, u656001, rfl, rfl, HA, HK1, HO_656000, HO_656001, BK647, BK648, BK655, HB⟩ := hrel
  cases gk with
  | zero => exact absurd HA.out (by simp [spec_l12Next.l0])
  | succ k1 =>
   have H := HA.out
   clear HA
   simp only [spec_l12Next.l0] at H
   by_cases c16 : x16_1 < (l0_1.length : Int)
   ·rw [if_pos c16] at H
    have c16b0 : decide (x16_1 < (l0_1.length : Int)) = true := decide_eq_true c16
    clear c16
    obtain ⟨c17, H⟩ := ifn H
    have c17b0 : decide (0 ≤ x16_1) = true := decide_eq_true c17
    clear c17
    obtain ⟨c18, H⟩ := ifn H
    have c18b0 : decide (x16_1 < (l0_1.length : Int)) = true := decide_eq_true c18
    clear c18
    obtain ⟨c19, H⟩ := ifn H
    have c19b0 : decide (x16_1 < (l0_0.length : Int)) = true := decide_eq_true c19
    clear c19
    obtain ⟨c20, H⟩ := ifn H
    have LMc20 := Aside0.mk c20
    clear c20
    obtain ⟨y658, hy658⟩ : ∃ y_ : List Int, y_ = (x656001_1 ++ [wrap64 ((rd l0_1 x16_1) + (rd l0_0 x16_1))]) := ⟨_, rfl⟩
    replace H : (if x16_1 < (y658.length : Int) then (if 0 ≤ x5_1 then (if x5_1 < (y658.length : Int) then (if (rd y658 x16_1) > (rd y658 x5_1) then (spec_l12Next.l0 k1 x16_1 l0_1 (l0_1.length : Int) (wrap64 (x16_1 + 1)) l0_0 l0_1 y652 y658) else (spec_l12Next.l0 k1 x5_1 l0_1 (l0_1.length : Int) (wrap64 (x16_1 + 1)) l0_0 l0_1 y652 y658)) else (none)) else (none)) else (none)) = some (r1, r2, r3) := by first | (rw [hy658]; with_reducible exact H) | (have H2_ := (Option.bind_some _ _).symm.trans H; rw [hy658]; with_reducible exact H2_) | (have H2_ := (Option.bind_some _ _).symm.trans H; with_reducible exact H2_) | with_reducible exact H | (rw [hy658]; exact H) | exact H
    have Ny658 := Aside0.mk hy658
    clear hy658
    obtain ⟨c21, H⟩ := ifn H
    have c21b0 : decide (x16_1 < (y658.length : Int)) = true := decide_eq_true c21
    clear c21
    obtain ⟨c22, H⟩ := ifn H
    have c22b0 : decide (0 ≤ x5_1) = true := decide_eq_true c22
    clear c22
    obtain ⟨c23, H⟩ := ifn H
    have c23b0 : decide (x5_1 < (y658.length : Int)) = true := decide_eq_true c23
    clear c23
    by_cases c24 : (rd y658 x16_1) > (rd y658 x5_1)
    ·rw [if_pos c24] at H
     have c24b0 : decide ((rd y658 x5_1) < (rd y658 x16_1)) = true := decide_eq_true c24
     clear c24
     have H' := Aside0.mk H
     clear H
     have p656 : 0 ≤ (x16_1 : Int) := TD
     have q656 : x16_1 < (l0_1.length : Int) := TD
     obtain ⟨ad656, e656, hx656_0⟩ := Kd.at_int (Kd.C_below HR0_1.out HB.out) x16_1 p656 q656
     cases e656
     replace p656 := eq_true p656
     replace q656 := eq_true q656
     try go_wp2
     replace HO_656000 := Aside0.mk (Kd.R_drew HO_656000.out)
     replace HO_656001 := Aside0.mk (Kd.R_drew HO_656001.out)
     replace BK647 := Aside0.mk (blk_drew BK647.out)
     replace BK648 := Aside0.mk (blk_drew BK648.out)
     replace BK655 := Aside0.mk (blk_drew BK655.out)
     replace HB := Aside0.mk (below_drew1 HB.out)
     have p657 : 0 ≤ (x16_1 : Int) := TD
     have q657 : x16_1 < (l0_0.length : Int) := TD
     obtain ⟨ad657, e657, hx657_0⟩ := Kd.at_int HR0_0.out x16_1 p657 q657
     have hw657_0 := hx657_0
     cases e657
     replace hx657_0 := hBc HB hx657_0
     replace p657 := eq_true p657
     replace q657 := eq_true q657
     refine start_ (n := 13) (S := fun w' => w'.cell? ⟨gb655, 0, none⟩ = some (.slice Ao10 y652.length co10) ∧ w'.cell? ⟨gb655, 1, none⟩ = some (u656001) ∧ w'.cell? ⟨gb647, 0, none⟩ = some (.slice (some ad657) l0_0.length c0_0) ∧ w'.cell? ⟨gb647, 1, none⟩ = some (.slice (some ad656) l0_1.length c0_1) ∧ w'.cell? (ad657.add (x16_1).toNat) = some (.int .i64 (rd l0_0 x16_1))) (ds := [12]) #[false, false, false, false, false, false, false, false, false, false, false, false, false] KR rfl rfl ⟨bc 0 BK655, bc 1 BK655, bc 0 BK647, bc 1 BK647, ((HB.out.cell (World.block_lt_of_cell? w _ hw657_0)).trans hw657_0)⟩ (fun hHeld => ?_); refine with_tabW spec_l12Next.tab6 spec_l12Next.bits6 (fun HT_ HW_ => ?_)
     generalize wr.drew = w25 at HO_656000 HO_656001 BK647 BK648 BK655 HB hx657_0 hHeld ⊢
     refine pA 0 21 (mL 13 1) HT_ rfl rfl ?_
     refine pA 2 23 (mL 13 5) HT_ rfl rfl ?_
     refine pA 3 24 (mL 13 13) HT_ rfl rfl ?_
     refine pA 5 26 (mL 13 45) HT_ rfl rfl ?_
     refine tA 1 22 (mL 13 47) HT_ HW_ hHeld rfl rfl (by rintro w' ⟨s0, s1, s2, s3, s4⟩; go_simp; with_reducible rfl) ?_
     refine tA 4 25 (mL 13 63) HT_ HW_ hHeld rfl rfl (by rintro w' ⟨s0, s1, s2, s3, s4⟩; go_simp; with_reducible rfl) ?_
     refine pA 6 27 (mL 13 127) HT_ rfl rfl ?_
     refine tA 7 28 (mL 13 255) HT_ HW_ hHeld rfl rfl (by rintro w' ⟨s0, s1, s2, s3, s4⟩; go_simp; with_reducible rfl) ?_
     refine pA 8 29 (mL 13 511) HT_ rfl rfl ?_
     refine one_ (i := 9) (N := some 30) (mL 13 1023) rfl rfl (one_of HT_.out KR) (by decide) (fun K hK => ?_)
     refine value_ (w1 := ?_) (v := ?_) (by rfl) rfl ?_ ?_
     rotate_left 2
     ·go_simp
      constructor
      ·rfl
      ·rfl
     refine hK.out _ _ ⟨(blk_cell (blk_alloc BK655.out _) 0).trans rfl, (blk_cell (blk_alloc BK655.out _) 1).trans rfl, (blk_cell (blk_alloc BK647.out _) 0).trans rfl, (blk_cell (blk_alloc BK647.out _) 1).trans rfl, (World.cell?_alloc_lt _ _ _ (World.block_lt_of_cell? _ _ (((HB.out.cell (World.block_lt_of_cell? w _ hw657_0)).trans hw657_0)))).trans (((HB.out.cell (World.block_lt_of_cell? w _ hw657_0)).trans hw657_0))⟩ (fun hHeld => ?_)
     clear hK K
     refine nA ?_
     refine one_ (i := 10) (N := some 31) (mL 13 2047) rfl rfl (one_of HT_.out KR) (by decide) (fun K hK => ?_)
     refine Kd.R_append_step (Kd.int .i64) (w0 := w) w.heap.size (by rfl) (.tmp 22) (.tmp 30) 22 3 (.int .i64 0) 8 rfl Try.underlying22 info3 rfl (by decide) (by omega) u656001 x656001_1 (wrap64 ((rd l0_1 x16_1) + (rd l0_0 x16_1))) [.int .i64 (wrap64 ((rd l0_1 x16_1) + (rd l0_0 x16_1)))] (fun k_ => some k_ ≠ (.slice Ao10 y652.length co10 : Value).ownBlock) (fun _ => False) rfl rfl ?aP (fun _ hk => hk.elim) ?aF ?aO ?aB ?aS ?aL ?_
     (case aP => exact rfl)
     (case aB => exact TB)
     (case aF => exact (fun k_ hk => Kd.fresh' (Kd.R_lt (RW HO_656000).out) k_ hk))
     (case aO => exact (RW HO_656001).out)
     (case aS => exact (below_size TB))
     (case aL => have := LMc20.out; omega)
     intro v659 w26 ho hb hg hat
     rw [← Ny658.out] at ho
     have n0_ := Aside0.mk (Kd.R_after (ok := (fun _ => True)) (by (with_reducible repeat (first | apply Kd.R_alloc | apply Kd.R_drewN | apply Kd.R_drew)); exact Kd.R_mono HO_656000.out (fun _ hk => ⟨trivial, hk⟩)) hg hat)
     have n1_ := Aside0.mk (blk_grown (g := gb647) (o := .cells #[.slice (some ad657) l0_0.length c0_0, .slice (some ad656) l0_1.length c0_1] 40 (0, 0)) (KW BK647).out hg (Kd.R_ne HO_656001.out BK647.out (by decide)))
     have n2_ := Aside0.mk (blk_grown (g := gb648) (o := .cells #[.slice none 0 0, .slice none 0 0] 40 (0, 0)) (KW BK648).out hg (Kd.R_ne HO_656001.out BK648.out (by decide)))
     have n3_ := Aside0.mk (blk_grown (g := gb655) (o := .cells #[.slice Ao10 y652.length co10, u656001] 40 (0, 0)) (KW BK655).out hg (Kd.R_ne HO_656001.out BK655.out (by decide)))
     have n4_ := Aside0.mk (hb)
     have n5_ := Aside0.mk (ho)
     clear HO_656000
     clear BK647
     clear BK648
     clear BK655
     clear HB
     clear HO_656001
     have HO_656000 := n0_
     have BK647 := n1_
     have BK648 := n2_
     have BK655 := n3_
     have HB := n4_
     have HO660 := n5_
     clear n0_ n1_ n2_ n3_ n4_ n5_
     clear ho hb hg hat
     obtain ⟨Ao27, co27, eo27⟩ := Kd.R_slice HO660.out
     (first | subst eo27 | (injection eo27 with f1_ f2_ f3_; have f4_ := f1_.symm; have f5_ := f3_.symm; clear f1_ f2_ f3_; subst f4_; subst f5_))
     refine hK.out _ _ ⟨bc 0 BK655, bc 1 BK655, bc 0 BK647, bc 1 BK647, ((HB.out.cell (World.block_lt_of_cell? w _ hw657_0)).trans hw657_0)⟩ (fun hHeld => ?_)
     clear hK K
     refine nA ?_
     refine pA 11 32 (mL 13 4095) HT_ rfl rfl ?_
     refine last_ (i := 12) (N := none) (mL 13 8191) rfl rfl (one_of HT_.out KR) (by decide) (fun K hK => ?_)
     have hs28 := bc 1 BK655
     have hfs28 := blk_frozen BK655.out 1
     have hns28_0 := NB647_655.out
     have hns28_1 := NB648_655.out
     have hms28_0 := NB655_647.out
     have hms28_1 := NB655_648.out
     refine skip_ (w1 := ?_) (by rfl) rfl ?_ ?_
     rotate_left
     ·go_simp
      rfl
     refine hK.out _ _ ?_
     clear hK K
     refine done_ (done_of HT_.out KR) ?_
     try go_wp2
     have n0_ : Aside0 (Kd.R (Kd.int .i64) 3 (w26.setCell ⟨gb655, 1, none⟩ (.slice Ao27 y658.length co27)) w.heap.size (fun k_ => some k_ ≠ (.slice Ao27 y658.length co27 : Value).ownBlock) (.slice Ao10 y652.length co10) y652) := ⟨by (with_reducible repeat (first | apply Kd.R_alloc | apply Kd.R_drewN | apply Kd.R_drew)); exact Kd.R_mono (Kd.R_far (p := ⟨gb655, 1, none⟩) (Kd.R_types HO_656000.out BK655.out (by decide)) (fun _ hk => hk.2) (.slice Ao27 y658.length co27)) (fun _ hk => hk.1.2)⟩
     have n1_ : Aside0 (Kd.R (Kd.int .i64) 3 (w26.setCell ⟨gb655, 1, none⟩ (.slice Ao27 y658.length co27)) w.heap.size (fun k_ => some k_ ≠ (.slice Ao10 y652.length co10 : Value).ownBlock) (.slice Ao27 y658.length co27) y658) := ⟨by (with_reducible repeat (first | apply Kd.R_alloc | apply Kd.R_drewN | apply Kd.R_drew)); exact Kd.R_mono (Kd.R_far (p := ⟨gb655, 1, none⟩) (Kd.R_types HO660.out BK655.out (by decide)) (fun _ hk => hk.2) (.slice Ao27 y658.length co27)) (fun _ hk => hk.1)⟩
     have n2_ : Aside0 ((w26.setCell ⟨gb655, 1, none⟩ (.slice Ao27 y658.length co27)).heap[gb647]? = some (.cells #[.slice (some ad657) l0_0.length c0_0, .slice (some ad656) l0_1.length c0_1] 40 (0, 0))) := ⟨TS⟩
     have n3_ : Aside0 ((w26.setCell ⟨gb655, 1, none⟩ (.slice Ao27 y658.length co27)).heap[gb648]? = some (.cells #[.slice none 0 0, .slice none 0 0] 40 (0, 0))) := ⟨TS⟩
     have n4_ : Aside0 ((w26.setCell ⟨gb655, 1, none⟩ (.slice Ao27 y658.length co27)).heap[gb655]? = some (.cells #[.slice Ao10 y652.length co10, .slice Ao27 y658.length co27] 40 (0, 0))) := ⟨TS⟩
     have n5_ : Aside0 (Below w.heap.size w (w26.setCell ⟨gb655, 1, none⟩ (.slice Ao27 y658.length co27))) := ⟨TB⟩
     (try clear HO_656000)
     (try clear HO660)
     (try clear BK647)
     (try clear BK648)
     (try clear BK655)
     (try clear HB)
     generalize (w26.setCell ⟨gb655, 1, none⟩ (.slice Ao27 y658.length co27)) = w29 at n0_ n1_ n2_ n3_ n4_ n5_ ⊢
     have HO_656000 := n0_
     have HO660 := n1_
     have BK647 := n2_
     have BK648 := n3_
     have BK655 := n4_
     have HB := n5_
     clear n0_ n1_ n2_ n3_ n4_ n5_
     replace HO_656000 := Aside0.mk (Kd.R_drew HO_656000.out)
     replace HO660 := Aside0.mk (Kd.R_drew HO660.out)
     replace BK647 := Aside0.mk (blk_drew BK647.out)
     replace BK648 := Aside0.mk (blk_drew BK648.out)
     replace BK655 := Aside0.mk (blk_drew BK655.out)
     replace HB := Aside0.mk (below_drew1 HB.out)
     have p661 : 0 ≤ (x16_1 : Int) := TD
     have q661 : x16_1 < (y658.length : Int) := TD
     obtain ⟨ad661, e661, hx661_0⟩ := Kd.at_int (Kd.R_reads' HO660.out).2.2 x16_1 p661 q661
     cases e661
     replace p661 := eq_true p661
     replace q661 := eq_true q661
     have p662 : 0 ≤ (x5_1 : Int) := TD
     have q662 : x5_1 < (y658.length : Int) := TD
     obtain ⟨ad662, e662, hx662_0⟩ := Kd.at_int (Kd.R_reads' HO660.out).2.2 x5_1 p662 q662
     obtain rfl : ad661 = ad662 := (by injection e662)
     replace p662 := eq_true p662
     replace q662 := eq_true q662
     refine start_ (n := 11) (S := fun w' => w'.cell? ⟨gb655, 0, none⟩ = some (.slice Ao10 y652.length co10) ∧ w'.cell? ⟨gb655, 1, none⟩ = some (.slice (some ad661) y658.length co27) ∧ w'.cell? (ad661.add (x16_1).toNat) = some (.int .i64 (rd y658 x16_1)) ∧ w'.cell? (ad661.add (x5_1).toNat) = some (.int .i64 (rd y658 x5_1))) (ds := []) #[false, false, false, false, false, false, false, false, false, false, false] KR rfl rfl ⟨bc 0 BK655, bc 1 BK655, hx661_0, hx662_0⟩ (fun hHeld => ?_); refine with_tabW spec_l12Next.tab7 spec_l12Next.bits7 (fun HT_ HW_ => ?_)
     generalize w29.drew = w30 at HO_656000 HO660 BK647 BK648 BK655 HB hx661_0 hx662_0 hHeld ⊢
     refine pA 0 33 (mL 11 1) HT_ rfl rfl ?_
     refine pA 2 35 (mL 11 5) HT_ rfl rfl ?_
     refine pA 5 38 (mL 11 37) HT_ rfl rfl ?_
     refine pA 7 40 (mL 11 165) HT_ rfl rfl ?_
     refine tA 1 34 (mL 11 167) HT_ HW_ hHeld rfl rfl (by rintro w' ⟨s0, s1, s2, s3⟩; go_simp; with_reducible rfl) ?_
     refine pA 3 36 (mL 11 175) HT_ rfl rfl ?_
     refine tA 4 37 (mL 11 191) HT_ HW_ hHeld rfl rfl (by rintro w' ⟨s0, s1, s2, s3⟩; go_simp; with_reducible rfl) ?_
     refine tA 6 39 (mL 11 255) HT_ HW_ hHeld rfl rfl (by rintro w' ⟨s0, s1, s2, s3⟩; go_simp; with_reducible rfl) ?_
     refine pA 8 41 (mL 11 511) HT_ rfl rfl ?_
     refine tA 9 42 (mL 11 1023) HT_ HW_ hHeld rfl rfl (by rintro w' ⟨s0, s1, s2, s3⟩; go_simp; with_reducible rfl) ?_
     refine pA 10 43 (mL 11 2047) HT_ rfl rfl ?_
     refine done_ (done_of HT_.out KR) ?_
     try go_wp2
     go_roundg k1
     case measure => have := HK1.out; omega
     case rel => exact ⟨(x16_1), (wrap64 (x16_1 + 1)), (y658), (.slice (some ad661) y658.length co27), TF, TF, H', ⟨TM⟩, RW HO_656000, RW HO660, KW BK647, KW BK648, KW BK655, ⟨TB⟩⟩
    ·rw [if_neg c24] at H
     have c24b0 : decide ((rd y658 x5_1) < (rd y658 x16_1)) = false := decide_eq_false c24
     clear c24
     have H' := Aside0.mk H
     clear H
     have p656 : 0 ≤ (x16_1 : Int) := TD
     have q656 : x16_1 < (l0_1.length : Int) := TD
     obtain ⟨ad656, e656, hx656_0⟩ := Kd.at_int (Kd.C_below HR0_1.out HB.out) x16_1 p656 q656
     cases e656
     replace p656 := eq_true p656
     replace q656 := eq_true q656
     try go_wp2
     replace HO_656000 := Aside0.mk (Kd.R_drew HO_656000.out)
     replace HO_656001 := Aside0.mk (Kd.R_drew HO_656001.out)
     replace BK647 := Aside0.mk (blk_drew BK647.out)
     replace BK648 := Aside0.mk (blk_drew BK648.out)
     replace BK655 := Aside0.mk (blk_drew BK655.out)
     replace HB := Aside0.mk (below_drew1 HB.out)
     have p657 : 0 ≤ (x16_1 : Int) := TD
     have q657 : x16_1 < (l0_0.length : Int) := TD
     obtain ⟨ad657, e657, hx657_0⟩ := Kd.at_int HR0_0.out x16_1 p657 q657
     have hw657_0 := hx657_0
     cases e657
     replace hx657_0 := hBc HB hx657_0
     replace p657 := eq_true p657
     replace q657 := eq_true q657
     refine start_ (n := 13) (S := fun w' => w'.cell? ⟨gb655, 0, none⟩ = some (.slice Ao10 y652.length co10) ∧ w'.cell? ⟨gb655, 1, none⟩ = some (u656001) ∧ w'.cell? ⟨gb647, 0, none⟩ = some (.slice (some ad657) l0_0.length c0_0) ∧ w'.cell? ⟨gb647, 1, none⟩ = some (.slice (some ad656) l0_1.length c0_1) ∧ w'.cell? (ad657.add (x16_1).toNat) = some (.int .i64 (rd l0_0 x16_1))) (ds := [12]) #[false, false, false, false, false, false, false, false, false, false, false, false, false] KR rfl rfl ⟨bc 0 BK655, bc 1 BK655, bc 0 BK647, bc 1 BK647, ((HB.out.cell (World.block_lt_of_cell? w _ hw657_0)).trans hw657_0)⟩ (fun hHeld => ?_); refine with_tabW spec_l12Next.tab6 spec_l12Next.bits6 (fun HT_ HW_ => ?_)
     generalize wr.drew = w31 at HO_656000 HO_656001 BK647 BK648 BK655 HB hx657_0 hHeld ⊢
     refine pA 0 21 (mL 13 1) HT_ rfl rfl ?_
     refine pA 2 23 (mL 13 5) HT_ rfl rfl ?_
     refine pA 3 24 (mL 13 13) HT_ rfl rfl ?_
     refine pA 5 26 (mL 13 45) HT_ rfl rfl ?_
     refine tA 1 22 (mL 13 47) HT_ HW_ hHeld rfl rfl (by rintro w' ⟨s0, s1, s2, s3, s4⟩; go_simp; with_reducible rfl) ?_
     refine tA 4 25 (mL 13 63) HT_ HW_ hHeld rfl rfl (by rintro w' ⟨s0, s1, s2, s3, s4⟩; go_simp; with_reducible rfl) ?_
     refine pA 6 27 (mL 13 127) HT_ rfl rfl ?_
     refine tA 7 28 (mL 13 255) HT_ HW_ hHeld rfl rfl (by rintro w' ⟨s0, s1, s2, s3, s4⟩; go_simp; with_reducible rfl) ?_
     refine pA 8 29 (mL 13 511) HT_ rfl rfl ?_
     refine one_ (i := 9) (N := some 30) (mL 13 1023) rfl rfl (one_of HT_.out KR) (by decide) (fun K hK => ?_)
     refine value_ (w1 := ?_) (v := ?_) (by rfl) rfl ?_ ?_
     rotate_left 2
     ·go_simp
      constructor
      ·rfl
      ·rfl
     refine hK.out _ _ ⟨(blk_cell (blk_alloc BK655.out _) 0).trans rfl, (blk_cell (blk_alloc BK655.out _) 1).trans rfl, (blk_cell (blk_alloc BK647.out _) 0).trans rfl, (blk_cell (blk_alloc BK647.out _) 1).trans rfl, (World.cell?_alloc_lt _ _ _ (World.block_lt_of_cell? _ _ (((HB.out.cell (World.block_lt_of_cell? w _ hw657_0)).trans hw657_0)))).trans (((HB.out.cell (World.block_lt_of_cell? w _ hw657_0)).trans hw657_0))⟩ (fun hHeld => ?_)
     clear hK K
     refine nA ?_
     refine one_ (i := 10) (N := some 31) (mL 13 2047) rfl rfl (one_of HT_.out KR) (by decide) (fun K hK => ?_)
     refine Kd.R_append_step (Kd.int .i64) (w0 := w) w.heap.size (by rfl) (.tmp 22) (.tmp 30) 22 3 (.int .i64 0) 8 rfl Try.underlying22 info3 rfl (by decide) (by omega) u656001 x656001_1 (wrap64 ((rd l0_1 x16_1) + (rd l0_0 x16_1))) [.int .i64 (wrap64 ((rd l0_1 x16_1) + (rd l0_0 x16_1)))] (fun k_ => some k_ ≠ (.slice Ao10 y652.length co10 : Value).ownBlock) (fun _ => False) rfl rfl ?aP (fun _ hk => hk.elim) ?aF ?aO ?aB ?aS ?aL ?_
     (case aP => exact rfl)
     (case aB => exact TB)
     (case aF => exact (fun k_ hk => Kd.fresh' (Kd.R_lt (RW HO_656000).out) k_ hk))
     (case aO => exact (RW HO_656001).out)
     (case aS => exact (below_size TB))
     (case aL => have := LMc20.out; omega)
     intro v659 w32 ho hb hg hat
     rw [← Ny658.out] at ho
     have n0_ := Aside0.mk (Kd.R_after (ok := (fun _ => True)) (by (with_reducible repeat (first | apply Kd.R_alloc | apply Kd.R_drewN | apply Kd.R_drew)); exact Kd.R_mono HO_656000.out (fun _ hk => ⟨trivial, hk⟩)) hg hat)
     have n1_ := Aside0.mk (blk_grown (g := gb647) (o := .cells #[.slice (some ad657) l0_0.length c0_0, .slice (some ad656) l0_1.length c0_1] 40 (0, 0)) (KW BK647).out hg (Kd.R_ne HO_656001.out BK647.out (by decide)))
     have n2_ := Aside0.mk (blk_grown (g := gb648) (o := .cells #[.slice none 0 0, .slice none 0 0] 40 (0, 0)) (KW BK648).out hg (Kd.R_ne HO_656001.out BK648.out (by decide)))
     have n3_ := Aside0.mk (blk_grown (g := gb655) (o := .cells #[.slice Ao10 y652.length co10, u656001] 40 (0, 0)) (KW BK655).out hg (Kd.R_ne HO_656001.out BK655.out (by decide)))
     have n4_ := Aside0.mk (hb)
     have n5_ := Aside0.mk (ho)
     clear HO_656000
     clear BK647
     clear BK648
     clear BK655
     clear HB
     clear HO_656001
     have HO_656000 := n0_
     have BK647 := n1_
     have BK648 := n2_
     have BK655 := n3_
     have HB := n4_
     have HO660 := n5_
     clear n0_ n1_ n2_ n3_ n4_ n5_
     clear ho hb hg hat
     obtain ⟨Ao33, co33, eo33⟩ := Kd.R_slice HO660.out
     (first | subst eo33 | (injection eo33 with f1_ f2_ f3_; have f4_ := f1_.symm; have f5_ := f3_.symm; clear f1_ f2_ f3_; subst f4_; subst f5_))
     refine hK.out _ _ ⟨bc 0 BK655, bc 1 BK655, bc 0 BK647, bc 1 BK647, ((HB.out.cell (World.block_lt_of_cell? w _ hw657_0)).trans hw657_0)⟩ (fun hHeld => ?_)
     clear hK K
     refine nA ?_
     refine pA 11 32 (mL 13 4095) HT_ rfl rfl ?_
     refine last_ (i := 12) (N := none) (mL 13 8191) rfl rfl (one_of HT_.out KR) (by decide) (fun K hK => ?_)
     have hs34 := bc 1 BK655
     have hfs34 := blk_frozen BK655.out 1
     have hns34_0 := NB647_655.out
     have hns34_1 := NB648_655.out
     have hms34_0 := NB655_647.out
     have hms34_1 := NB655_648.out
     refine skip_ (w1 := ?_) (by rfl) rfl ?_ ?_
     rotate_left
     ·go_simp
      rfl
     refine hK.out _ _ ?_
     clear hK K
     refine done_ (done_of HT_.out KR) ?_
     try go_wp2
     have n0_ : Aside0 (Kd.R (Kd.int .i64) 3 (w32.setCell ⟨gb655, 1, none⟩ (.slice Ao33 y658.length co33)) w.heap.size (fun k_ => some k_ ≠ (.slice Ao33 y658.length co33 : Value).ownBlock) (.slice Ao10 y652.length co10) y652) := ⟨by (with_reducible repeat (first | apply Kd.R_alloc | apply Kd.R_drewN | apply Kd.R_drew)); exact Kd.R_mono (Kd.R_far (p := ⟨gb655, 1, none⟩) (Kd.R_types HO_656000.out BK655.out (by decide)) (fun _ hk => hk.2) (.slice Ao33 y658.length co33)) (fun _ hk => hk.1.2)⟩
     have n1_ : Aside0 (Kd.R (Kd.int .i64) 3 (w32.setCell ⟨gb655, 1, none⟩ (.slice Ao33 y658.length co33)) w.heap.size (fun k_ => some k_ ≠ (.slice Ao10 y652.length co10 : Value).ownBlock) (.slice Ao33 y658.length co33) y658) := ⟨by (with_reducible repeat (first | apply Kd.R_alloc | apply Kd.R_drewN | apply Kd.R_drew)); exact Kd.R_mono (Kd.R_far (p := ⟨gb655, 1, none⟩) (Kd.R_types HO660.out BK655.out (by decide)) (fun _ hk => hk.2) (.slice Ao33 y658.length co33)) (fun _ hk => hk.1)⟩
     have n2_ : Aside0 ((w32.setCell ⟨gb655, 1, none⟩ (.slice Ao33 y658.length co33)).heap[gb647]? = some (.cells #[.slice (some ad657) l0_0.length c0_0, .slice (some ad656) l0_1.length c0_1] 40 (0, 0))) := ⟨TS⟩
     have n3_ : Aside0 ((w32.setCell ⟨gb655, 1, none⟩ (.slice Ao33 y658.length co33)).heap[gb648]? = some (.cells #[.slice none 0 0, .slice none 0 0] 40 (0, 0))) := ⟨TS⟩
     have n4_ : Aside0 ((w32.setCell ⟨gb655, 1, none⟩ (.slice Ao33 y658.length co33)).heap[gb655]? = some (.cells #[.slice Ao10 y652.length co10, .slice Ao33 y658.length co33] 40 (0, 0))) := ⟨TS⟩
     have n5_ : Aside0 (Below w.heap.size w (w32.setCell ⟨gb655, 1, none⟩ (.slice Ao33 y658.length co33))) := ⟨TB⟩
     (try clear HO_656000)
     (try clear HO660)
     (try clear BK647)
     (try clear BK648)
     (try clear BK655)
     (try clear HB)
     generalize (w32.setCell ⟨gb655, 1, none⟩ (.slice Ao33 y658.length co33)) = w35 at n0_ n1_ n2_ n3_ n4_ n5_ ⊢
     have HO_656000 := n0_
     have HO660 := n1_
     have BK647 := n2_
     have BK648 := n3_
     have BK655 := n4_
     have HB := n5_
     clear n0_ n1_ n2_ n3_ n4_ n5_
     replace HO_656000 := Aside0.mk (Kd.R_drew HO_656000.out)
     replace HO660 := Aside0.mk (Kd.R_drew HO660.out)
     replace BK647 := Aside0.mk (blk_drew BK647.out)
     replace BK648 := Aside0.mk (blk_drew BK648.out)
     replace BK655 := Aside0.mk (blk_drew BK655.out)
     replace HB := Aside0.mk (below_drew1 HB.out)
     have p661 : 0 ≤ (x16_1 : Int) := TD
     have q661 : x16_1 < (y658.length : Int) := TD
     obtain ⟨ad661, e661, hx661_0⟩ := Kd.at_int (Kd.R_reads' HO660.out).2.2 x16_1 p661 q661
     cases e661
     replace p661 := eq_true p661
     replace q661 := eq_true q661
     have p662 : 0 ≤ (x5_1 : Int) := TD
     have q662 : x5_1 < (y658.length : Int) := TD
     obtain ⟨ad662, e662, hx662_0⟩ := Kd.at_int (Kd.R_reads' HO660.out).2.2 x5_1 p662 q662
     obtain rfl : ad661 = ad662 := (by injection e662)
     replace p662 := eq_true p662
     replace q662 := eq_true q662
     refine start_ (n := 11) (S := fun w' => w'.cell? ⟨gb655, 0, none⟩ = some (.slice Ao10 y652.length co10) ∧ w'.cell? ⟨gb655, 1, none⟩ = some (.slice (some ad661) y658.length co33) ∧ w'.cell? (ad661.add (x16_1).toNat) = some (.int .i64 (rd y658 x16_1)) ∧ w'.cell? (ad661.add (x5_1).toNat) = some (.int .i64 (rd y658 x5_1))) (ds := []) #[false, false, false, false, false, false, false, false, false, false, false] KR rfl rfl ⟨bc 0 BK655, bc 1 BK655, hx661_0, hx662_0⟩ (fun hHeld => ?_); refine with_tabW spec_l12Next.tab7 spec_l12Next.bits7 (fun HT_ HW_ => ?_)
     generalize w35.drew = w36 at HO_656000 HO660 BK647 BK648 BK655 HB hx661_0 hx662_0 hHeld ⊢
     refine pA 0 33 (mL 11 1) HT_ rfl rfl ?_
     refine pA 2 35 (mL 11 5) HT_ rfl rfl ?_
     refine pA 5 38 (mL 11 37) HT_ rfl rfl ?_
     refine pA 7 40 (mL 11 165) HT_ rfl rfl ?_
     refine tA 1 34 (mL 11 167) HT_ HW_ hHeld rfl rfl (by rintro w' ⟨s0, s1, s2, s3⟩; go_simp; with_reducible rfl) ?_
     refine pA 3 36 (mL 11 175) HT_ rfl rfl ?_
     refine tA 4 37 (mL 11 191) HT_ HW_ hHeld rfl rfl (by rintro w' ⟨s0, s1, s2, s3⟩; go_simp; with_reducible rfl) ?_
     refine tA 6 39 (mL 11 255) HT_ HW_ hHeld rfl rfl (by rintro w' ⟨s0, s1, s2, s3⟩; go_simp; with_reducible rfl) ?_
     refine pA 8 41 (mL 11 511) HT_ rfl rfl ?_
     refine tA 9 42 (mL 11 1023) HT_ HW_ hHeld rfl rfl (by rintro w' ⟨s0, s1, s2, s3⟩; go_simp; with_reducible rfl) ?_
     refine pA 10 43 (mL 11 2047) HT_ rfl rfl ?_
     refine done_ (done_of HT_.out KR) ?_
     try go_wp2
     go_roundg k1
     case measure => have := HK1.out; omega
     case rel => exact ⟨(x5_1), (wrap64 (x16_1 + 1)), (y658), (.slice (some ad661) y658.length co33), TF, TF, H', ⟨TM⟩, RW HO_656000, RW HO660, KW BK647, KW BK648, KW BK655, ⟨TB⟩⟩
   ·rw [if_neg c16] at H
    have c16b0 : decide (x16_1 < (l0_1.length : Int)) = false := decide_eq_false c16
    clear c16
    obtain ⟨c37, H⟩ := ifn H
    have c37b0 : decide (0 ≤ x5_1) = true := decide_eq_true c37
    clear c37
    obtain ⟨c38, H⟩ := ifn H
    have c38b0 : decide (x5_1 < (x656001_1.length : Int)) = true := decide_eq_true c38
    clear c38
    obtain ⟨t664, A39, H⟩ := bnd H
    obtain ⟨y665, hy665⟩ : ∃ y_ : List Int, y_ = (x656001_1.set (x5_1 : Int).toNat (wrap64 ((rd x656001_1 x5_1) - t664))) := ⟨_, rfl⟩
    replace H : (some (y652, y665, x5_1)) = some (r1, r2, r3) := by first | (rw [hy665]; with_reducible exact H) | (have H2_ := (Option.bind_some _ _).symm.trans H; rw [hy665]; with_reducible exact H2_) | (have H2_ := (Option.bind_some _ _).symm.trans H; with_reducible exact H2_) | with_reducible exact H | (rw [hy665]; exact H) | exact H
    have Ny665 := Aside0.mk hy665
    clear hy665
    simp only [Option.some.injEq, Prod.mk.injEq] at H
    obtain ⟨rfl, rfl, rfl⟩ := H
    try go_wp2
    replace HO_656000 := Aside0.mk (Kd.R_drew HO_656000.out)
    replace HO_656001 := Aside0.mk (Kd.R_drew HO_656001.out)
    replace BK647 := Aside0.mk (blk_drew BK647.out)
    replace BK648 := Aside0.mk (blk_drew BK648.out)
    replace BK655 := Aside0.mk (blk_drew BK655.out)
    replace HB := Aside0.mk (below_drew1 HB.out)
    obtain ⟨Ao42, co42, eo42⟩ := Kd.R_slice HO_656001.out
    (first | subst eo42 | (injection eo42 with f1_ f2_ f3_; have f4_ := f1_.symm; have f5_ := f3_.symm; clear f1_ f2_ f3_; subst f4_; subst f5_))
    have p663 : 0 ≤ (x5_1 : Int) := TD
    have q663 : x5_1 < (x656001_1.length : Int) := TD
    obtain ⟨ad663, e663, hx663_0⟩ := Kd.at_int (Kd.R_reads' HO_656001.out).2.2 x5_1 p663 q663
    cases e663
    replace p663 := eq_true p663
    replace q663 := eq_true q663
    refine start_ (n := 11) (S := fun w' => w'.cell? ⟨gb655, 0, none⟩ = some (.slice Ao10 y652.length co10) ∧ w'.cell? ⟨gb655, 1, none⟩ = some (.slice (some ad663) x656001_1.length co42) ∧ w'.cell? ⟨gb647, 0, none⟩ = some (.slice A0_0 l0_0.length c0_0) ∧ w'.cell? ⟨gb647, 1, none⟩ = some (.slice A0_1 l0_1.length c0_1) ∧ w'.cell? (ad663.add (x5_1).toNat) = some (.int .i64 (rd x656001_1 x5_1))) (ds := [10]) #[false, false, false, false, false, false, false, false, false, false, false] KR rfl rfl ⟨bc 0 BK655, bc 1 BK655, bc 0 BK647, bc 1 BK647, hx663_0⟩ (fun hHeld => ?_); refine with_tabW spec_l12Next.tab10 spec_l12Next.bits10 (fun HT_ HW_ => ?_)
    generalize wr.drew = w41 at HO_656000 HO_656001 BK647 BK648 BK655 HB hx663_0 hHeld ⊢
    refine pA 0 46 (mL 11 1) HT_ rfl rfl ?_
    refine pA 2 48 (mL 11 5) HT_ rfl rfl ?_
    refine pA 5 51 (mL 11 37) HT_ rfl rfl ?_
    refine tA 1 47 (mL 11 39) HT_ HW_ hHeld rfl rfl (by rintro w' ⟨s0, s1, s2, s3, s4⟩; go_simp; with_reducible rfl) ?_
    refine pA 3 49 (mL 11 47) HT_ rfl rfl ?_
    refine tA 4 50 (mL 11 63) HT_ HW_ hHeld rfl rfl (by rintro w' ⟨s0, s1, s2, s3, s4⟩; go_simp; with_reducible rfl) ?_
    refine tA 6 52 (mL 11 127) HT_ HW_ hHeld rfl rfl (by rintro w' ⟨s0, s1, s2, s3, s4⟩; go_simp; with_reducible rfl) ?_
    refine one_ (i := 7) (N := some 53) (mL 11 255) rfl rfl (one_of HT_.out KR) (by decide) (fun K hK => ?_)
    refine goes_ Try.func74 KR rfl #[.slice A0_0 l0_0.length c0_0] (by rfl) rfl rfl TA ?_
    with_reducible refine (spec_l12Total.calls k1 _ _ l0_0 t664 _ ?side1 ?side2 A39.out).mono ?_
    (case side1 => exact CW ((Kd.C_below HR0_0.out HB.out)))
    (case side2 => exact HC0_0.out)
    rintro e w41q ⟨rfl, ⟨nd, hq_⟩⟩
    replace hq_ := hq_.symm
    replace HO_656000 := Aside0.mk (Kd.R_at hq_ HO_656000.out)
    replace HO_656001 := Aside0.mk (Kd.R_at hq_ HO_656001.out)
    replace BK647 := Aside0.mk (blk_at hq_ BK647.out)
    replace BK648 := Aside0.mk (blk_at hq_ BK648.out)
    replace BK655 := Aside0.mk (blk_at hq_ BK655.out)
    replace HB := Aside0.mk (below_at hq_ HB.out)
    replace hx663_0 := cell_at hq_ hx663_0
    clear hq_
    refine ⟨_, rfl, ?_⟩
    have p40 : 0 ≤ (x5_1 : Int) := TD
    have q40 : (x5_1 : Int) < ((x656001_1.length : Int) : Int) := TD
    obtain ⟨go40, co40, eo40, gb40, gl40, cl40, HG40⟩ := Kd.R_form HO_656001.out (by omega)
    (first | cases eo40 | (injection eo40 with ea_ en_ ec_; (first | subst ea_ | (injection ea_ with ea_; subst ea_)); subst ec_; clear en_))
    have GB40 := Aside0.mk gb40
    have GG40 := Aside0.mk HG40
    clear gb40 gl40 HG40
    (first | simp only [add_plain] at hx663_0 | skip)
    obtain ⟨hx40_0, hf40_0⟩ := Kd.R_celln 0 HO_656001.out (x5_1 : Int) p40 q40
    replace p40 := eq_true p40
    replace q40 := eq_true q40
    have HP43 := Kd.R_putn HO_656001.out (x5_1 : Int) (wrap64 ((rd x656001_1 x5_1) - t664))
    rw [← Ny665.out] at HP43
    have HQ43 := Aside0.mk HP43
    clear HP43
    refine hK.out _ _ ⟨bc 0 BK655, bc 1 BK655, bc 0 BK647, bc 1 BK647, (by first | exact hx663_0 | (simp only [add_plain]; exact hx663_0))⟩ (fun hHeld => ?_)
    clear hK K
    refine nA ?_
    refine pA 8 54 (mL 11 511) HT_ rfl rfl ?_
    refine pA 9 55 (mL 11 1023) HT_ rfl rfl ?_
    refine last_ (i := 10) (N := none) (mL 11 2047) rfl rfl (one_of HT_.out KR) (by decide) (fun K hK => ?_)
    refine skip_ (w1 := ?_) (by rfl) rfl ?_ ?_
    rotate_left
    ·go_simp
     rfl
    refine hK.out _ _ ?_
    clear hK K
    refine done_ (done_of HT_.out KR) ?_
    have n0_ : Aside0 (Kd.R (Kd.int .i64) 3 (w41q.setCell ⟨go40, (x5_1 : Int).toNat, none⟩ (.int .i64 (wrap64 ((rd x656001_1 x5_1) - t664)))) w.heap.size (fun k_ => some k_ ≠ (.slice (some ⟨go40, 0, none⟩) x656001_1.length co42 : Value).ownBlock) (.slice Ao10 y652.length co10) y652) := ⟨by (with_reducible repeat (first | apply Kd.R_alloc | apply Kd.R_drewN | apply Kd.R_drew)); exact Kd.R_mono (Kd.R_far (p := ⟨go40, (x5_1 : Int).toNat, none⟩) (Kd.R_mono HO_656000.out (fun k_ hk => (⟨hk, fun e_ => hk (by rw [e_]; rfl)⟩ : _ ∧ k_ ≠ go40))) (fun _ hk => hk.2) (.int .i64 (wrap64 ((rd x656001_1 x5_1) - t664)))) (fun _ hk => hk.1)⟩
    have n1_ : Aside0 (Kd.R (Kd.int .i64) 3 (w41q.setCell ⟨go40, (x5_1 : Int).toNat, none⟩ (.int .i64 (wrap64 ((rd x656001_1 x5_1) - t664)))) w.heap.size (fun k_ => some k_ ≠ (.slice Ao10 y652.length co10 : Value).ownBlock) (.slice (some ⟨go40, 0, none⟩) x656001_1.length co42) y665) := RW HQ43
    have n2_ : Aside0 ((w41q.setCell ⟨go40, (x5_1 : Int).toNat, none⟩ (.int .i64 (wrap64 ((rd x656001_1 x5_1) - t664)))).heap[gb647]? = some (.cells #[.slice A0_0 l0_0.length c0_0, .slice A0_1 l0_1.length c0_1] 40 (0, 0))) := ⟨by (with_reducible repeat (first | refine blk_drewN ?_ _ | refine blk_drew ?_ | refine blk_alloc ?_ _)); refine blk_far ?_ (by have h_ := Kd.R_ne HO_656001.out BK647.out (by decide); intro e_; exact h_ (by rw [e_]; rfl)) _; (with_reducible repeat (first | refine blk_drewN ?_ _ | refine blk_drew ?_ | refine blk_alloc ?_ _)); exact BK647.out⟩
    have n3_ : Aside0 ((w41q.setCell ⟨go40, (x5_1 : Int).toNat, none⟩ (.int .i64 (wrap64 ((rd x656001_1 x5_1) - t664)))).heap[gb648]? = some (.cells #[.slice none 0 0, .slice none 0 0] 40 (0, 0))) := ⟨by (with_reducible repeat (first | refine blk_drewN ?_ _ | refine blk_drew ?_ | refine blk_alloc ?_ _)); refine blk_far ?_ (by have h_ := Kd.R_ne HO_656001.out BK648.out (by decide); intro e_; exact h_ (by rw [e_]; rfl)) _; (with_reducible repeat (first | refine blk_drewN ?_ _ | refine blk_drew ?_ | refine blk_alloc ?_ _)); exact BK648.out⟩
    have n4_ : Aside0 ((w41q.setCell ⟨go40, (x5_1 : Int).toNat, none⟩ (.int .i64 (wrap64 ((rd x656001_1 x5_1) - t664)))).heap[gb655]? = some (.cells #[.slice Ao10 y652.length co10, .slice (some ⟨go40, 0, none⟩) x656001_1.length co42] 40 (0, 0))) := ⟨by (with_reducible repeat (first | refine blk_drewN ?_ _ | refine blk_drew ?_ | refine blk_alloc ?_ _)); refine blk_far ?_ (by have h_ := Kd.R_ne HO_656001.out BK655.out (by decide); intro e_; exact h_ (by rw [e_]; rfl)) _; (with_reducible repeat (first | refine blk_drewN ?_ _ | refine blk_drew ?_ | refine blk_alloc ?_ _)); exact BK655.out⟩
    have n5_ : Aside0 (Below w.heap.size w (w41q.setCell ⟨go40, (x5_1 : Int).toNat, none⟩ (.int .i64 (wrap64 ((rd x656001_1 x5_1) - t664))))) := ⟨TB⟩
    (try clear HO_656000)
    (try clear HO_656001)
    (try clear BK647)
    (try clear BK648)
    (try clear BK655)
    (try clear HB)
    generalize (w41q.setCell ⟨go40, (x5_1 : Int).toNat, none⟩ (.int .i64 (wrap64 ((rd x656001_1 x5_1) - t664)))) = w44 at n0_ n1_ n2_ n3_ n4_ n5_ ⊢
    have HO_656000 := n0_
    have HO_656001 := n1_
    have BK647 := n2_
    have BK648 := n3_
    have BK655 := n4_
    have HB := n5_
    clear n0_ n1_ n2_ n3_ n4_ n5_
    have hnb45 := NB655_647.out
    have hnc45 := NB647_655.out
    have hnb46 := NB655_648.out
    have hnc46 := NB648_655.out
    have hcz47 := cz2 BK655
    have hnb48 := NB648_647.out
    have hnc48 := NB647_648.out
    have hcz49 := cz2 BK648
    try go_wp2
    refine bodyPost_ret (results_ct rfl _ _ gb648 40 #[.slice Ao10 y652.length co10, .slice (some ⟨go40, 0, none⟩) x656001_1.length co42] (0, 0) _ rfl (by (with_reducible repeat (first | refine blk_drewN ?_ _ | refine blk_drew ?_ | refine blk_alloc ?_ _)); refine blk_put (cs := #[.slice Ao10 y652.length co10, .slice none 0 0]) ?_ 1 _ rfl; (with_reducible repeat (first | refine blk_drewN ?_ _ | refine blk_drew ?_ | refine blk_alloc ?_ _)); refine blk_put (cs := #[.slice none 0 0, .slice none 0 0]) ?_ 0 _ rfl; (with_reducible repeat (first | refine blk_drewN ?_ _ | refine blk_drew ?_ | refine blk_alloc ?_ _)); exact BK648.out) Try.underlying40 rfl KR) rfl ?_
    exact ⟨_, _, TE, by (with_reducible repeat (first | apply Kd.R_alloc | apply Kd.R_drewN | apply Kd.R_drew)); exact Kd.R_mono (Kd.R_far (p := ⟨gb648, 1, none⟩) (Kd.R_far (p := ⟨gb648, 0, none⟩) (Kd.R_types HO_656000.out BK648.out (by decide)) (fun _ hk => hk.2) (.slice Ao10 y652.length co10)) (fun _ hk => hk.2) (.slice (some ⟨go40, 0, none⟩) x656001_1.length co42)) (fun _ hk => hk.1), by (with_reducible repeat (first | apply Kd.R_alloc | apply Kd.R_drewN | apply Kd.R_drew)); exact Kd.R_mono (Kd.R_far (p := ⟨gb648, 1, none⟩) (Kd.R_far (p := ⟨gb648, 0, none⟩) (Kd.R_types HO_656001.out BK648.out (by decide)) (fun _ hk => hk.2) (.slice Ao10 y652.length co10)) (fun _ hk => hk.2) (.slice (some ⟨go40, 0, none⟩) x656001_1.length co42)) (fun _ hk => hk.1), TB⟩
end
section
/-! ### spec_NextTurn: function 45 -/
def spec_NextTurn.f (k : Nat) (l0_0 : List Int) (l0_1 : List Int) : Option (List Int × List Int × Int × Bool) := (spec_GoodTurn.f k l0_0 l0_1).bind fun t668 => (if t668 = true then ((spec_l12Next.f k l0_0 l0_1).bind fun bt669 => ((spec_GoodTurn.f k bt669.1 bt669.2.1).bind fun t677 => (if t677 = true then (some (bt669.1, bt669.2.1, bt669.2.2, true)) else (some (([] : List Int), ([] : List Int), 0, false))))) else (some (([] : List Int), ([] : List Int), 0, false)))
theorem spec_NextTurn.calls (k : Nat) (A0_0 : Option Addr) (c0_0 : Nat) (l0_0 : List Int) (A0_1 : Option Addr) (c0_1 : Nat) (l0_1 : List Int) (r1 : List Int) (r2 : List Int) (r3 : Int) (r4 : Bool) (w : World) (hr0_0 : Kd.C (Kd.int .i64) w A0_0 l0_0.length l0_0) (hc0_0 : l0_0.length ≤ c0_0) (hr0_1 : Kd.C (Kd.int .i64) w A0_1 l0_1.length l0_1) (hc0_1 : l0_1.length ≤ c0_1) (h : spec_NextTurn.f k l0_0 l0_1 = some (r1, r2, r3, r4)) :
  Calls Try.prog 45 #[.agg #[.slice A0_0 l0_0.length c0_0, .slice A0_1 l0_1.length c0_1]] w fun e w' => ∃ v0_ v1_ : Value, e = .returned (.tuple #[.agg #[v0_, v1_], .int .i64 r3, .bool r4]) ∧ Kd.R (Kd.int .i64) 3 w' w.heap.size (fun k_ => some k_ ≠ (v1_ : Value).ownBlock) v0_ r1 ∧ Kd.R (Kd.int .i64) 3 w' w.heap.size (fun k_ => some k_ ≠ (v0_ : Value).ownBlock) v1_ r2 ∧ Below w.heap.size w w' := by
 have hu40 := Try.underlying40
 have HR0_0 := Aside0.mk hr0_0
 have HC0_0 := Aside0.mk hc0_0
 clear hr0_0 hc0_0
 have HR0_1 := Aside0.mk hr0_1
 have HC0_1 := Aside0.mk hc0_1
 clear hr0_1 hc0_1
 have HB := Aside0.mk (Below.refl w.heap.size w)
 have H : ((spec_GoodTurn.f k l0_0 l0_1).bind fun t668 => (if t668 = true then ((spec_l12Next.f k l0_0 l0_1).bind fun bt669 => ((spec_GoodTurn.f k bt669.1 bt669.2.1).bind fun t677 => (if t677 = true then (some (bt669.1, bt669.2.1, bt669.2.2, true)) else (some (([] : List Int), ([] : List Int), 0, false))))) else (some (([] : List Int), ([] : List Int), 0, false)))) = some (r1, r2, r3, r4) := h
 clear h
 obtain ⟨t668, A2, H⟩ := bnd H
 by_cases c3 : t668 = true
 ·subst c3
  replace H := ift H
  obtain ⟨⟨t669, t672, t675⟩, A4, H⟩ := bnd H
  try dsimp only at H
  obtain ⟨t677, A5, H⟩ := bnd H
  by_cases c6 : t677 = true
  ·subst c6
   replace H := ift H
   simp only [Option.some.injEq, Prod.mk.injEq] at H
   obtain ⟨rfl, rfl, rfl, rfl⟩ := H
   go_enter Try.func45, Try.ntmps45
   go_wp2_with (first | ((with_reducible refine gate_dst (N := 1) rfl ?_); refine bE 1 #[.slice A0_0 l0_0.length c0_0, .slice A0_1 l0_1.length c0_1] 40 ?_; intro gb666 hg w7 hbox hb; have BK666 := Aside0.mk (hbox); have GE666 := bG hg; replace HB := BS hb; clear hb hbox hg) | ((with_reducible refine gate_dst (N := 2) rfl ?_); refine bE 2 #[.slice none 0 0, .slice none 0 0] 40 ?_; intro gb667 hg w8 hbox hb; have BK667 := Aside0.mk (hbox); have GE667 := bG hg; replace HB := BS hb; have NB666_667 := bN BK666 hg; have NB667_666 := bM BK666 hg; replace BK666 := KB BK666 hb; clear hb hbox hg; obtain ⟨hnb9, hnc9⟩ := nn NB666_667; have hcz10 := cz2 BK666) | ((with_reducible refine gate_callee (f := 27) rfl ?_); refine goesL_ (some 8) rfl rfl Try.func27 KR rfl #[.agg #[.slice A0_0 l0_0.length c0_0, .slice A0_1 l0_1.length c0_1]] rfl TA ?_; (with_reducible refine (spec_GoodTurn.calls k _ _ l0_0 _ _ l0_1 true _ ?side1 ?side2 ?side3 ?side4 A2.out).mono ?_); (case side1 => exact CW ((Kd.C_below HR0_0.out HB.out))); (case side2 => exact HC0_0.out); (case side3 => exact CW ((Kd.C_below HR0_1.out HB.out))); (case side4 => exact HC0_1.out); rintro e w11 ⟨rfl, hb⟩; refine ⟨_, rfl, ?_⟩; replace BK666 := KB BK666 hb; replace BK667 := KB BK667 hb; replace HB := BS hb; clear hb; have hcz12 := cz2 BK666) | ((with_reducible refine gate_callee (f := 73) rfl ?_); refine goesL_ (some 13) rfl rfl Try.func73 KR rfl #[.agg #[.slice A0_0 l0_0.length c0_0, .slice A0_1 l0_1.length c0_1]] rfl TA ?_; (with_reducible refine (spec_l12Next.calls k _ _ l0_0 _ _ l0_1 t669 t672 t675 _ ?side1 ?side2 ?side3 ?side4 A4.out).mono ?_); (case side1 => exact CW ((Kd.C_below HR0_0.out HB.out))); (case side2 => exact HC0_0.out); (case side3 => exact CW ((Kd.C_below HR0_1.out HB.out))); (case side4 => exact HC0_1.out); rintro e w13 ⟨v670, v673, rfl, ho0, ho1, hb⟩; refine ⟨_, rfl, ?_⟩; have HO671 := RL ho0; have HO674 := RL ho1; replace BK666 := KB BK666 hb; replace BK667 := KB BK667 hb; replace HB := BS hb; clear hb; (try clear ho0); (try clear ho1)) | ((with_reducible refine gate_dst (N := 5) rfl ?_); refine bE 5 #[.slice none 0 0, .slice none 0 0] 40 ?_; intro gb676 hg w14 hbox hb; replace HO671 := RB HO671 hb; replace HO674 := RB HO674 hb; have BK676 := Aside0.mk (hbox); have GE676 := bG hg; replace HB := BS hb; have NB666_676 := bN BK666 hg; have NB676_666 := bM BK666 hg; replace BK666 := KB BK666 hb; have NB667_676 := bN BK667 hg; have NB676_667 := bM BK667 hg; replace BK667 := KB BK667 hb; clear hb hbox hg; obtain ⟨Ao15, co15, eo15⟩ := Kd.R_slice HO671.out; subst eo15; obtain ⟨hnb16, hnc16⟩ := nn NB676_666; obtain ⟨hnb17, hnc17⟩ := nn NB676_667; have hcz18 := cz2 BK676; obtain ⟨Ao19, co19, eo19⟩ := Kd.R_slice HO674.out; subst eo19) | ((with_reducible refine gate_callee (f := 27) rfl ?_); refine goesL_ (some 17) rfl rfl Try.func27 KR rfl #[.agg #[.slice Ao15 t669.length co15, .slice Ao19 t672.length co19]] rfl TA ?_; (with_reducible refine (spec_GoodTurn.calls k _ _ t669 _ _ t672 true _ ?side1 ?side2 ?side3 ?side4 A5.out).mono ?_); (case side1 => exact RC (RT HO671 BK676)); (case side2 => exact RI HO671); (case side3 => exact RC (RT HO674 BK676)); (case side4 => exact RI HO674); rintro e w20 ⟨rfl, hb⟩; refine ⟨_, rfl, ?_⟩; replace HO671 := RTB HO671 BK676 hb; replace HO674 := RTB HO674 BK676 hb; replace BK666 := KF BK666 hb; replace BK667 := KF BK667 hb; replace BK676 := KP BK676 #[.slice Ao15 t669.length co15, .slice Ao19 t672.length co19] hb; replace HB := BS hb; clear hb; have hcz21 := cz2 BK676; have hcz22 := cz2 BK667))
   refine bodyPost_ret (results_ctt rfl _ _ gb667 40 #[.slice Ao15 t669.length co15, .slice Ao19 t672.length co19] (0, 0) _ rfl (by (with_reducible repeat (first | refine blk_drewN ?_ _ | refine blk_drew ?_ | refine blk_alloc ?_ _)); refine blk_put (cs := #[.slice Ao15 t669.length co15, .slice none 0 0]) ?_ 1 _ rfl; (with_reducible repeat (first | refine blk_drewN ?_ _ | refine blk_drew ?_ | refine blk_alloc ?_ _)); refine blk_put (cs := #[.slice none 0 0, .slice none 0 0]) ?_ 0 _ rfl; (with_reducible repeat (first | refine blk_drewN ?_ _ | refine blk_drew ?_ | refine blk_alloc ?_ _)); exact BK667.out) Try.underlying40 rfl KR) rfl ?_
   exact ⟨_, _, TE, by (with_reducible repeat (first | apply Kd.R_alloc | apply Kd.R_drewN | apply Kd.R_drew)); exact Kd.R_mono (Kd.R_far (p := ⟨gb667, 1, none⟩) (Kd.R_far (p := ⟨gb667, 0, none⟩) (Kd.R_types HO671.out BK667.out (by decide)) (fun _ hk => hk.2) (.slice Ao15 t669.length co15)) (fun _ hk => hk.2) (.slice Ao19 t672.length co19)) (fun _ hk => hk.1), by (with_reducible repeat (first | apply Kd.R_alloc | apply Kd.R_drewN | apply Kd.R_drew)); exact Kd.R_mono (Kd.R_far (p := ⟨gb667, 1, none⟩) (Kd.R_far (p := ⟨gb667, 0, none⟩) (Kd.R_types HO674.out BK667.out (by decide)) (fun _ hk => hk.2) (.slice Ao15 t669.length co15)) (fun _ hk => hk.2) (.slice Ao19 t672.length co19)) (fun _ hk => hk.1), TB⟩
  ·replace c6 := Bool.eq_false_iff.mpr c6
   subst c6
   replace H := iff' H
   simp only [Option.some.injEq, Prod.mk.injEq] at H
   obtain ⟨rfl, rfl, rfl, rfl⟩ := H
   go_enter Try.func45, Try.ntmps45
   go_wp2_with (first | ((with_reducible refine gate_dst (N := 1) rfl ?_); refine bE 1 #[.slice A0_0 l0_0.length c0_0, .slice A0_1 l0_1.length c0_1] 40 ?_; intro gb666 hg w23 hbox hb; have BK666 := Aside0.mk (hbox); have GE666 := bG hg; replace HB := BS hb; clear hb hbox hg) | ((with_reducible refine gate_dst (N := 2) rfl ?_); refine bE 2 #[.slice none 0 0, .slice none 0 0] 40 ?_; intro gb667 hg w24 hbox hb; have BK667 := Aside0.mk (hbox); have GE667 := bG hg; replace HB := BS hb; have NB666_667 := bN BK666 hg; have NB667_666 := bM BK666 hg; replace BK666 := KB BK666 hb; clear hb hbox hg; obtain ⟨hnb25, hnc25⟩ := nn NB666_667; have hcz26 := cz2 BK666) | ((with_reducible refine gate_callee (f := 27) rfl ?_); refine goesL_ (some 8) rfl rfl Try.func27 KR rfl #[.agg #[.slice A0_0 l0_0.length c0_0, .slice A0_1 l0_1.length c0_1]] rfl TA ?_; (with_reducible refine (spec_GoodTurn.calls k _ _ l0_0 _ _ l0_1 true _ ?side1 ?side2 ?side3 ?side4 A2.out).mono ?_); (case side1 => exact CW ((Kd.C_below HR0_0.out HB.out))); (case side2 => exact HC0_0.out); (case side3 => exact CW ((Kd.C_below HR0_1.out HB.out))); (case side4 => exact HC0_1.out); rintro e w27 ⟨rfl, hb⟩; refine ⟨_, rfl, ?_⟩; replace BK666 := KB BK666 hb; replace BK667 := KB BK667 hb; replace HB := BS hb; clear hb; have hcz28 := cz2 BK666) | ((with_reducible refine gate_callee (f := 73) rfl ?_); refine goesL_ (some 13) rfl rfl Try.func73 KR rfl #[.agg #[.slice A0_0 l0_0.length c0_0, .slice A0_1 l0_1.length c0_1]] rfl TA ?_; (with_reducible refine (spec_l12Next.calls k _ _ l0_0 _ _ l0_1 t669 t672 t675 _ ?side1 ?side2 ?side3 ?side4 A4.out).mono ?_); (case side1 => exact CW ((Kd.C_below HR0_0.out HB.out))); (case side2 => exact HC0_0.out); (case side3 => exact CW ((Kd.C_below HR0_1.out HB.out))); (case side4 => exact HC0_1.out); rintro e w29 ⟨v670, v673, rfl, ho0, ho1, hb⟩; refine ⟨_, rfl, ?_⟩; have HO671 := RL ho0; have HO674 := RL ho1; replace BK666 := KB BK666 hb; replace BK667 := KB BK667 hb; replace HB := BS hb; clear hb; (try clear ho0); (try clear ho1)) | ((with_reducible refine gate_dst (N := 5) rfl ?_); refine bE 5 #[.slice none 0 0, .slice none 0 0] 40 ?_; intro gb676 hg w30 hbox hb; replace HO671 := RB HO671 hb; replace HO674 := RB HO674 hb; have BK676 := Aside0.mk (hbox); have GE676 := bG hg; replace HB := BS hb; have NB666_676 := bN BK666 hg; have NB676_666 := bM BK666 hg; replace BK666 := KB BK666 hb; have NB667_676 := bN BK667 hg; have NB676_667 := bM BK667 hg; replace BK667 := KB BK667 hb; clear hb hbox hg; obtain ⟨Ao31, co31, eo31⟩ := Kd.R_slice HO671.out; subst eo31; obtain ⟨hnb32, hnc32⟩ := nn NB676_666; obtain ⟨hnb33, hnc33⟩ := nn NB676_667; have hcz34 := cz2 BK676; obtain ⟨Ao35, co35, eo35⟩ := Kd.R_slice HO674.out; subst eo35) | ((with_reducible refine gate_callee (f := 27) rfl ?_); refine goesL_ (some 17) rfl rfl Try.func27 KR rfl #[.agg #[.slice Ao31 t669.length co31, .slice Ao35 t672.length co35]] rfl TA ?_; (with_reducible refine (spec_GoodTurn.calls k _ _ t669 _ _ t672 false _ ?side1 ?side2 ?side3 ?side4 A5.out).mono ?_); (case side1 => exact RC (RT HO671 BK676)); (case side2 => exact RI HO671); (case side3 => exact RC (RT HO674 BK676)); (case side4 => exact RI HO674); rintro e w36 ⟨rfl, hb⟩; refine ⟨_, rfl, ?_⟩; replace HO671 := RTB HO671 BK676 hb; replace HO674 := RTB HO674 BK676 hb; replace BK666 := KF BK666 hb; replace BK667 := KF BK667 hb; replace BK676 := KP BK676 #[.slice Ao31 t669.length co31, .slice Ao35 t672.length co35] hb; replace HB := BS hb; clear hb; have hcz37 := cz2 BK667))
   refine bodyPost_ret (results_ctt rfl _ _ gb667 40 #[.slice none 0 0, .slice none 0 0] (0, 0) _ rfl (by (with_reducible repeat (first | refine blk_drewN ?_ _ | refine blk_drew ?_ | refine blk_alloc ?_ _)); refine blk_put (cs := #[.slice none 0 0, .slice none 0 0]) ?_ 1 _ rfl; (with_reducible repeat (first | refine blk_drewN ?_ _ | refine blk_drew ?_ | refine blk_alloc ?_ _)); refine blk_put (cs := #[.slice none 0 0, .slice none 0 0]) ?_ 0 _ rfl; (with_reducible repeat (first | refine blk_drewN ?_ _ | refine blk_drew ?_ | refine blk_alloc ?_ _)); exact BK667.out) Try.underlying40 rfl KR) rfl ?_
   exact ⟨_, _, TE, TZ, TZ, TB⟩
 ·replace c3 := Bool.eq_false_iff.mpr c3
  subst c3
  replace H := iff' H
  simp only [Option.some.injEq, Prod.mk.injEq] at H
  obtain ⟨rfl, rfl, rfl, rfl⟩ := H
  go_enter Try.func45, Try.ntmps45
  go_wp2_with (first | ((with_reducible refine gate_dst (N := 1) rfl ?_); refine bE 1 #[.slice A0_0 l0_0.length c0_0, .slice A0_1 l0_1.length c0_1] 40 ?_; intro gb666 hg w38 hbox hb; have BK666 := Aside0.mk (hbox); have GE666 := bG hg; replace HB := BS hb; clear hb hbox hg) | ((with_reducible refine gate_dst (N := 2) rfl ?_); refine bE 2 #[.slice none 0 0, .slice none 0 0] 40 ?_; intro gb667 hg w39 hbox hb; have BK667 := Aside0.mk (hbox); have GE667 := bG hg; replace HB := BS hb; have NB666_667 := bN BK666 hg; have NB667_666 := bM BK666 hg; replace BK666 := KB BK666 hb; clear hb hbox hg; obtain ⟨hnb40, hnc40⟩ := nn NB666_667; have hcz41 := cz2 BK666) | ((with_reducible refine gate_callee (f := 27) rfl ?_); refine goesL_ (some 8) rfl rfl Try.func27 KR rfl #[.agg #[.slice A0_0 l0_0.length c0_0, .slice A0_1 l0_1.length c0_1]] rfl TA ?_; (with_reducible refine (spec_GoodTurn.calls k _ _ l0_0 _ _ l0_1 false _ ?side1 ?side2 ?side3 ?side4 A2.out).mono ?_); (case side1 => exact CW ((Kd.C_below HR0_0.out HB.out))); (case side2 => exact HC0_0.out); (case side3 => exact CW ((Kd.C_below HR0_1.out HB.out))); (case side4 => exact HC0_1.out); rintro e w42 ⟨rfl, hb⟩; refine ⟨_, rfl, ?_⟩; replace BK666 := KB BK666 hb; replace BK667 := KB BK667 hb; replace HB := BS hb; clear hb; have hcz43 := cz2 BK667))
  refine bodyPost_ret (results_ctt rfl _ _ gb667 40 #[.slice none 0 0, .slice none 0 0] (0, 0) _ rfl (by (with_reducible repeat (first | refine blk_drewN ?_ _ | refine blk_drew ?_ | refine blk_alloc ?_ _)); refine blk_put (cs := #[.slice none 0 0, .slice none 0 0]) ?_ 1 _ rfl; (with_reducible repeat (first | refine blk_drewN ?_ _ | refine blk_drew ?_ | refine blk_alloc ?_ _)); refine blk_put (cs := #[.slice none 0 0, .slice none 0 0]) ?_ 0 _ rfl; (with_reducible repeat (first | refine blk_drewN ?_ _ | refine blk_drew ?_ | refine blk_alloc ?_ _)); exact BK667.out) Try.underlying40 rfl KR) rfl ?_
  exact ⟨_, _, TE, TZ, TZ, TB⟩
end
end Go.Proofs.Ytioeomjjfajldaa.Pp
