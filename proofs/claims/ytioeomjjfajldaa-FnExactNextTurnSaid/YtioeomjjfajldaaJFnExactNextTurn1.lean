/- The functions that the law reaches, one Lean function and its proof for each; written by wip/pp of this workplace, joined by claimit.py. -/
import Derived.Test.YtioeomjjfajldaaProg
import Derived.Below
import Derived.Deep.Draws
import Derived.Deep.AppendLies
import Derived.Maps.AppendAt
import Derived.OwnWalk
import Derived.Laws.BytesArg
import Derived.Laws.MakeOwn
import Derived.Laws.OwnMore
import Derived.Deep.OwnRows
import Derived.Tactics
import Derived.Lib.ConvBytes
import Derived.Laws.Slices
import Derived.WalkKit
import Derived.KernelRfl
import Derived.RowKit3
import Derived.Deep.LoopGhost
import Derived.Deep.QuietTactic
import Derived.BigQuiet
import Derived.WideLaws
import Derived.Deep.DeepCutAuto
import Derived.Deep.CutBlock
import Derived.Deep.RegionHeld3
import Derived.Laws.Rows
import Derived.Lib.AppendStr
import Derived.ArgAppend
import Derived.Laws.IdiomCopy
import Derived.OrdersHeld
import Derived.Laws.BitsLemmas
import Derived.RowKit
import Derived.Test.YtioeomjjfajldaaXWords
import Derived.Test.YtioeomjjfajldaaXSq
import Derived.Test.YtioeomjjfajldaaWWords
import Derived.Test.YtioeomjjfajldaaWLast
import Derived.Test.YtioeomjjfajldaaWTab
import Derived.Test.YtioeomjjfajldaaWFour
import Derived.Test.YtioeomjjfajldaaWQPut
import Derived.Test.YtioeomjjfajldaaWApart
import Derived.Test.YtioeomjjfajldaaWArr
import Derived.Test.YtioeomjjfajldaaWZeros
import Derived.Test.YtioeomjjfajldaaWFoot
import Derived.Test.YtioeomjjfajldaaWKept
import Derived.Test.YtioeomjjfajldaaWShare
import Derived.Test.YtioeomjjfajldaaWN
import Derived.Test.YtioeomjjfajldaaWFootNe
import Derived.Test.YtioeomjjfajldaaWAt
import Derived.Test.YtioeomjjfajldaaWEqStruct
import Derived.Test.YtioeomjjfajldaaWRepsOne
import Derived.Test.YtioeomjjfajldaaWInv
import Derived.Test.YtioeomjjfajldaaWInvWords
import Derived.Test.YtioeomjjfajldaaWGuard
import Derived.Test.YtioeomjjfajldaaWNEv
import Derived.Test.YtioeomjjfajldaaWMore
import Derived.Test.YtioeomjjfajldaaJFnExactNextTurn0
namespace Go.Proofs.Ytioeomjjfajldaa.Pp
open Go.RowKit Go.Proofs.YtioeomjjfajldaaW.PrintWords Go.Proofs.YtioeomjjfajldaaW.PrintLast Go.Proofs.YtioeomjjfajldaaW.PrintMore
attribute [local go_sem] max2_int min2_int max_two min_two max_three min_three max_four min_four   -- for this text's walks alone
set_option linter.unusedVariables false
set_option linter.unusedSimpArgs false
set_option maxHeartbeats 8000000
set_option maxRecDepth 100000

section
/-! ### laws_FnExactNextTurn: function 11 -/
mutual
def laws_FnExactNextTurn.j0 : Nat → Int → Bool → Int → Bool → Bool → List Int → List Int → List Int → List Int → List Int → List Int → List Int → List Int → Option (Bool)
 | 0, _, _, _, _, _, _, _, _, _, _, _, _, _ => none
 | k + 1, x5, x6, x9, x10, x50, x698000, x698001, x714000, x714001, x721000, x721001, x730000, x730001 => if x50 = true then (some false) else ((laws_toTurn.f k x698000 x698001).bind fun bt731 => ((laws_eqTurn.f k x721000 x721001 bt731.1 bt731.2).bind fun t737 => (if t737 = true then ((laws_markTurn.f k x721000 x721001 1).bind fun bt738 => (if bt738.1 < 0 then (laws_FnExactNextTurn.j1 k x5 x6 true x698000 x698001 x714000 x714001 x730000 x730001) else ((laws_eqTurn.f k x730000 x730001 x714000 x714001).bind fun t741 => (if t741 = true then (if x9 = x5 then (laws_FnExactNextTurn.j1 k x5 x6 (x10 != x6) x698000 x698001 x714000 x714001 x730000 x730001) else (laws_FnExactNextTurn.j1 k x5 x6 true x698000 x698001 x714000 x714001 x730000 x730001)) else (laws_FnExactNextTurn.j1 k x5 x6 true x698000 x698001 x714000 x714001 x730000 x730001))))) else (some false))))
def laws_FnExactNextTurn.j1 : Nat → Int → Bool → Bool → List Int → List Int → List Int → List Int → List Int → List Int → Option (Bool)
 | 0, _, _, _, _, _, _, _, _, _ => none
 | k + 1, x5, x6, x76, x698000, x698001, x714000, x714001, x730000, x730001 => if x76 = true then (some false) else ((laws_markTurn.f k x730000 x730001 1).bind fun bt742 => ((laws_heldTurn.f k bt742.2.1 bt742.2.2 1).bind fun t745 => (if t745 < 0 then (some false) else (if t745 = bt742.1 then ((laws_toTurn.f k x698000 x698001).bind fun bt746 => ((impl_NextTurn.f k bt746.1 bt746.2).bind fun bt752 => ((laws_eqTurn.f k bt752.1 bt752.2.1 x714000 x714001).bind fun t761 => (if t761 = true then (if bt752.2.2.1 = x5 then (laws_FnExactNextTurn.j2 k bt742.1 (bt752.2.2.2 != x6) bt742.2.1 bt742.2.2) else (laws_FnExactNextTurn.j2 k bt742.1 true bt742.2.1 bt742.2.2)) else (laws_FnExactNextTurn.j2 k bt742.1 true bt742.2.1 bt742.2.2))))) else (some false)))))
def laws_FnExactNextTurn.j2 : Nat → Int → Bool → List Int → List Int → Option (Bool)
 | 0, _, _, _, _ => none
 | k + 1, x12, x108, x730000, x730001 => if x108 = true then (some false) else ((laws_heldTurn.f k x730000 x730001 1).bind fun t762 => (if t762 < 0 then (some false) else (if t762 = x12 then (some true) else (some false))))
end
def laws_FnExactNextTurn.f (k : Nat) (l0_0 : List Int) (l0_1 : List Int) : Option (Bool) := (laws_szTurn.f l0_0 l0_1 1048576).bind fun t698 => (if t698 < 0 then (some true) else ((laws_toTurn.f k l0_0 l0_1).bind fun bt699 => ((spec_NextTurn.f k bt699.1 bt699.2).bind fun bt705 => ((laws_toTurn.f k l0_0 l0_1).bind fun bt714 => ((impl_NextTurn.f k bt714.1 bt714.2).bind fun bt721 => ((laws_eqTurn.f k bt721.1 bt721.2.1 bt705.1 bt705.2.1).bind fun t730 => (if t730 = true then (if bt721.2.2.1 = bt705.2.2.1 then (laws_FnExactNextTurn.j0 k bt705.2.2.1 bt705.2.2.2 bt721.2.2.1 bt721.2.2.2 (bt721.2.2.2 != bt705.2.2.2) l0_0 l0_1 bt705.1 bt705.2.1 bt714.1 bt714.2 bt721.1 bt721.2.1) else (laws_FnExactNextTurn.j0 k bt705.2.2.1 bt705.2.2.2 bt721.2.2.1 bt721.2.2.2 true l0_0 l0_1 bt705.1 bt705.2.1 bt714.1 bt714.2 bt721.1 bt721.2.1)) else (laws_FnExactNextTurn.j0 k bt705.2.2.1 bt705.2.2.2 bt721.2.2.1 bt721.2.2.2 true l0_0 l0_1 bt705.1 bt705.2.1 bt714.1 bt714.2 bt721.1 bt721.2.1))))))))
theorem laws_FnExactNextTurn.calls (k : Nat) (A0_0 : Option Addr) (c0_0 : Nat) (l0_0 : List Int) (A0_1 : Option Addr) (c0_1 : Nat) (l0_1 : List Int) (r : Bool) (w : World) (hr0_0 : Kd.C (Kd.int .i64) w A0_0 l0_0.length l0_0) (hc0_0 : l0_0.length ≤ c0_0) (hr0_1 : Kd.C (Kd.int .i64) w A0_1 l0_1.length l0_1) (hc0_1 : l0_1.length ≤ c0_1) (h : laws_FnExactNextTurn.f k l0_0 l0_1 = some r) :
  Calls Try.prog 11 #[.agg #[.slice A0_0 l0_0.length c0_0, .slice A0_1 l0_1.length c0_1]] w fun e w' => e = .returned (.bool r) ∧ Below w.heap.size w w' := by
 have hu37 := Try.underlying37
 have hu40 := Try.underlying40
 have HR0_0 := Aside0.mk hr0_0
 have HC0_0 := Aside0.mk hc0_0
 clear hr0_0 hc0_0
 have HR0_1 := Aside0.mk hr0_1
 have HC0_1 := Aside0.mk hc0_1
 clear hr0_1 hc0_1
 have HB := Aside0.mk (Below.refl w.heap.size w)
 have H : ((laws_szTurn.f l0_0 l0_1 1048576).bind fun t698 => (if t698 < 0 then (some true) else ((laws_toTurn.f k l0_0 l0_1).bind fun bt699 => ((spec_NextTurn.f k bt699.1 bt699.2).bind fun bt705 => ((laws_toTurn.f k l0_0 l0_1).bind fun bt714 => ((impl_NextTurn.f k bt714.1 bt714.2).bind fun bt721 => ((laws_eqTurn.f k bt721.1 bt721.2.1 bt705.1 bt705.2.1).bind fun t730 => (if t730 = true then (if bt721.2.2.1 = bt705.2.2.1 then (laws_FnExactNextTurn.j0 k bt705.2.2.1 bt705.2.2.2 bt721.2.2.1 bt721.2.2.2 (bt721.2.2.2 != bt705.2.2.2) l0_0 l0_1 bt705.1 bt705.2.1 bt714.1 bt714.2 bt721.1 bt721.2.1) else (laws_FnExactNextTurn.j0 k bt705.2.2.1 bt705.2.2.2 bt721.2.2.1 bt721.2.2.2 true l0_0 l0_1 bt705.1 bt705.2.1 bt714.1 bt714.2 bt721.1 bt721.2.1)) else (laws_FnExactNextTurn.j0 k bt705.2.2.1 bt705.2.2.2 bt721.2.2.1 bt721.2.2.2 true l0_0 l0_1 bt705.1 bt705.2.1 bt714.1 bt714.2 bt721.1 bt721.2.1))))))))) = some r := h
 clear h
 obtain ⟨t698, A2, H⟩ := bnd H
 by_cases c3 : t698 < 0
 ·rw [if_pos c3] at H
  have c3b0 : decide (t698 < 0) = true := decide_eq_true c3
  clear c3
  obtain rfl := Option.some.inj H
  go_enter Try.func11, Try.ntmps11
  go_wp2_with (first | ((with_reducible refine gate_dst (N := 1) rfl ?_); refine bE 1 #[.slice A0_0 l0_0.length c0_0, .slice A0_1 l0_1.length c0_1] 37 ?_; intro gb697 hg w4 hbox hb; have BK697 := Aside0.mk (hbox); have GE697 := bG hg; replace HB := BS hb; clear hb hbox hg; have hcz5 := cz2 BK697) | ((with_reducible refine gate_callee (f := 26) rfl ?_); refine goesL_ (some 19) rfl rfl Try.func26 KR rfl #[.agg #[.slice A0_0 l0_0.length c0_0, .slice A0_1 l0_1.length c0_1], .int .i64 1048576] rfl TA ?_; (with_reducible refine (laws_szTurn.calls _ _ l0_0 _ _ l0_1 1048576 t698 _ ?side1 ?side2 ?side3 ?side4 A2.out).mono ?_); (case side1 => exact CW ((Kd.C_below HR0_0.out HB.out))); (case side2 => exact HC0_0.out); (case side3 => exact CW ((Kd.C_below HR0_1.out HB.out))); (case side4 => exact HC0_1.out); rintro e w6 ⟨rfl, hb⟩; refine ⟨_, rfl, ?_⟩; replace BK697 := KB BK697 hb; replace HB := BS hb; clear hb))
  go_ret
  exact ⟨TE, TB⟩
 ·rw [if_neg c3] at H
  have c3b0 : decide (t698 < 0) = false := decide_eq_false c3
  clear c3
  obtain ⟨⟨t699, t702⟩, A7, H⟩ := bnd H
  try dsimp only at H
  obtain ⟨⟨t705, t708, t711, t712⟩, A8, H⟩ := bnd H
  try dsimp only at H
  obtain ⟨⟨t714, t717⟩, A9, H⟩ := bnd H
  try dsimp only at H
  obtain ⟨⟨t721, t724, t727, t728⟩, A10, H⟩ := bnd H
  try dsimp only at H
  have HC11 := Aside0.mk H
  clear H
  go_enter Try.func11, Try.ntmps11
  go_upto_region 8 with (first | ((with_reducible refine gate_dst (N := 1) rfl ?_); refine bE 1 #[.slice A0_0 l0_0.length c0_0, .slice A0_1 l0_1.length c0_1] 37 ?_; intro gb697 hg w12 hbox hb; have BK697 := Aside0.mk (hbox); have GE697 := bG hg; replace HB := BS hb; clear hb hbox hg; have hcz13 := cz2 BK697) | ((with_reducible refine gate_callee (f := 26) rfl ?_); refine goesL_ (some 19) rfl rfl Try.func26 KR rfl #[.agg #[.slice A0_0 l0_0.length c0_0, .slice A0_1 l0_1.length c0_1], .int .i64 1048576] rfl TA ?_; (with_reducible refine (laws_szTurn.calls _ _ l0_0 _ _ l0_1 1048576 t698 _ ?side1 ?side2 ?side3 ?side4 A2.out).mono ?_); (case side1 => exact CW ((Kd.C_below HR0_0.out HB.out))); (case side2 => exact HC0_0.out); (case side3 => exact CW ((Kd.C_below HR0_1.out HB.out))); (case side4 => exact HC0_1.out); rintro e w14 ⟨rfl, hb⟩; refine ⟨_, rfl, ?_⟩; replace BK697 := KB BK697 hb; replace HB := BS hb; clear hb; have hcz15 := cz2 BK697) | ((with_reducible refine gate_callee (f := 28) rfl ?_); refine goesL_ (some 24) rfl rfl Try.func28 KR rfl #[.agg #[.slice A0_0 l0_0.length c0_0, .slice A0_1 l0_1.length c0_1]] rfl TA ?_; (with_reducible refine (laws_toTurn.calls k _ _ l0_0 _ _ l0_1 t699 t702 _ ?side1 ?side2 ?side3 ?side4 A7.out).mono ?_); (case side1 => exact CW ((Kd.C_below HR0_0.out HB.out))); (case side2 => exact HC0_0.out); (case side3 => exact CW ((Kd.C_below HR0_1.out HB.out))); (case side4 => exact HC0_1.out); rintro e w16 ⟨v700, v703, rfl, ho0, ho1, hb⟩; refine ⟨_, rfl, ?_⟩; have HO701 := RL ho0; have HO704 := RL ho1; replace BK697 := KB BK697 hb; replace HB := BS hb; clear hb; (try clear ho0); (try clear ho1); obtain ⟨Ao17, co17, eo17⟩ := Kd.R_slice HO701.out; subst eo17; obtain ⟨Ao18, co18, eo18⟩ := Kd.R_slice HO704.out; subst eo18) | ((with_reducible refine gate_callee (f := 45) rfl ?_); refine goesL_ (some 25) rfl rfl Try.func45 KR rfl #[.agg #[.slice Ao17 t699.length co17, .slice Ao18 t702.length co18]] rfl TA ?_; (with_reducible refine (spec_NextTurn.calls k _ _ t699 _ _ t702 t705 t708 t711 t712 _ ?side1 ?side2 ?side3 ?side4 A8.out).mono ?_); (case side1 => exact CW ((Kd.R_reads' HO701.out).2.2)); (case side2 => exact RI HO701); (case side3 => exact CW ((Kd.R_reads' HO704.out).2.2)); (case side4 => exact RI HO704); rintro e w19 ⟨v706, v709, rfl, ho0, ho1, hb⟩; refine ⟨_, rfl, ?_⟩; have HO707 := RL (NW (NW ho0 HO701) HO704); have HO710 := RL (NW (NW ho1 HO701) HO704); replace HO701 := O2 HO701 ho0 ho1 hb; replace HO704 := O2 HO704 ho0 ho1 hb; replace BK697 := KB BK697 hb; replace HB := BS hb; clear hb; (try clear ho0); (try clear ho1)) | ((with_reducible refine gate_dst (N := 4) rfl ?_); refine bE 4 #[.slice none 0 0, .slice none 0 0] 40 ?_; intro gb713 hg w20 hbox hb; replace HO701 := RB HO701 hb; replace HO704 := RB HO704 hb; replace HO707 := RB HO707 hb; replace HO710 := RB HO710 hb; have BK713 := Aside0.mk (hbox); have GE713 := bG hg; replace HB := BS hb; have NB697_713 := bN BK697 hg; have NB713_697 := bM BK697 hg; replace BK697 := KB BK697 hb; clear hb hbox hg; obtain ⟨Ao21, co21, eo21⟩ := Kd.R_slice HO707.out; subst eo21; obtain ⟨hnb22, hnc22⟩ := nn NB713_697; have hcz23 := cz2 BK713; obtain ⟨Ao24, co24, eo24⟩ := Kd.R_slice HO710.out; subst eo24; have hcz25 := cz2 BK697) | ((with_reducible refine gate_callee (f := 28) rfl ?_); refine goesL_ (some 30) rfl rfl Try.func28 KR rfl #[.agg #[.slice A0_0 l0_0.length c0_0, .slice A0_1 l0_1.length c0_1]] rfl TA ?_; (with_reducible refine (laws_toTurn.calls k _ _ l0_0 _ _ l0_1 t714 t717 _ ?side1 ?side2 ?side3 ?side4 A9.out).mono ?_); (case side1 => exact Kd.C_below HR0_0.out TB); (case side2 => exact HC0_0.out); (case side3 => exact Kd.C_below HR0_1.out TB); (case side4 => exact HC0_1.out); rintro e w26 ⟨v715, v718, rfl, ho0, ho1, hb⟩; refine ⟨_, rfl, ?_⟩; have HO716 := RL (NT (NT (NT (NT ho0 HO701 BK713) HO704 BK713) HO707 BK713) HO710 BK713); have HO719 := RL (NT (NT (NT (NT ho1 HO701 BK713) HO704 BK713) HO707 BK713) HO710 BK713); replace HO701 := Aside0.mk (Kd.R_mono (Kd.R_told (Kd.R_told (Kd.R_old (RT HO701 BK713).out hb) (Kd.R_base ho0)) (Kd.R_base ho1)) (fun _ h_ => h_.1)); replace HO704 := Aside0.mk (Kd.R_mono (Kd.R_told (Kd.R_told (Kd.R_old (RT HO704 BK713).out hb) (Kd.R_base ho0)) (Kd.R_base ho1)) (fun _ h_ => h_.1)); replace HO707 := Aside0.mk (Kd.R_mono (Kd.R_told (Kd.R_told (Kd.R_old (RT HO707 BK713).out hb) (Kd.R_base ho0)) (Kd.R_base ho1)) (fun _ h_ => h_.1)); replace HO710 := Aside0.mk (Kd.R_mono (Kd.R_told (Kd.R_told (Kd.R_old (RT HO710 BK713).out hb) (Kd.R_base ho0)) (Kd.R_base ho1)) (fun _ h_ => h_.1)); replace BK697 := KF BK697 hb; replace BK713 := KP BK713 #[.slice Ao21 t705.length co21, .slice Ao24 t708.length co24] hb; replace HB := BS hb; clear hb; (try clear ho0); (try clear ho1)) | ((with_reducible refine gate_dst (N := 7) rfl ?_); refine bE 7 #[.slice none 0 0, .slice none 0 0] 40 ?_; intro gb720 hg w27 hbox hb; replace HO701 := RB HO701 hb; replace HO704 := RB HO704 hb; replace HO707 := RB HO707 hb; replace HO710 := RB HO710 hb; replace HO716 := RB HO716 hb; replace HO719 := RB HO719 hb; have BK720 := Aside0.mk (hbox); have GE720 := bG hg; replace HB := BS hb; have NB697_720 := bN BK697 hg; have NB720_697 := bM BK697 hg; replace BK697 := KB BK697 hb; have NB713_720 := bN BK713 hg; have NB720_713 := bM BK713 hg; replace BK713 := KB BK713 hb; clear hb hbox hg; obtain ⟨Ao28, co28, eo28⟩ := Kd.R_slice HO716.out; subst eo28; obtain ⟨hnb29, hnc29⟩ := nn NB720_697; obtain ⟨hnb30, hnc30⟩ := nn NB720_713; have hcz31 := cz2 BK720; obtain ⟨Ao32, co32, eo32⟩ := Kd.R_slice HO719.out; subst eo32) | ((with_reducible refine gate_callee (f := 46) rfl ?_); refine goesL_ (some 33) rfl rfl Try.func46 KR rfl #[.agg #[.slice Ao28 t714.length co28, .slice Ao32 t717.length co32]] rfl TA ?_; (with_reducible refine (impl_NextTurn.calls k _ _ t714 _ _ t717 t721 t724 t727 t728 _ ?side1 ?side2 ?side3 ?side4 A10.out).mono ?_); (case side1 => exact RC (RT HO716 BK720)); (case side2 => exact RI HO716); (case side3 => exact RC (RT HO719 BK720)); (case side4 => exact RI HO719); rintro e w33 ⟨v722, v725, rfl, ho0, ho1, hb⟩; refine ⟨_, rfl, ?_⟩; have HO723 := RL (NT (NT (NT (NT (NT (NT ho0 HO701 BK720) HO704 BK720) HO707 BK720) HO710 BK720) HO716 BK720) HO719 BK720); have HO726 := RL (NT (NT (NT (NT (NT (NT ho1 HO701 BK720) HO704 BK720) HO707 BK720) HO710 BK720) HO716 BK720) HO719 BK720); replace HO701 := Aside0.mk (Kd.R_mono (Kd.R_told (Kd.R_told (Kd.R_old (RT HO701 BK720).out hb) (Kd.R_base ho0)) (Kd.R_base ho1)) (fun _ h_ => h_.1)); replace HO704 := Aside0.mk (Kd.R_mono (Kd.R_told (Kd.R_told (Kd.R_old (RT HO704 BK720).out hb) (Kd.R_base ho0)) (Kd.R_base ho1)) (fun _ h_ => h_.1)); replace HO707 := Aside0.mk (Kd.R_mono (Kd.R_told (Kd.R_told (Kd.R_old (RT HO707 BK720).out hb) (Kd.R_base ho0)) (Kd.R_base ho1)) (fun _ h_ => h_.1)); replace HO710 := Aside0.mk (Kd.R_mono (Kd.R_told (Kd.R_told (Kd.R_old (RT HO710 BK720).out hb) (Kd.R_base ho0)) (Kd.R_base ho1)) (fun _ h_ => h_.1)); replace HO716 := Aside0.mk (Kd.R_mono (Kd.R_told (Kd.R_told (Kd.R_old (RT HO716 BK720).out hb) (Kd.R_base ho0)) (Kd.R_base ho1)) (fun _ h_ => h_.1)); replace HO719 := Aside0.mk (Kd.R_mono (Kd.R_told (Kd.R_told (Kd.R_old (RT HO719 BK720).out hb) (Kd.R_base ho0)) (Kd.R_base ho1)) (fun _ h_ => h_.1)); replace BK697 := KF BK697 hb; replace BK713 := KF BK713 hb; replace BK720 := KP BK720 #[.slice Ao28 t714.length co28, .slice Ao32 t717.length co32] hb; replace HB := BS hb; clear hb; (try clear ho0); (try clear ho1)) | ((with_reducible refine gate_dst (N := 8) rfl ?_); refine bE 8 #[.slice none 0 0, .slice none 0 0] 40 ?_; intro gb729 hg w34 hbox hb; replace HO701 := RB HO701 hb; replace HO704 := RB HO704 hb; replace HO707 := RB HO707 hb; replace HO710 := RB HO710 hb; replace HO716 := RB HO716 hb; replace HO719 := RB HO719 hb; replace HO723 := RB HO723 hb; replace HO726 := RB HO726 hb; have BK729 := Aside0.mk (hbox); have GE729 := bG hg; replace HB := BS hb; have NB697_729 := bN BK697 hg; have NB729_697 := bM BK697 hg; replace BK697 := KB BK697 hb; have NB713_729 := bN BK713 hg; have NB729_713 := bM BK713 hg; replace BK713 := KB BK713 hb; have NB720_729 := bN BK720 hg; have NB729_720 := bM BK720 hg; replace BK720 := KB BK720 hb; clear hb hbox hg; obtain ⟨Ao35, co35, eo35⟩ := Kd.R_slice HO723.out; subst eo35; obtain ⟨hnb36, hnc36⟩ := nn NB729_697; obtain ⟨hnb37, hnc37⟩ := nn NB729_713; obtain ⟨hnb38, hnc38⟩ := nn NB729_720; have hcz39 := cz2 BK729; obtain ⟨Ao40, co40, eo40⟩ := Kd.R_slice HO726.out; subst eo40))
  (try simp only [Act.put, List.setIfInBounds_toArray, List.set_cons_zero, List.set_cons_succ])
  go_cut [50] (fun v50 wc => ∃ (kq : Nat) (x50_10 : Bool), v50 = .bool x50_10 ∧ Aside0 (laws_FnExactNextTurn.j0 kq t711 t712 t727 t728 x50_10 l0_0 l0_1 t705 t708 t714 t717 t721 t724 = some r) ∧ Aside0 (kq ≤ k) ∧ Aside0 (Kd.R (Kd.int .i64) 3 wc w.heap.size (fun k_ => some k_ ≠ ((.slice Ao24 t708.length co24) : Value).ownBlock ∧ some k_ ≠ ((.slice Ao28 t714.length co28) : Value).ownBlock ∧ some k_ ≠ ((.slice Ao32 t717.length co32) : Value).ownBlock ∧ some k_ ≠ ((.slice Ao35 t721.length co35) : Value).ownBlock ∧ some k_ ≠ ((.slice Ao40 t724.length co40) : Value).ownBlock) (.slice Ao21 t705.length co21) t705) ∧ Aside0 (Kd.R (Kd.int .i64) 3 wc w.heap.size (fun k_ => some k_ ≠ ((.slice Ao21 t705.length co21) : Value).ownBlock ∧ some k_ ≠ ((.slice Ao28 t714.length co28) : Value).ownBlock ∧ some k_ ≠ ((.slice Ao32 t717.length co32) : Value).ownBlock ∧ some k_ ≠ ((.slice Ao35 t721.length co35) : Value).ownBlock ∧ some k_ ≠ ((.slice Ao40 t724.length co40) : Value).ownBlock) (.slice Ao24 t708.length co24) t708) ∧ Aside0 (Kd.R (Kd.int .i64) 3 wc w.heap.size (fun k_ => some k_ ≠ ((.slice Ao21 t705.length co21) : Value).ownBlock ∧ some k_ ≠ ((.slice Ao24 t708.length co24) : Value).ownBlock ∧ some k_ ≠ ((.slice Ao32 t717.length co32) : Value).ownBlock ∧ some k_ ≠ ((.slice Ao35 t721.length co35) : Value).ownBlock ∧ some k_ ≠ ((.slice Ao40 t724.length co40) : Value).ownBlock) (.slice Ao28 t714.length co28) t714) ∧ Aside0 (Kd.R (Kd.int .i64) 3 wc w.heap.size (fun k_ => some k_ ≠ ((.slice Ao21 t705.length co21) : Value).ownBlock ∧ some k_ ≠ ((.slice Ao24 t708.length co24) : Value).ownBlock ∧ some k_ ≠ ((.slice Ao28 t714.length co28) : Value).ownBlock ∧ some k_ ≠ ((.slice Ao35 t721.length co35) : Value).ownBlock ∧ some k_ ≠ ((.slice Ao40 t724.length co40) : Value).ownBlock) (.slice Ao32 t717.length co32) t717) ∧ Aside0 (Kd.R (Kd.int .i64) 3 wc w.heap.size (fun k_ => some k_ ≠ ((.slice Ao21 t705.length co21) : Value).ownBlock ∧ some k_ ≠ ((.slice Ao24 t708.length co24) : Value).ownBlock ∧ some k_ ≠ ((.slice Ao28 t714.length co28) : Value).ownBlock ∧ some k_ ≠ ((.slice Ao32 t717.length co32) : Value).ownBlock ∧ some k_ ≠ ((.slice Ao40 t724.length co40) : Value).ownBlock) (.slice Ao35 t721.length co35) t721) ∧ Aside0 (Kd.R (Kd.int .i64) 3 wc w.heap.size (fun k_ => some k_ ≠ ((.slice Ao21 t705.length co21) : Value).ownBlock ∧ some k_ ≠ ((.slice Ao24 t708.length co24) : Value).ownBlock ∧ some k_ ≠ ((.slice Ao28 t714.length co28) : Value).ownBlock ∧ some k_ ≠ ((.slice Ao32 t717.length co32) : Value).ownBlock ∧ some k_ ≠ ((.slice Ao35 t721.length co35) : Value).ownBlock) (.slice Ao40 t724.length co40) t724) ∧ Aside0 (wc.heap[gb697]? = some (.cells #[(.slice A0_0 l0_0.length c0_0), (.slice A0_1 l0_1.length c0_1)] 37 (0, 0))) ∧ Aside0 (wc.heap[gb713]? = some (.cells #[(.slice Ao21 t705.length co21), (.slice Ao24 t708.length co24)] 40 (0, 0))) ∧ Aside0 (wc.heap[gb720]? = some (.cells #[(.slice Ao28 t714.length co28), (.slice Ao32 t717.length co32)] 40 (0, 0))) ∧ Aside0 (wc.heap[gb729]? = some (.cells #[(.slice Ao35 t721.length co35), (.slice Ao40 t724.length co40)] 40 (0, 0))) ∧ Aside0 (Below w.heap.size w wc))
  case first =>
   have H := HC11.out
   clear HC11
   obtain ⟨t730, A41, H⟩ := bnd H
   by_cases c42 : t730 = true
   ·subst c42
    replace H := ift H
    by_cases c43 : t727 = t711
    ·rw [if_pos c43] at H
     have c43b0 : (t727 == t711) = true := beq_iff_eq.mpr c43
     have c43b1 : (t727 != t711) = false := bne_eq_false_iff_eq.mpr c43
     clear c43
     (first | rw [c43b0] | (simp only [i64_w, i32_w]; rw [c43b0]) | rw [c43b1] | skip)
     have H' := Aside0.mk H
     clear H
     have hnb44 := NB729_697.out
     have hnc44 := NB697_729.out
     have hnb45 := NB729_713.out
     have hnc45 := NB713_729.out
     have hnb46 := NB729_720.out
     have hnc46 := NB720_729.out
     have hcz47 := cz2 BK729
     have hnb48 := NB713_697.out
     have hnc48 := NB697_713.out
     have hnb49 := NB713_720.out
     have hnc49 := NB720_713.out
     have hcz50 := cz2 BK713
     go_wp2_with (first | ((with_reducible refine gate_callee (f := 30) rfl ?_); refine goesL_ (some 39) rfl rfl Try.func30 KR rfl #[.agg #[.slice Ao35 t721.length co35, .slice Ao40 t724.length co40], .agg #[.slice Ao21 t705.length co21, .slice Ao24 t708.length co24]] rfl TA ?_; (with_reducible refine (laws_eqTurn.calls k _ _ t721 _ _ t724 _ _ t705 _ _ t708 true _ ?side1 ?side2 ?side3 ?side4 ?side5 ?side6 ?side7 ?side8 A41.out).mono ?_); (case side1 => exact RC (RT HO723 BK729)); (case side2 => exact RI HO723); (case side3 => exact RC (RT HO726 BK729)); (case side4 => exact RI HO726); (case side5 => exact RC (RT HO707 BK729)); (case side6 => exact RI HO707); (case side7 => exact RC (RT HO710 BK729)); (case side8 => exact RI HO710); rintro e w51 ⟨rfl, hb⟩; refine ⟨_, rfl, ?_⟩; replace HO701 := RTB HO701 BK729 hb; replace HO704 := RTB HO704 BK729 hb; replace HO707 := RTB HO707 BK729 hb; replace HO710 := RTB HO710 BK729 hb; replace HO716 := RTB HO716 BK729 hb; replace HO719 := RTB HO719 BK729 hb; replace HO723 := RTB HO723 BK729 hb; replace HO726 := RTB HO726 BK729 hb; replace BK697 := KF BK697 hb; replace BK713 := KF BK713 hb; replace BK720 := KF BK720 hb; replace BK729 := KP BK729 #[.slice Ao35 t721.length co35, .slice Ao40 t724.length co40] hb; replace HB := BS hb; clear hb))
     go_meet
     case rel => exact ⟨_, ((t728 != t712)), TF, H', ⟨by first | omega | exact Nat.le_refl _⟩, MO HO707, MO HO710, MO HO716, MO HO719, MO HO723, MO HO726, KW BK697, KW BK713, KW BK720, KW BK729, ⟨TB⟩⟩
    ·rw [if_neg c43] at H
     have c43b0 : (t727 == t711) = false := beq_eq_false_iff_ne.mpr c43
     have c43b1 : (t727 != t711) = true := bne_iff_ne.mpr c43
     (first | rw [c43b0] | (simp only [i64_w, i32_w]; rw [c43b0]) | rw [c43b1] | skip)
     have H' := Aside0.mk H
     clear H
     have hnb52 := NB729_697.out
     have hnc52 := NB697_729.out
     have hnb53 := NB729_713.out
     have hnc53 := NB713_729.out
     have hnb54 := NB729_720.out
     have hnc54 := NB720_729.out
     have hcz55 := cz2 BK729
     have hnb56 := NB713_697.out
     have hnc56 := NB697_713.out
     have hnb57 := NB713_720.out
     have hnc57 := NB720_713.out
     have hcz58 := cz2 BK713
     go_wp2_with (first | ((with_reducible refine gate_callee (f := 30) rfl ?_); refine goesL_ (some 39) rfl rfl Try.func30 KR rfl #[.agg #[.slice Ao35 t721.length co35, .slice Ao40 t724.length co40], .agg #[.slice Ao21 t705.length co21, .slice Ao24 t708.length co24]] rfl TA ?_; (with_reducible refine (laws_eqTurn.calls k _ _ t721 _ _ t724 _ _ t705 _ _ t708 true _ ?side1 ?side2 ?side3 ?side4 ?side5 ?side6 ?side7 ?side8 A41.out).mono ?_); (case side1 => exact RC (RT HO723 BK729)); (case side2 => exact RI HO723); (case side3 => exact RC (RT HO726 BK729)); (case side4 => exact RI HO726); (case side5 => exact RC (RT HO707 BK729)); (case side6 => exact RI HO707); (case side7 => exact RC (RT HO710 BK729)); (case side8 => exact RI HO710); rintro e w59 ⟨rfl, hb⟩; refine ⟨_, rfl, ?_⟩; replace HO701 := RTB HO701 BK729 hb; replace HO704 := RTB HO704 BK729 hb; replace HO707 := RTB HO707 BK729 hb; replace HO710 := RTB HO710 BK729 hb; replace HO716 := RTB HO716 BK729 hb; replace HO719 := RTB HO719 BK729 hb; replace HO723 := RTB HO723 BK729 hb; replace HO726 := RTB HO726 BK729 hb; replace BK697 := KF BK697 hb; replace BK713 := KF BK713 hb; replace BK720 := KF BK720 hb; replace BK729 := KP BK729 #[.slice Ao35 t721.length co35, .slice Ao40 t724.length co40] hb; replace HB := BS hb; clear hb))
     go_meet
     case rel => exact ⟨_, (true), TF, H', ⟨by first | omega | exact Nat.le_refl _⟩, MO HO707, MO HO710, MO HO716, MO HO719, MO HO723, MO HO726, KW BK697, KW BK713, KW BK720, KW BK729, ⟨TB⟩⟩
   ·replace c42 := Bool.eq_false_iff.mpr c42
    subst c42
    replace H := iff' H
    have H' := Aside0.mk H
    clear H
    have hnb60 := NB729_697.out
    have hnc60 := NB697_729.out
    have hnb61 := NB729_713.out
    have hnc61 := NB713_729.out
    have hnb62 := NB729_720.out
    have hnc62 := NB720_729.out
    have hcz63 := cz2 BK729
    have hnb64 := NB713_697.out
    have hnc64 := NB697_713.out
    have hnb65 := NB713_720.out
    have hnc65 := NB720_713.out
    have hcz66 := cz2 BK713
    go_wp2_with (first | ((with_reducible refine gate_callee (f := 30) rfl ?_); refine goesL_ (some 39) rfl rfl Try.func30 KR rfl #[.agg #[.slice Ao35 t721.length co35, .slice Ao40 t724.length co40], .agg #[.slice Ao21 t705.length co21, .slice Ao24 t708.length co24]] rfl TA ?_; (with_reducible refine (laws_eqTurn.calls k _ _ t721 _ _ t724 _ _ t705 _ _ t708 false _ ?side1 ?side2 ?side3 ?side4 ?side5 ?side6 ?side7 ?side8 A41.out).mono ?_); (case side1 => exact RC (RT HO723 BK729)); (case side2 => exact RI HO723); (case side3 => exact RC (RT HO726 BK729)); (case side4 => exact RI HO726); (case side5 => exact RC (RT HO707 BK729)); (case side6 => exact RI HO707); (case side7 => exact RC (RT HO710 BK729)); (case side8 => exact RI HO710); rintro e w67 ⟨rfl, hb⟩; refine ⟨_, rfl, ?_⟩; replace HO701 := RTB HO701 BK729 hb; replace HO704 := RTB HO704 BK729 hb; replace HO707 := RTB HO707 BK729 hb; replace HO710 := RTB HO710 BK729 hb; replace HO716 := RTB HO716 BK729 hb; replace HO719 := RTB HO719 BK729 hb; replace HO723 := RTB HO723 BK729 hb; replace HO726 := RTB HO726 BK729 hb; replace BK697 := KF BK697 hb; replace BK713 := KF BK713 hb; replace BK720 := KF BK720 hb; replace BK729 := KP BK729 #[.slice Ao35 t721.length co35, .slice Ao40 t724.length co40] hb; replace HB := BS hb; clear hb))
    go_meet
    case rel => exact ⟨_, (true), TF, H', ⟨by first | omega | exact Nat.le_refl _⟩, MO HO707, MO HO710, MO HO716, MO HO719, MO HO723, MO HO726, KW BK697, KW BK713, KW BK720, KW BK729, ⟨TB⟩⟩
  case rest =>
   clear HC11
   obtain ⟨kq, x50_10, rfl, HA, HJ10, HO_714000, HO_714001, HO_721000, HO_721001, HO_730000, HO_730001, BK697, BK713, BK720, BK729, HB⟩ := hcut
   cases kq with
   | zero => exact absurd HA.out (by simp [laws_FnExactNextTurn.j0])
   | succ kj10 =>
    have H := HA.out
    clear HA
    simp only [laws_FnExactNextTurn.j0] at H
    by_cases c68 : x50_10 = true
    ·subst c68
     replace H := ift H
     obtain rfl := Option.some.inj H
     go_wp2
     go_ret
     exact ⟨TE, TB⟩
    ·replace c68 := Bool.eq_false_iff.mpr c68
     subst c68
     replace H := iff' H
     obtain ⟨⟨t731, t734⟩, A69, H⟩ := bnd H
     try dsimp only at H
     obtain ⟨t737, A70, H⟩ := bnd H
     by_cases c71 : t737 = true
     ·subst c71
      replace H := ift H
      obtain ⟨⟨t738, t739, t740⟩, A72, H⟩ := bnd H
      try dsimp only at H
      have HC73 := Aside0.mk H
      clear H
      try go_wp2
      replace HO_714000 := Aside0.mk (Kd.R_drew HO_714000.out)
      replace HO_714001 := Aside0.mk (Kd.R_drew HO_714001.out)
      replace HO_721000 := Aside0.mk (Kd.R_drew HO_721000.out)
      replace HO_721001 := Aside0.mk (Kd.R_drew HO_721001.out)
      replace HO_730000 := Aside0.mk (Kd.R_drew HO_730000.out)
      replace HO_730001 := Aside0.mk (Kd.R_drew HO_730001.out)
      replace BK697 := Aside0.mk (blk_drew BK697.out)
      replace BK713 := Aside0.mk (blk_drew BK713.out)
      replace BK720 := Aside0.mk (blk_drew BK720.out)
      replace BK729 := Aside0.mk (blk_drew BK729.out)
      replace HB := Aside0.mk (below_drew1 HB.out)
      refine start_ (n := 5) (S := fun w' => w'.cell? ⟨gb720, 0, none⟩ = some (.slice Ao28 t714.length co28) ∧ w'.cell? ⟨gb720, 1, none⟩ = some (.slice Ao32 t717.length co32) ∧ w'.cell? ⟨gb697, 0, none⟩ = some (.slice A0_0 l0_0.length c0_0) ∧ w'.cell? ⟨gb697, 1, none⟩ = some (.slice A0_1 l0_1.length c0_1)) (ds := []) #[false, false, false, false, false] KR rfl rfl ⟨bc 0 BK720, bc 1 BK720, bc 0 BK697, bc 1 BK697⟩ (fun hHeld => ?_)
      generalize wc.drew = w74 at HO_714000 HO_714001 HO_721000 HO_721001 HO_730000 HO_730001 BK697 BK713 BK720 BK729 HB hHeld ⊢
      refine take_ (i := 0) (N := some 51) (v := ?_) (a' := ?_) #[true, false, false, false, false] rfl rfl KR (fun _ _ _ h => h) (Or.inl ⟨by rfl, ?_⟩) hHeld ?_ ?_
      rotate_left
      ·rintro w' ⟨s0, s1, s2, s3⟩
       go_simp
       with_reducible rfl
      rotate_left
      ·simp only [Act.put, List.setIfInBounds_toArray, List.set_cons_zero, List.set_cons_succ, i64_w, i32_w]
       rfl
      refine take_ (i := 1) (N := some 52) (v := ?_) (a' := ?_) #[true, true, false, false, false] rfl rfl KR (fun _ _ _ h => h) (Or.inl ⟨by rfl, ?_⟩) hHeld ?_ ?_
      rotate_left
      ·rintro w' ⟨s0, s1, s2, s3⟩
       go_simp
       with_reducible rfl
      rotate_left
      ·simp only [Act.put, List.setIfInBounds_toArray, List.set_cons_zero, List.set_cons_succ, i64_w, i32_w]
       rfl
      refine one_ (i := 2) (N := some 53) (mL 5 7) rfl rfl KR (by decide) (fun K hK => ?_)
      refine goes_ Try.func28 KR rfl #[.agg #[.slice A0_0 l0_0.length c0_0, .slice A0_1 l0_1.length c0_1]] (by rfl) rfl rfl TA ?_
      with_reducible refine (laws_toTurn.calls kj10 _ _ l0_0 _ _ l0_1 t731 t734 _ ?side1 ?side2 ?side3 ?side4 A69.out).mono ?_
      (case side1 => exact CW ((Kd.C_below HR0_0.out HB.out)))
      (case side2 => exact HC0_0.out)
      (case side3 => exact CW ((Kd.C_below HR0_1.out HB.out)))
      (case side4 => exact HC0_1.out)
      rintro e w75 ⟨v732, v735, rfl, ho0, ho1, hb⟩
      refine ⟨_, rfl, ?_⟩
      have HO733 := RL (NW (NW (NW (NW (NW (NW ho0 HO_714000) HO_714001) HO_721000) HO_721001) HO_730000) HO_730001)
      have HO736 := RL (NW (NW (NW (NW (NW (NW ho1 HO_714000) HO_714001) HO_721000) HO_721001) HO_730000) HO_730001)
      replace HO_714000 := O2 HO_714000 ho0 ho1 hb
      replace HO_714001 := O2 HO_714001 ho0 ho1 hb
      replace HO_721000 := O2 HO_721000 ho0 ho1 hb
      replace HO_721001 := O2 HO_721001 ho0 ho1 hb
      replace HO_730000 := O2 HO_730000 ho0 ho1 hb
      replace HO_730001 := O2 HO_730001 ho0 ho1 hb
      replace BK697 := KB BK697 hb
      replace BK713 := KB BK713 hb
      replace BK720 := KB BK720 hb
      replace BK729 := KB BK729 hb
      replace HB := BS hb
      (try clear hb)
      (try clear hb2)
      (try clear hk)
      (try clear hi)
      (try clear ho0)
      (try clear ho1)
      obtain ⟨Ao76, co76, eo76⟩ := Kd.R_slice HO733.out
      (first | subst eo76 | (injection eo76 with f1_ f2_ f3_; have f4_ := f1_.symm; have f5_ := f3_.symm; clear f1_ f2_ f3_; subst f4_; subst f5_))
      obtain ⟨Ao77, co77, eo77⟩ := Kd.R_slice HO736.out
      (first | subst eo77 | (injection eo77 with f1_ f2_ f3_; have f4_ := f1_.symm; have f5_ := f3_.symm; clear f1_ f2_ f3_; subst f4_; subst f5_))
      refine hK.out _ _ ⟨bc 0 BK720, bc 1 BK720, bc 0 BK697, bc 1 BK697⟩ (fun hHeld => ?_)
      clear hK K
      refine nA ?_
      refine one_ (i := 3) (N := some 54) (mL 5 15) rfl rfl KR (by decide) (fun K hK => ?_)
      refine goes_ Try.func30 KR rfl #[.agg #[.slice Ao28 t714.length co28, .slice Ao32 t717.length co32], .agg #[.slice Ao76 t731.length co76, .slice Ao77 t734.length co77]] (by rfl) rfl rfl TA ?_
      with_reducible refine (laws_eqTurn.calls kj10 _ _ t714 _ _ t717 _ _ t731 _ _ t734 true _ ?side1 ?side2 ?side3 ?side4 ?side5 ?side6 ?side7 ?side8 A70.out).mono ?_
      (case side1 => exact CW ((Kd.R_reads' HO_721000.out).2.2))
      (case side2 => exact RI HO_721000)
      (case side3 => exact CW ((Kd.R_reads' HO_721001.out).2.2))
      (case side4 => exact RI HO_721001)
      (case side5 => exact CW ((Kd.R_reads' HO733.out).2.2))
      (case side6 => exact RI HO733)
      (case side7 => exact CW ((Kd.R_reads' HO736.out).2.2))
      (case side8 => exact RI HO736)
      rintro e w78 ⟨rfl, hb⟩
      refine ⟨_, rfl, ?_⟩
      replace HO_714000 := RB HO_714000 hb
      replace HO_714001 := RB HO_714001 hb
      replace HO_721000 := RB HO_721000 hb
      replace HO_721001 := RB HO_721001 hb
      replace HO_730000 := RB HO_730000 hb
      replace HO_730001 := RB HO_730001 hb
      replace HO733 := RB HO733 hb
      replace HO736 := RB HO736 hb
      replace BK697 := KB BK697 hb
      replace BK713 := KB BK713 hb
      replace BK720 := KB BK720 hb
      replace BK729 := KB BK729 hb
      replace HB := BS hb
      (try clear hb)
      (try clear hb2)
      (try clear hk)
      (try clear hi)
      refine hK.out _ _ ⟨bc 0 BK720, bc 1 BK720, bc 0 BK697, bc 1 BK697⟩ (fun hHeld => ?_)
      clear hK K
      refine nA ?_
      refine pure_ (i := 4) (N := some 55) (v := ?_) (a' := ?_) #[true, true, true, true, true] rfl rfl KR (fun _ _ _ h => h) (Or.inl ⟨by rfl, ?_⟩) ?_ ?_
      rotate_left
      ·intro w'
       go_simp
       with_reducible rfl
      rotate_left
      ·simp only [Act.put, List.setIfInBounds_toArray, List.set_cons_zero, List.set_cons_succ, i64_w, i32_w]
       rfl
      refine done_ KR ?_
      have hnb79 := NB720_697.out
      have hnc79 := NB697_720.out
      have hnb80 := NB720_713.out
      have hnc80 := NB713_720.out
      have hnb81 := NB720_729.out
      have hnc81 := NB729_720.out
      have hcz82 := cz2 BK720
      go_upto_region 14 with (first | ((with_reducible refine gate_callee (f := 34) rfl ?_); refine goesL_ (some 58) rfl rfl Try.func34 KR rfl #[.agg #[.slice Ao28 t714.length co28, .slice Ao32 t717.length co32], .int .i64 1] rfl TA ?_; (with_reducible refine (laws_markTurn.calls kj10 (fun k_ => some k_ = (.slice Ao28 t714.length co28 : Value).ownBlock) (.slice Ao28 t714.length co28) t714 (fun k_ => some k_ = (.slice Ao32 t717.length co32 : Value).ownBlock) (.slice Ao32 t717.length co32) t717 1 t738 t739 t740 w _ ?side1 ?side2 ?side3 ?side4 ?side5 A72.out).mono ?_); (case side1 => repeat (first | (with_reducible first | exact HB.out | apply below_alloc | apply pw_below_drewN | apply below_drew1 | refine below_set ?_ GE697.out | refine below_set ?_ GE713.out | refine below_set ?_ GE720.out | refine below_set ?_ GE729.out) | exact HB.out)); (case side2 => exact Kd.R_tight rfl HO_721000.out); (case side3 => exact fun k_ e_ => (HO_721000.out.1 k_ e_.symm).1.1.2.2.1); (case side4 => exact Kd.R_tight rfl HO_721001.out); (case side5 => exact fun k_ e_ => (HO_721001.out.1 k_ e_.symm).1.1.2.2.1); rintro e w83 ⟨rfl, hy0, hy1, hb, hkp⟩; refine ⟨_, rfl, ?_⟩; replace HO_714000 := RK (fun k_ => some k_ ≠ (.slice Ao24 t708.length co24 : Value).ownBlock ∧ some k_ ≠ (.slice Ao28 t714.length co28 : Value).ownBlock ∧ some k_ ≠ (.slice Ao32 t717.length co32 : Value).ownBlock ∧ some k_ ≠ (.slice Ao35 t721.length co35 : Value).ownBlock ∧ some k_ ≠ (.slice Ao40 t724.length co40 : Value).ownBlock ∧ some k_ ≠ (.slice Ao76 t731.length co76 : Value).ownBlock ∧ some k_ ≠ (.slice Ao77 t734.length co77 : Value).ownBlock) HO_714000 hkp; replace HO_714001 := RK (fun k_ => some k_ ≠ (.slice Ao21 t705.length co21 : Value).ownBlock ∧ some k_ ≠ (.slice Ao28 t714.length co28 : Value).ownBlock ∧ some k_ ≠ (.slice Ao32 t717.length co32 : Value).ownBlock ∧ some k_ ≠ (.slice Ao35 t721.length co35 : Value).ownBlock ∧ some k_ ≠ (.slice Ao40 t724.length co40 : Value).ownBlock ∧ some k_ ≠ (.slice Ao76 t731.length co76 : Value).ownBlock ∧ some k_ ≠ (.slice Ao77 t734.length co77 : Value).ownBlock) HO_714001 hkp; replace HO_730000 := RK (fun k_ => some k_ ≠ (.slice Ao21 t705.length co21 : Value).ownBlock ∧ some k_ ≠ (.slice Ao24 t708.length co24 : Value).ownBlock ∧ some k_ ≠ (.slice Ao28 t714.length co28 : Value).ownBlock ∧ some k_ ≠ (.slice Ao32 t717.length co32 : Value).ownBlock ∧ some k_ ≠ (.slice Ao40 t724.length co40 : Value).ownBlock ∧ some k_ ≠ (.slice Ao76 t731.length co76 : Value).ownBlock ∧ some k_ ≠ (.slice Ao77 t734.length co77 : Value).ownBlock) HO_730000 hkp; replace HO_730001 := RK (fun k_ => some k_ ≠ (.slice Ao21 t705.length co21 : Value).ownBlock ∧ some k_ ≠ (.slice Ao24 t708.length co24 : Value).ownBlock ∧ some k_ ≠ (.slice Ao28 t714.length co28 : Value).ownBlock ∧ some k_ ≠ (.slice Ao32 t717.length co32 : Value).ownBlock ∧ some k_ ≠ (.slice Ao35 t721.length co35 : Value).ownBlock ∧ some k_ ≠ (.slice Ao76 t731.length co76 : Value).ownBlock ∧ some k_ ≠ (.slice Ao77 t734.length co77 : Value).ownBlock) HO_730001 hkp; replace BK697 := Aside0.mk (blk_kept (KW BK697).out hkp (fun hs_ => Or.elim hs_ (fun e_ => (fun e_ => (Kd.R_ne HO_721000.out BK697.out (by decide)) e_) e_) (fun e_ => (fun e_ => (Kd.R_ne HO_721001.out BK697.out (by decide)) e_) e_))); replace BK713 := Aside0.mk (blk_kept (KW BK713).out hkp (fun hs_ => Or.elim hs_ (fun e_ => (fun e_ => (Kd.R_ne HO_721000.out BK713.out (by decide)) e_) e_) (fun e_ => (fun e_ => (Kd.R_ne HO_721001.out BK713.out (by decide)) e_) e_))); replace BK720 := Aside0.mk (blk_kept (KW BK720).out hkp (fun hs_ => Or.elim hs_ (fun e_ => (fun e_ => (Kd.R_ne HO_721000.out BK720.out (by decide)) e_) e_) (fun e_ => (fun e_ => (Kd.R_ne HO_721001.out BK720.out (by decide)) e_) e_))); replace BK729 := Aside0.mk (blk_kept (KW BK729).out hkp (fun hs_ => Or.elim hs_ (fun e_ => (fun e_ => (Kd.R_ne HO_721000.out BK729.out (by decide)) e_) e_) (fun e_ => (fun e_ => (Kd.R_ne HO_721001.out BK729.out (by decide)) e_) e_))); replace HO_721000 := Aside0.mk (Kd.R_reok rfl hy0 (fun k_ e_ => HO_721000.out.1 k_ e_)); replace HO_721001 := Aside0.mk (Kd.R_reok rfl hy1 (fun k_ e_ => HO_721001.out.1 k_ e_)); replace HO733 := RK (fun k_ => some k_ ≠ (.slice Ao21 t705.length co21 : Value).ownBlock ∧ some k_ ≠ (.slice Ao24 t708.length co24 : Value).ownBlock ∧ some k_ ≠ (.slice Ao28 t714.length co28 : Value).ownBlock ∧ some k_ ≠ (.slice Ao32 t717.length co32 : Value).ownBlock ∧ some k_ ≠ (.slice Ao35 t721.length co35 : Value).ownBlock ∧ some k_ ≠ (.slice Ao40 t724.length co40 : Value).ownBlock ∧ some k_ ≠ (.slice Ao77 t734.length co77 : Value).ownBlock) HO733 hkp; replace HO736 := RK (fun k_ => some k_ ≠ (.slice Ao21 t705.length co21 : Value).ownBlock ∧ some k_ ≠ (.slice Ao24 t708.length co24 : Value).ownBlock ∧ some k_ ≠ (.slice Ao28 t714.length co28 : Value).ownBlock ∧ some k_ ≠ (.slice Ao32 t717.length co32 : Value).ownBlock ∧ some k_ ≠ (.slice Ao35 t721.length co35 : Value).ownBlock ∧ some k_ ≠ (.slice Ao40 t724.length co40 : Value).ownBlock ∧ some k_ ≠ (.slice Ao76 t731.length co76 : Value).ownBlock) HO736 hkp; replace HB := Aside0.mk (hb); clear hb; (try clear hkp); (try clear hy0); (try clear hy1)))
      (try simp only [Act.put, List.setIfInBounds_toArray, List.set_cons_zero, List.set_cons_succ])
      go_cut [76] (fun v76 wc => ∃ (kq : Nat) (x76_72 : Bool), v76 = .bool x76_72 ∧ Aside0 (laws_FnExactNextTurn.j1 kq t711 t712 x76_72 l0_0 l0_1 t705 t708 t721 t724 = some r) ∧ Aside0 (kq ≤ kj10) ∧ Aside0 (Kd.R (Kd.int .i64) 3 wc w.heap.size (fun k_ => some k_ ≠ ((.slice Ao24 t708.length co24) : Value).ownBlock ∧ some k_ ≠ ((.slice Ao28 t714.length co28) : Value).ownBlock ∧ some k_ ≠ ((.slice Ao32 t717.length co32) : Value).ownBlock ∧ some k_ ≠ ((.slice Ao35 t721.length co35) : Value).ownBlock ∧ some k_ ≠ ((.slice Ao40 t724.length co40) : Value).ownBlock) (.slice Ao21 t705.length co21) t705) ∧ Aside0 (Kd.R (Kd.int .i64) 3 wc w.heap.size (fun k_ => some k_ ≠ ((.slice Ao21 t705.length co21) : Value).ownBlock ∧ some k_ ≠ ((.slice Ao28 t714.length co28) : Value).ownBlock ∧ some k_ ≠ ((.slice Ao32 t717.length co32) : Value).ownBlock ∧ some k_ ≠ ((.slice Ao35 t721.length co35) : Value).ownBlock ∧ some k_ ≠ ((.slice Ao40 t724.length co40) : Value).ownBlock) (.slice Ao24 t708.length co24) t708) ∧ Aside0 (Kd.R (Kd.int .i64) 3 wc w.heap.size (fun k_ => some k_ ≠ ((.slice Ao21 t705.length co21) : Value).ownBlock ∧ some k_ ≠ ((.slice Ao24 t708.length co24) : Value).ownBlock ∧ some k_ ≠ ((.slice Ao32 t717.length co32) : Value).ownBlock ∧ some k_ ≠ ((.slice Ao35 t721.length co35) : Value).ownBlock ∧ some k_ ≠ ((.slice Ao40 t724.length co40) : Value).ownBlock) (.slice Ao28 t714.length co28) t739) ∧ Aside0 (Kd.R (Kd.int .i64) 3 wc w.heap.size (fun k_ => some k_ ≠ ((.slice Ao21 t705.length co21) : Value).ownBlock ∧ some k_ ≠ ((.slice Ao24 t708.length co24) : Value).ownBlock ∧ some k_ ≠ ((.slice Ao28 t714.length co28) : Value).ownBlock ∧ some k_ ≠ ((.slice Ao35 t721.length co35) : Value).ownBlock ∧ some k_ ≠ ((.slice Ao40 t724.length co40) : Value).ownBlock) (.slice Ao32 t717.length co32) t740) ∧ Aside0 (Kd.R (Kd.int .i64) 3 wc w.heap.size (fun k_ => some k_ ≠ ((.slice Ao21 t705.length co21) : Value).ownBlock ∧ some k_ ≠ ((.slice Ao24 t708.length co24) : Value).ownBlock ∧ some k_ ≠ ((.slice Ao28 t714.length co28) : Value).ownBlock ∧ some k_ ≠ ((.slice Ao32 t717.length co32) : Value).ownBlock ∧ some k_ ≠ ((.slice Ao40 t724.length co40) : Value).ownBlock) (.slice Ao35 t721.length co35) t721) ∧ Aside0 (Kd.R (Kd.int .i64) 3 wc w.heap.size (fun k_ => some k_ ≠ ((.slice Ao21 t705.length co21) : Value).ownBlock ∧ some k_ ≠ ((.slice Ao24 t708.length co24) : Value).ownBlock ∧ some k_ ≠ ((.slice Ao28 t714.length co28) : Value).ownBlock ∧ some k_ ≠ ((.slice Ao32 t717.length co32) : Value).ownBlock ∧ some k_ ≠ ((.slice Ao35 t721.length co35) : Value).ownBlock) (.slice Ao40 t724.length co40) t724) ∧ Aside0 (wc.heap[gb697]? = some (.cells #[(.slice A0_0 l0_0.length c0_0), (.slice A0_1 l0_1.length c0_1)] 37 (0, 0))) ∧ Aside0 (wc.heap[gb713]? = some (.cells #[(.slice Ao21 t705.length co21), (.slice Ao24 t708.length co24)] 40 (0, 0))) ∧ Aside0 (wc.heap[gb720]? = some (.cells #[(.slice Ao28 t714.length co28), (.slice Ao32 t717.length co32)] 40 (0, 0))) ∧ Aside0 (wc.heap[gb729]? = some (.cells #[(.slice Ao35 t721.length co35), (.slice Ao40 t724.length co40)] 40 (0, 0))) ∧ Aside0 (Below w.heap.size w wc))
      case first =>
       have H := HC73.out
       clear HC73
       by_cases c84 : t738 < 0
       ·rw [if_pos c84] at H
        have c84b0 : decide (t738 < 0) = true := decide_eq_true c84
        clear c84
        (first | rw [c84b0] | (simp only [i64_w, i32_w]; rw [c84b0]) | skip)
        have H' := Aside0.mk H
        clear H
        go_wp2
        go_meet
        case rel => exact ⟨_, (true), TF, H', ⟨by have := HJ10.out; first | omega | exact Nat.le_refl _⟩, MO HO_714000, MO HO_714001, MO HO_721000, MO HO_721001, MO HO_730000, MO HO_730001, KW BK697, KW BK713, KW BK720, KW BK729, ⟨TB⟩⟩
       ·rw [if_neg c84] at H
        have c84b0 : decide (t738 < 0) = false := decide_eq_false c84
        clear c84
        (first | rw [c84b0] | (simp only [i64_w, i32_w]; rw [c84b0]) | skip)
        obtain ⟨t741, A85, H⟩ := bnd H
        by_cases c86 : t741 = true
        ·subst c86
         replace H := ift H
         by_cases c87 : t727 = t711
         ·rw [if_pos c87] at H
          have c87b0 : (t727 == t711) = true := beq_iff_eq.mpr c87
          have c87b1 : (t727 != t711) = false := bne_eq_false_iff_eq.mpr c87
          clear c87
          have H' := Aside0.mk H
          clear H
          have hnb88 := NB729_697.out
          have hnc88 := NB697_729.out
          have hnb89 := NB729_713.out
          have hnc89 := NB713_729.out
          have hnb90 := NB729_720.out
          have hnc90 := NB720_729.out
          have hcz91 := cz2 BK729
          have hnb92 := NB713_697.out
          have hnc92 := NB697_713.out
          have hnb93 := NB713_720.out
          have hnc93 := NB720_713.out
          have hcz94 := cz2 BK713
          go_wp2_with (first | (go_at_call 30; (with_reducible refine (laws_eqTurn.calls kj10 _ _ t721 _ _ t724 _ _ t705 _ _ t708 true _ ?side1 ?side2 ?side3 ?side4 ?side5 ?side6 ?side7 ?side8 A85.out).mono ?_); (case side1 => exact CW ((Kd.R_reads' HO_730000.out).2.2)); (case side2 => exact RI HO_730000); (case side3 => exact CW ((Kd.R_reads' HO_730001.out).2.2)); (case side4 => exact RI HO_730001); (case side5 => exact CW ((Kd.R_reads' HO_714000.out).2.2)); (case side6 => exact RI HO_714000); (case side7 => exact CW ((Kd.R_reads' HO_714001.out).2.2)); (case side8 => exact RI HO_714001); rintro e w95 ⟨rfl, hb⟩; replace HO_714000 := RB HO_714000 hb; replace HO_714001 := RB HO_714001 hb; replace HO_721000 := RB HO_721000 hb; replace HO_721001 := RB HO_721001 hb; replace HO_730000 := RB HO_730000 hb; replace HO_730001 := RB HO_730001 hb; replace HO733 := RB HO733 hb; replace HO736 := RB HO736 hb; replace BK697 := KB BK697 hb; replace BK713 := KB BK713 hb; replace BK720 := KB BK720 hb; replace BK729 := KB BK729 hb; replace HB := BS hb; clear hb))
          go_meet
          case rel => exact ⟨_, ((t728 != t712)), TF, H', ⟨by have := HJ10.out; first | omega | exact Nat.le_refl _⟩, MO HO_714000, MO HO_714001, MO HO_721000, MO HO_721001, MO HO_730000, MO HO_730001, KW BK697, KW BK713, KW BK720, KW BK729, ⟨TB⟩⟩
         ·rw [if_neg c87] at H
          have c87b0 : (t727 == t711) = false := beq_eq_false_iff_ne.mpr c87
          have c87b1 : (t727 != t711) = true := bne_iff_ne.mpr c87
          have H' := Aside0.mk H
          clear H
          have hnb96 := NB729_697.out
          have hnc96 := NB697_729.out
          have hnb97 := NB729_713.out
          have hnc97 := NB713_729.out
          have hnb98 := NB729_720.out
          have hnc98 := NB720_729.out
          have hcz99 := cz2 BK729
          have hnb100 := NB713_697.out
          have hnc100 := NB697_713.out
          have hnb101 := NB713_720.out
          have hnc101 := NB720_713.out
          have hcz102 := cz2 BK713
          go_wp2_with (first | (go_at_call 30; (with_reducible refine (laws_eqTurn.calls kj10 _ _ t721 _ _ t724 _ _ t705 _ _ t708 true _ ?side1 ?side2 ?side3 ?side4 ?side5 ?side6 ?side7 ?side8 A85.out).mono ?_); (case side1 => exact CW ((Kd.R_reads' HO_730000.out).2.2)); (case side2 => exact RI HO_730000); (case side3 => exact CW ((Kd.R_reads' HO_730001.out).2.2)); (case side4 => exact RI HO_730001); (case side5 => exact CW ((Kd.R_reads' HO_714000.out).2.2)); (case side6 => exact RI HO_714000); (case side7 => exact CW ((Kd.R_reads' HO_714001.out).2.2)); (case side8 => exact RI HO_714001); rintro e w103 ⟨rfl, hb⟩; replace HO_714000 := RB HO_714000 hb; replace HO_714001 := RB HO_714001 hb; replace HO_721000 := RB HO_721000 hb; replace HO_721001 := RB HO_721001 hb; replace HO_730000 := RB HO_730000 hb; replace HO_730001 := RB HO_730001 hb; replace HO733 := RB HO733 hb; replace HO736 := RB HO736 hb; replace BK697 := KB BK697 hb; replace BK713 := KB BK713 hb; replace BK720 := KB BK720 hb; replace BK729 := KB BK729 hb; replace HB := BS hb; clear hb))
          go_meet
          case rel => exact ⟨_, (true), TF, H', ⟨by have := HJ10.out; first | omega | exact Nat.le_refl _⟩, MO HO_714000, MO HO_714001, MO HO_721000, MO HO_721001, MO HO_730000, MO HO_730001, KW BK697, KW BK713, KW BK720, KW BK729, ⟨TB⟩⟩
        ·replace c86 := Bool.eq_false_iff.mpr c86
         subst c86
         replace H := iff' H
         have H' := Aside0.mk H
         clear H
         have hnb104 := NB729_697.out
         have hnc104 := NB697_729.out
         have hnb105 := NB729_713.out
         have hnc105 := NB713_729.out
         have hnb106 := NB729_720.out
         have hnc106 := NB720_729.out
         have hcz107 := cz2 BK729
         have hnb108 := NB713_697.out
         have hnc108 := NB697_713.out
         have hnb109 := NB713_720.out
         have hnc109 := NB720_713.out
         have hcz110 := cz2 BK713
         go_wp2_with (first | (go_at_call 30; (with_reducible refine (laws_eqTurn.calls kj10 _ _ t721 _ _ t724 _ _ t705 _ _ t708 false _ ?side1 ?side2 ?side3 ?side4 ?side5 ?side6 ?side7 ?side8 A85.out).mono ?_); (case side1 => exact CW ((Kd.R_reads' HO_730000.out).2.2)); (case side2 => exact RI HO_730000); (case side3 => exact CW ((Kd.R_reads' HO_730001.out).2.2)); (case side4 => exact RI HO_730001); (case side5 => exact CW ((Kd.R_reads' HO_714000.out).2.2)); (case side6 => exact RI HO_714000); (case side7 => exact CW ((Kd.R_reads' HO_714001.out).2.2)); (case side8 => exact RI HO_714001); rintro e w111 ⟨rfl, hb⟩; replace HO_714000 := RB HO_714000 hb; replace HO_714001 := RB HO_714001 hb; replace HO_721000 := RB HO_721000 hb; replace HO_721001 := RB HO_721001 hb; replace HO_730000 := RB HO_730000 hb; replace HO_730001 := RB HO_730001 hb; replace HO733 := RB HO733 hb; replace HO736 := RB HO736 hb; replace BK697 := KB BK697 hb; replace BK713 := KB BK713 hb; replace BK720 := KB BK720 hb; replace BK729 := KB BK729 hb; replace HB := BS hb; clear hb))
         go_meet
         case rel => exact ⟨_, (true), TF, H', ⟨by have := HJ10.out; first | omega | exact Nat.le_refl _⟩, MO HO_714000, MO HO_714001, MO HO_721000, MO HO_721001, MO HO_730000, MO HO_730001, KW BK697, KW BK713, KW BK720, KW BK729, ⟨TB⟩⟩
      case rest =>
       clear HC73
       obtain ⟨kq, x76_72, rfl, HA, HJ72, HO_714000, HO_714001, HO_721000, HO_721001, HO_730000, HO_730001, BK697, BK713, BK720, BK729, HB⟩ := hcut
       have hl721000_72 := (Kd.R_reads' HO_721000.out).1
       rw [hl721000_72] at HO_721000
       (try simp only [hl721000_72])
       (try simp only [hl721000_72] at BK697)
       (try simp only [hl721000_72] at BK713)
       (try simp only [hl721000_72] at BK720)
       (try simp only [hl721000_72] at BK729)
       (try simp only [hl721000_72] at HO_714000)
       (try simp only [hl721000_72] at HO_714001)
       (try simp only [hl721000_72] at HO_721001)
       (try simp only [hl721000_72] at HO_730000)
       (try simp only [hl721000_72] at HO_730001)
       have hl721001_72 := (Kd.R_reads' HO_721001.out).1
       rw [hl721001_72] at HO_721001
       (try simp only [hl721001_72])
       (try simp only [hl721001_72] at BK697)
       (try simp only [hl721001_72] at BK713)
       (try simp only [hl721001_72] at BK720)
       (try simp only [hl721001_72] at BK729)
       (try simp only [hl721001_72] at HO_714000)
       (try simp only [hl721001_72] at HO_714001)
       (try simp only [hl721001_72] at HO_721000)
       (try simp only [hl721001_72] at HO_730000)
       (try simp only [hl721001_72] at HO_730001)
       cases kq with
       | zero => exact absurd HA.out (by simp [laws_FnExactNextTurn.j1])
       | succ kj72 =>
        have H := HA.out
        clear HA
        simp only [laws_FnExactNextTurn.j1] at H
        by_cases c112 : x76_72 = true
        ·subst c112
         replace H := ift H
         obtain rfl := Option.some.inj H
         go_wp2
         go_ret
         exact ⟨TE, TB⟩
        ·replace c112 := Bool.eq_false_iff.mpr c112
         subst c112
         replace H := iff' H
         obtain ⟨⟨t742, t743, t744⟩, A113, H⟩ := bnd H
         try dsimp only at H
         obtain ⟨t745, A114, H⟩ := bnd H
         by_cases c115 : t745 < 0
         ·rw [if_pos c115] at H
          have c115b0 : decide (t745 < 0) = true := decide_eq_true c115
          clear c115
          obtain rfl := Option.some.inj H
          have hnb116 := NB729_697.out
          have hnc116 := NB697_729.out
          have hnb117 := NB729_713.out
          have hnc117 := NB713_729.out
          have hnb118 := NB729_720.out
          have hnc118 := NB720_729.out
          have hcz119 := cz2 BK729
          go_wp2_with (first | ((with_reducible refine gate_callee (f := 34) rfl ?_); refine goesL_ (some 79) rfl rfl Try.func34 KR rfl #[.agg #[.slice Ao35 t721.length co35, .slice Ao40 t724.length co40], .int .i64 1] rfl TA ?_; (with_reducible refine (laws_markTurn.calls kj72 (fun k_ => some k_ = (.slice Ao35 t721.length co35 : Value).ownBlock) (.slice Ao35 t721.length co35) t721 (fun k_ => some k_ = (.slice Ao40 t724.length co40 : Value).ownBlock) (.slice Ao40 t724.length co40) t724 1 t742 t743 t744 w _ ?side1 ?side2 ?side3 ?side4 ?side5 A113.out).mono ?_); (case side1 => repeat (first | (with_reducible first | exact HB.out | apply below_alloc | apply pw_below_drewN | apply below_drew1 | refine below_set ?_ GE697.out | refine below_set ?_ GE713.out | refine below_set ?_ GE720.out | refine below_set ?_ GE729.out) | exact HB.out)); (case side2 => exact Kd.R_tight rfl HO_730000.out); (case side3 => exact fun k_ e_ => (HO_730000.out.1 k_ e_.symm).2.2.2.2); (case side4 => exact Kd.R_tight rfl HO_730001.out); (case side5 => exact fun k_ e_ => (HO_730001.out.1 k_ e_.symm).2.2.2.2); rintro e w120 ⟨rfl, hy0, hy1, hb, hkp⟩; refine ⟨_, rfl, ?_⟩; replace HO_714000 := RK (fun k_ => some k_ ≠ (.slice Ao24 t708.length co24 : Value).ownBlock ∧ some k_ ≠ (.slice Ao28 t739.length co28 : Value).ownBlock ∧ some k_ ≠ (.slice Ao32 t740.length co32 : Value).ownBlock ∧ some k_ ≠ (.slice Ao35 t721.length co35 : Value).ownBlock ∧ some k_ ≠ (.slice Ao40 t724.length co40 : Value).ownBlock) HO_714000 hkp; replace HO_714001 := RK (fun k_ => some k_ ≠ (.slice Ao21 t705.length co21 : Value).ownBlock ∧ some k_ ≠ (.slice Ao28 t739.length co28 : Value).ownBlock ∧ some k_ ≠ (.slice Ao32 t740.length co32 : Value).ownBlock ∧ some k_ ≠ (.slice Ao35 t721.length co35 : Value).ownBlock ∧ some k_ ≠ (.slice Ao40 t724.length co40 : Value).ownBlock) HO_714001 hkp; replace HO_721000 := RK (fun k_ => some k_ ≠ (.slice Ao21 t705.length co21 : Value).ownBlock ∧ some k_ ≠ (.slice Ao24 t708.length co24 : Value).ownBlock ∧ some k_ ≠ (.slice Ao32 t740.length co32 : Value).ownBlock ∧ some k_ ≠ (.slice Ao35 t721.length co35 : Value).ownBlock ∧ some k_ ≠ (.slice Ao40 t724.length co40 : Value).ownBlock) HO_721000 hkp; replace HO_721001 := RK (fun k_ => some k_ ≠ (.slice Ao21 t705.length co21 : Value).ownBlock ∧ some k_ ≠ (.slice Ao24 t708.length co24 : Value).ownBlock ∧ some k_ ≠ (.slice Ao28 t739.length co28 : Value).ownBlock ∧ some k_ ≠ (.slice Ao35 t721.length co35 : Value).ownBlock ∧ some k_ ≠ (.slice Ao40 t724.length co40 : Value).ownBlock) HO_721001 hkp; replace BK697 := Aside0.mk (blk_kept (KW BK697).out hkp (fun hs_ => Or.elim hs_ (fun e_ => (fun e_ => (Kd.R_ne HO_730000.out BK697.out (by decide)) e_) e_) (fun e_ => (fun e_ => (Kd.R_ne HO_730001.out BK697.out (by decide)) e_) e_))); replace BK713 := Aside0.mk (blk_kept (KW BK713).out hkp (fun hs_ => Or.elim hs_ (fun e_ => (fun e_ => (Kd.R_ne HO_730000.out BK713.out (by decide)) e_) e_) (fun e_ => (fun e_ => (Kd.R_ne HO_730001.out BK713.out (by decide)) e_) e_))); replace BK720 := Aside0.mk (blk_kept (KW BK720).out hkp (fun hs_ => Or.elim hs_ (fun e_ => (fun e_ => (Kd.R_ne HO_730000.out BK720.out (by decide)) e_) e_) (fun e_ => (fun e_ => (Kd.R_ne HO_730001.out BK720.out (by decide)) e_) e_))); replace BK729 := Aside0.mk (blk_kept (KW BK729).out hkp (fun hs_ => Or.elim hs_ (fun e_ => (fun e_ => (Kd.R_ne HO_730000.out BK729.out (by decide)) e_) e_) (fun e_ => (fun e_ => (Kd.R_ne HO_730001.out BK729.out (by decide)) e_) e_))); replace HO_730000 := Aside0.mk (Kd.R_reok rfl hy0 (fun k_ e_ => HO_730000.out.1 k_ e_)); replace HO_730001 := Aside0.mk (Kd.R_reok rfl hy1 (fun k_ e_ => HO_730001.out.1 k_ e_)); replace HB := Aside0.mk (hb); clear hb; (try clear hkp); (try clear hy0); (try clear hy1); have hcz121 := cz2 BK729) | ((with_reducible refine gate_callee (f := 35) rfl ?_); refine goesL_ (some 82) rfl rfl Try.func35 KR rfl #[.agg #[.slice Ao35 t743.length co35, .slice Ao40 t744.length co40], .int .i64 1] rfl (by (try simp only [List.map_toArray, List.map_cons, List.map_nil]); first | done | (rw [show t743.length = t721.length from (Kd.R_reads' HO_730000.out).1.symm, show t744.length = t724.length from (Kd.R_reads' HO_730001.out).1.symm] <;> rfl) | rfl | (simp only [List.length_drop, List.length_take]; rfl)) ?_; (with_reducible refine (laws_heldTurn.calls kj72 _ _ t743 _ _ t744 1 t745 _ ?side1 ?side2 ?side3 ?side4 A114.out).mono ?_); (case side1 => exact CW ((Kd.R_reads' HO_730000.out).2.2)); (case side2 => rw [show t743.length = t721.length from (Kd.R_reads' HO_730000.out).1.symm]; exact RI HO_730000); (case side3 => exact CW ((Kd.R_reads' HO_730001.out).2.2)); (case side4 => rw [show t744.length = t724.length from (Kd.R_reads' HO_730001.out).1.symm]; exact RI HO_730001); rintro e w122 ⟨rfl, hb⟩; refine ⟨_, rfl, ?_⟩; replace HO_714000 := RB HO_714000 hb; replace HO_714001 := RB HO_714001 hb; replace HO_721000 := RB HO_721000 hb; replace HO_721001 := RB HO_721001 hb; replace HO_730000 := RB HO_730000 hb; replace HO_730001 := RB HO_730001 hb; replace BK697 := KB BK697 hb; replace BK713 := KB BK713 hb; replace BK720 := KB BK720 hb; replace BK729 := KB BK729 hb; replace HB := BS hb; clear hb))
          go_ret
          exact ⟨TE, TB⟩
         ·rw [if_neg c115] at H
          have c115b0 : decide (t745 < 0) = false := decide_eq_false c115
          clear c115
          by_cases c123 : t745 = t742
          ·rw [if_pos c123] at H
           have c123b0 : (t745 == t742) = true := beq_iff_eq.mpr c123
           have c123b1 : (t745 != t742) = false := bne_eq_false_iff_eq.mpr c123
           clear c123
           obtain ⟨⟨t746, t749⟩, A124, H⟩ := bnd H
           try dsimp only at H
           obtain ⟨⟨t752, t755, t758, t759⟩, A125, H⟩ := bnd H
           try dsimp only at H
           have HC126 := Aside0.mk H
           clear H
           have hnb127 := NB729_697.out
           have hnc127 := NB697_729.out
           have hnb128 := NB729_713.out
           have hnc128 := NB713_729.out
           have hnb129 := NB729_720.out
           have hnc129 := NB720_729.out
           have hcz130 := cz2 BK729
           go_upto_region 25 with (first | ((with_reducible refine gate_callee (f := 34) rfl ?_); refine goesL_ (some 79) rfl rfl Try.func34 KR rfl #[.agg #[.slice Ao35 t721.length co35, .slice Ao40 t724.length co40], .int .i64 1] rfl TA ?_; (with_reducible refine (laws_markTurn.calls kj72 (fun k_ => some k_ = (.slice Ao35 t721.length co35 : Value).ownBlock) (.slice Ao35 t721.length co35) t721 (fun k_ => some k_ = (.slice Ao40 t724.length co40 : Value).ownBlock) (.slice Ao40 t724.length co40) t724 1 t742 t743 t744 w _ ?side1 ?side2 ?side3 ?side4 ?side5 A113.out).mono ?_); (case side1 => repeat (first | (with_reducible first | exact HB.out | apply below_alloc | apply pw_below_drewN | apply below_drew1 | refine below_set ?_ GE697.out | refine below_set ?_ GE713.out | refine below_set ?_ GE720.out | refine below_set ?_ GE729.out) | exact HB.out)); (case side2 => exact Kd.R_tight rfl HO_730000.out); (case side3 => exact fun k_ e_ => (HO_730000.out.1 k_ e_.symm).2.2.2.2); (case side4 => exact Kd.R_tight rfl HO_730001.out); (case side5 => exact fun k_ e_ => (HO_730001.out.1 k_ e_.symm).2.2.2.2); rintro e w131 ⟨rfl, hy0, hy1, hb, hkp⟩; refine ⟨_, rfl, ?_⟩; replace HO_714000 := RK (fun k_ => some k_ ≠ (.slice Ao24 t708.length co24 : Value).ownBlock ∧ some k_ ≠ (.slice Ao28 t739.length co28 : Value).ownBlock ∧ some k_ ≠ (.slice Ao32 t740.length co32 : Value).ownBlock ∧ some k_ ≠ (.slice Ao35 t721.length co35 : Value).ownBlock ∧ some k_ ≠ (.slice Ao40 t724.length co40 : Value).ownBlock) HO_714000 hkp; replace HO_714001 := RK (fun k_ => some k_ ≠ (.slice Ao21 t705.length co21 : Value).ownBlock ∧ some k_ ≠ (.slice Ao28 t739.length co28 : Value).ownBlock ∧ some k_ ≠ (.slice Ao32 t740.length co32 : Value).ownBlock ∧ some k_ ≠ (.slice Ao35 t721.length co35 : Value).ownBlock ∧ some k_ ≠ (.slice Ao40 t724.length co40 : Value).ownBlock) HO_714001 hkp; replace HO_721000 := RK (fun k_ => some k_ ≠ (.slice Ao21 t705.length co21 : Value).ownBlock ∧ some k_ ≠ (.slice Ao24 t708.length co24 : Value).ownBlock ∧ some k_ ≠ (.slice Ao32 t740.length co32 : Value).ownBlock ∧ some k_ ≠ (.slice Ao35 t721.length co35 : Value).ownBlock ∧ some k_ ≠ (.slice Ao40 t724.length co40 : Value).ownBlock) HO_721000 hkp; replace HO_721001 := RK (fun k_ => some k_ ≠ (.slice Ao21 t705.length co21 : Value).ownBlock ∧ some k_ ≠ (.slice Ao24 t708.length co24 : Value).ownBlock ∧ some k_ ≠ (.slice Ao28 t739.length co28 : Value).ownBlock ∧ some k_ ≠ (.slice Ao35 t721.length co35 : Value).ownBlock ∧ some k_ ≠ (.slice Ao40 t724.length co40 : Value).ownBlock) HO_721001 hkp; replace BK697 := Aside0.mk (blk_kept (KW BK697).out hkp (fun hs_ => Or.elim hs_ (fun e_ => (fun e_ => (Kd.R_ne HO_730000.out BK697.out (by decide)) e_) e_) (fun e_ => (fun e_ => (Kd.R_ne HO_730001.out BK697.out (by decide)) e_) e_))); replace BK713 := Aside0.mk (blk_kept (KW BK713).out hkp (fun hs_ => Or.elim hs_ (fun e_ => (fun e_ => (Kd.R_ne HO_730000.out BK713.out (by decide)) e_) e_) (fun e_ => (fun e_ => (Kd.R_ne HO_730001.out BK713.out (by decide)) e_) e_))); replace BK720 := Aside0.mk (blk_kept (KW BK720).out hkp (fun hs_ => Or.elim hs_ (fun e_ => (fun e_ => (Kd.R_ne HO_730000.out BK720.out (by decide)) e_) e_) (fun e_ => (fun e_ => (Kd.R_ne HO_730001.out BK720.out (by decide)) e_) e_))); replace BK729 := Aside0.mk (blk_kept (KW BK729).out hkp (fun hs_ => Or.elim hs_ (fun e_ => (fun e_ => (Kd.R_ne HO_730000.out BK729.out (by decide)) e_) e_) (fun e_ => (fun e_ => (Kd.R_ne HO_730001.out BK729.out (by decide)) e_) e_))); replace HO_730000 := Aside0.mk (Kd.R_reok rfl hy0 (fun k_ e_ => HO_730000.out.1 k_ e_)); replace HO_730001 := Aside0.mk (Kd.R_reok rfl hy1 (fun k_ e_ => HO_730001.out.1 k_ e_)); replace HB := Aside0.mk (hb); clear hb; (try clear hkp); (try clear hy0); (try clear hy1); have hcz132 := cz2 BK729) | ((with_reducible refine gate_callee (f := 35) rfl ?_); refine goesL_ (some 82) rfl rfl Try.func35 KR rfl #[.agg #[.slice Ao35 t743.length co35, .slice Ao40 t744.length co40], .int .i64 1] rfl (by (try simp only [List.map_toArray, List.map_cons, List.map_nil]); first | done | (rw [show t743.length = t721.length from (Kd.R_reads' HO_730000.out).1.symm, show t744.length = t724.length from (Kd.R_reads' HO_730001.out).1.symm] <;> rfl) | rfl | (simp only [List.length_drop, List.length_take]; rfl)) ?_; (with_reducible refine (laws_heldTurn.calls kj72 _ _ t743 _ _ t744 1 t745 _ ?side1 ?side2 ?side3 ?side4 A114.out).mono ?_); (case side1 => exact CW ((Kd.R_reads' HO_730000.out).2.2)); (case side2 => rw [show t743.length = t721.length from (Kd.R_reads' HO_730000.out).1.symm]; exact RI HO_730000); (case side3 => exact CW ((Kd.R_reads' HO_730001.out).2.2)); (case side4 => rw [show t744.length = t724.length from (Kd.R_reads' HO_730001.out).1.symm]; exact RI HO_730001); rintro e w133 ⟨rfl, hb⟩; refine ⟨_, rfl, ?_⟩; replace HO_714000 := RB HO_714000 hb; replace HO_714001 := RB HO_714001 hb; replace HO_721000 := RB HO_721000 hb; replace HO_721001 := RB HO_721001 hb; replace HO_730000 := RB HO_730000 hb; replace HO_730001 := RB HO_730001 hb; replace BK697 := KB BK697 hb; replace BK713 := KB BK713 hb; replace BK720 := KB BK720 hb; replace BK729 := KB BK729 hb; replace HB := BS hb; clear hb; obtain ⟨hnb134, hnc134⟩ := nn NB697_713; obtain ⟨hnb135, hnc135⟩ := nn NB697_720; have hcz136 := cz2 BK697) | ((with_reducible refine gate_callee (f := 28) rfl ?_); refine goesL_ (some 90) rfl rfl Try.func28 KR rfl #[.agg #[.slice A0_0 l0_0.length c0_0, .slice A0_1 l0_1.length c0_1]] rfl TA ?_; (with_reducible refine (laws_toTurn.calls kj72 _ _ l0_0 _ _ l0_1 t746 t749 _ ?side1 ?side2 ?side3 ?side4 A124.out).mono ?_); (case side1 => exact CW ((Kd.C_below HR0_0.out HB.out))); (case side2 => exact HC0_0.out); (case side3 => exact CW ((Kd.C_below HR0_1.out HB.out))); (case side4 => exact HC0_1.out); rintro e w137 ⟨v747, v750, rfl, ho0, ho1, hb⟩; refine ⟨_, rfl, ?_⟩; have HO748 := RL (NW (NW (NW (NW (NW (NW ho0 HO_714000) HO_714001) HO_721000) HO_721001) HO_730000) HO_730001); have HO751 := RL (NW (NW (NW (NW (NW (NW ho1 HO_714000) HO_714001) HO_721000) HO_721001) HO_730000) HO_730001); replace HO_714000 := O2 HO_714000 ho0 ho1 hb; replace HO_714001 := O2 HO_714001 ho0 ho1 hb; replace HO_721000 := O2 HO_721000 ho0 ho1 hb; replace HO_721001 := O2 HO_721001 ho0 ho1 hb; replace HO_730000 := O2 HO_730000 ho0 ho1 hb; replace HO_730001 := O2 HO_730001 ho0 ho1 hb; replace BK697 := KB BK697 hb; replace BK713 := KB BK713 hb; replace BK720 := KB BK720 hb; replace BK729 := KB BK729 hb; replace HB := BS hb; clear hb; (try clear ho0); (try clear ho1); obtain ⟨Ao138, co138, eo138⟩ := Kd.R_slice HO748.out; subst eo138; obtain ⟨Ao139, co139, eo139⟩ := Kd.R_slice HO751.out; subst eo139) | ((with_reducible refine gate_callee (f := 46) rfl ?_); refine goesL_ (some 91) rfl rfl Try.func46 KR rfl #[.agg #[.slice Ao138 t746.length co138, .slice Ao139 t749.length co139]] rfl TA ?_; (with_reducible refine (impl_NextTurn.calls kj72 _ _ t746 _ _ t749 t752 t755 t758 t759 _ ?side1 ?side2 ?side3 ?side4 A125.out).mono ?_); (case side1 => exact CW ((Kd.R_reads' HO748.out).2.2)); (case side2 => exact RI HO748); (case side3 => exact CW ((Kd.R_reads' HO751.out).2.2)); (case side4 => exact RI HO751); rintro e w140 ⟨v753, v756, rfl, ho0, ho1, hb⟩; refine ⟨_, rfl, ?_⟩; have HO754 := RL (NW (NW (NW (NW (NW (NW (NW (NW ho0 HO_714000) HO_714001) HO_721000) HO_721001) HO_730000) HO_730001) HO748) HO751); have HO757 := RL (NW (NW (NW (NW (NW (NW (NW (NW ho1 HO_714000) HO_714001) HO_721000) HO_721001) HO_730000) HO_730001) HO748) HO751); replace HO_714000 := O2 HO_714000 ho0 ho1 hb; replace HO_714001 := O2 HO_714001 ho0 ho1 hb; replace HO_721000 := O2 HO_721000 ho0 ho1 hb; replace HO_721001 := O2 HO_721001 ho0 ho1 hb; replace HO_730000 := O2 HO_730000 ho0 ho1 hb; replace HO_730001 := O2 HO_730001 ho0 ho1 hb; replace HO748 := O2 HO748 ho0 ho1 hb; replace HO751 := O2 HO751 ho0 ho1 hb; replace BK697 := KB BK697 hb; replace BK713 := KB BK713 hb; replace BK720 := KB BK720 hb; replace BK729 := KB BK729 hb; replace HB := BS hb; clear hb; (try clear ho0); (try clear ho1)) | ((with_reducible refine gate_dst (N := 14) rfl ?_); refine bE 14 #[.slice none 0 0, .slice none 0 0] 40 ?_; intro gb760 hg w141 hbox hb; replace HO_714000 := RB HO_714000 hb; replace HO_714001 := RB HO_714001 hb; replace HO_721000 := RB HO_721000 hb; replace HO_721001 := RB HO_721001 hb; replace HO_730000 := RB HO_730000 hb; replace HO_730001 := RB HO_730001 hb; replace HO748 := RB HO748 hb; replace HO751 := RB HO751 hb; replace HO754 := RB HO754 hb; replace HO757 := RB HO757 hb; have BK760 := Aside0.mk (hbox); have GE760 := bG hg; replace HB := BS hb; have NB697_760 := bN BK697 hg; have NB760_697 := bM BK697 hg; replace BK697 := KB BK697 hb; have NB713_760 := bN BK713 hg; have NB760_713 := bM BK713 hg; replace BK713 := KB BK713 hb; have NB720_760 := bN BK720 hg; have NB760_720 := bM BK720 hg; replace BK720 := KB BK720 hb; have NB729_760 := bN BK729 hg; have NB760_729 := bM BK729 hg; replace BK729 := KB BK729 hb; clear hb hbox hg; obtain ⟨Ao142, co142, eo142⟩ := Kd.R_slice HO754.out; subst eo142; obtain ⟨hnb143, hnc143⟩ := nn NB760_697; obtain ⟨hnb144, hnc144⟩ := nn NB760_713; obtain ⟨hnb145, hnc145⟩ := nn NB760_720; obtain ⟨hnb146, hnc146⟩ := nn NB760_729; have hcz147 := cz2 BK760; obtain ⟨Ao148, co148, eo148⟩ := Kd.R_slice HO757.out; subst eo148))
           (try simp only [Act.put, List.setIfInBounds_toArray, List.set_cons_zero, List.set_cons_succ])
           go_cut [108] (fun v108 wc => ∃ (kq : Nat) (x108_125 : Bool), v108 = .bool x108_125 ∧ Aside0 (laws_FnExactNextTurn.j2 kq t742 x108_125 t743 t744 = some r) ∧ Aside0 (kq ≤ kj72) ∧ Aside0 (Kd.R (Kd.int .i64) 3 wc w.heap.size (fun k_ => some k_ ≠ ((.slice Ao24 t708.length co24) : Value).ownBlock ∧ some k_ ≠ ((.slice Ao28 t739.length co28) : Value).ownBlock ∧ some k_ ≠ ((.slice Ao32 t740.length co32) : Value).ownBlock ∧ some k_ ≠ ((.slice Ao35 t721.length co35) : Value).ownBlock ∧ some k_ ≠ ((.slice Ao40 t724.length co40) : Value).ownBlock ∧ some k_ ≠ ((.slice Ao142 t752.length co142) : Value).ownBlock ∧ some k_ ≠ ((.slice Ao148 t755.length co148) : Value).ownBlock) (.slice Ao21 t705.length co21) t705) ∧ Aside0 (Kd.R (Kd.int .i64) 3 wc w.heap.size (fun k_ => some k_ ≠ ((.slice Ao21 t705.length co21) : Value).ownBlock ∧ some k_ ≠ ((.slice Ao28 t739.length co28) : Value).ownBlock ∧ some k_ ≠ ((.slice Ao32 t740.length co32) : Value).ownBlock ∧ some k_ ≠ ((.slice Ao35 t721.length co35) : Value).ownBlock ∧ some k_ ≠ ((.slice Ao40 t724.length co40) : Value).ownBlock ∧ some k_ ≠ ((.slice Ao142 t752.length co142) : Value).ownBlock ∧ some k_ ≠ ((.slice Ao148 t755.length co148) : Value).ownBlock) (.slice Ao24 t708.length co24) t708) ∧ Aside0 (Kd.R (Kd.int .i64) 3 wc w.heap.size (fun k_ => some k_ ≠ ((.slice Ao21 t705.length co21) : Value).ownBlock ∧ some k_ ≠ ((.slice Ao24 t708.length co24) : Value).ownBlock ∧ some k_ ≠ ((.slice Ao32 t740.length co32) : Value).ownBlock ∧ some k_ ≠ ((.slice Ao35 t721.length co35) : Value).ownBlock ∧ some k_ ≠ ((.slice Ao40 t724.length co40) : Value).ownBlock ∧ some k_ ≠ ((.slice Ao142 t752.length co142) : Value).ownBlock ∧ some k_ ≠ ((.slice Ao148 t755.length co148) : Value).ownBlock) (.slice Ao28 t739.length co28) t739) ∧ Aside0 (Kd.R (Kd.int .i64) 3 wc w.heap.size (fun k_ => some k_ ≠ ((.slice Ao21 t705.length co21) : Value).ownBlock ∧ some k_ ≠ ((.slice Ao24 t708.length co24) : Value).ownBlock ∧ some k_ ≠ ((.slice Ao28 t739.length co28) : Value).ownBlock ∧ some k_ ≠ ((.slice Ao35 t721.length co35) : Value).ownBlock ∧ some k_ ≠ ((.slice Ao40 t724.length co40) : Value).ownBlock ∧ some k_ ≠ ((.slice Ao142 t752.length co142) : Value).ownBlock ∧ some k_ ≠ ((.slice Ao148 t755.length co148) : Value).ownBlock) (.slice Ao32 t740.length co32) t740) ∧ Aside0 (Kd.R (Kd.int .i64) 3 wc w.heap.size (fun k_ => some k_ ≠ ((.slice Ao21 t705.length co21) : Value).ownBlock ∧ some k_ ≠ ((.slice Ao24 t708.length co24) : Value).ownBlock ∧ some k_ ≠ ((.slice Ao28 t739.length co28) : Value).ownBlock ∧ some k_ ≠ ((.slice Ao32 t740.length co32) : Value).ownBlock ∧ some k_ ≠ ((.slice Ao40 t724.length co40) : Value).ownBlock ∧ some k_ ≠ ((.slice Ao142 t752.length co142) : Value).ownBlock ∧ some k_ ≠ ((.slice Ao148 t755.length co148) : Value).ownBlock) (.slice Ao35 t721.length co35) t743) ∧ Aside0 (Kd.R (Kd.int .i64) 3 wc w.heap.size (fun k_ => some k_ ≠ ((.slice Ao21 t705.length co21) : Value).ownBlock ∧ some k_ ≠ ((.slice Ao24 t708.length co24) : Value).ownBlock ∧ some k_ ≠ ((.slice Ao28 t739.length co28) : Value).ownBlock ∧ some k_ ≠ ((.slice Ao32 t740.length co32) : Value).ownBlock ∧ some k_ ≠ ((.slice Ao35 t721.length co35) : Value).ownBlock ∧ some k_ ≠ ((.slice Ao142 t752.length co142) : Value).ownBlock ∧ some k_ ≠ ((.slice Ao148 t755.length co148) : Value).ownBlock) (.slice Ao40 t724.length co40) t744) ∧ Aside0 (Kd.R (Kd.int .i64) 3 wc w.heap.size (fun k_ => some k_ ≠ ((.slice Ao21 t705.length co21) : Value).ownBlock ∧ some k_ ≠ ((.slice Ao24 t708.length co24) : Value).ownBlock ∧ some k_ ≠ ((.slice Ao28 t739.length co28) : Value).ownBlock ∧ some k_ ≠ ((.slice Ao32 t740.length co32) : Value).ownBlock ∧ some k_ ≠ ((.slice Ao35 t721.length co35) : Value).ownBlock ∧ some k_ ≠ ((.slice Ao40 t724.length co40) : Value).ownBlock ∧ some k_ ≠ ((.slice Ao148 t755.length co148) : Value).ownBlock) (.slice Ao142 t752.length co142) t752) ∧ Aside0 (Kd.R (Kd.int .i64) 3 wc w.heap.size (fun k_ => some k_ ≠ ((.slice Ao21 t705.length co21) : Value).ownBlock ∧ some k_ ≠ ((.slice Ao24 t708.length co24) : Value).ownBlock ∧ some k_ ≠ ((.slice Ao28 t739.length co28) : Value).ownBlock ∧ some k_ ≠ ((.slice Ao32 t740.length co32) : Value).ownBlock ∧ some k_ ≠ ((.slice Ao35 t721.length co35) : Value).ownBlock ∧ some k_ ≠ ((.slice Ao40 t724.length co40) : Value).ownBlock ∧ some k_ ≠ ((.slice Ao142 t752.length co142) : Value).ownBlock) (.slice Ao148 t755.length co148) t755) ∧ Aside0 (wc.heap[gb697]? = some (.cells #[(.slice A0_0 l0_0.length c0_0), (.slice A0_1 l0_1.length c0_1)] 37 (0, 0))) ∧ Aside0 (wc.heap[gb713]? = some (.cells #[(.slice Ao21 t705.length co21), (.slice Ao24 t708.length co24)] 40 (0, 0))) ∧ Aside0 (wc.heap[gb720]? = some (.cells #[(.slice Ao28 t739.length co28), (.slice Ao32 t740.length co32)] 40 (0, 0))) ∧ Aside0 (wc.heap[gb729]? = some (.cells #[(.slice Ao35 t721.length co35), (.slice Ao40 t724.length co40)] 40 (0, 0))) ∧ Aside0 (wc.heap[gb760]? = some (.cells #[(.slice Ao142 t752.length co142), (.slice Ao148 t755.length co148)] 40 (0, 0))) ∧ Aside0 (Below w.heap.size w wc))
           case first =>
            have H := HC126.out
            clear HC126
            obtain ⟨t761, A149, H⟩ := bnd H
            by_cases c150 : t761 = true
            ·subst c150
             replace H := ift H
             by_cases c151 : t758 = t711
             ·rw [if_pos c151] at H
              have c151b0 : (t758 == t711) = true := beq_iff_eq.mpr c151
              have c151b1 : (t758 != t711) = false := bne_eq_false_iff_eq.mpr c151
              clear c151
              (first | rw [c151b0] | (simp only [i64_w, i32_w]; rw [c151b0]) | rw [c151b1] | skip)
              have H' := Aside0.mk H
              clear H
              have hnb152 := NB760_697.out
              have hnc152 := NB697_760.out
              have hnb153 := NB760_713.out
              have hnc153 := NB713_760.out
              have hnb154 := NB760_720.out
              have hnc154 := NB720_760.out
              have hnb155 := NB760_729.out
              have hnc155 := NB729_760.out
              have hcz156 := cz2 BK760
              have hnb157 := NB713_697.out
              have hnc157 := NB697_713.out
              have hnb158 := NB713_720.out
              have hnc158 := NB720_713.out
              have hnb159 := NB713_729.out
              have hnc159 := NB729_713.out
              have hcz160 := cz2 BK713
              go_wp2_with (first | ((with_reducible refine gate_callee (f := 30) rfl ?_); refine goesL_ (some 97) rfl rfl Try.func30 KR rfl #[.agg #[.slice Ao142 t752.length co142, .slice Ao148 t755.length co148], .agg #[.slice Ao21 t705.length co21, .slice Ao24 t708.length co24]] rfl TA ?_; (with_reducible refine (laws_eqTurn.calls kj72 _ _ t752 _ _ t755 _ _ t705 _ _ t708 true _ ?side1 ?side2 ?side3 ?side4 ?side5 ?side6 ?side7 ?side8 A149.out).mono ?_); (case side1 => exact RC (RT HO754 BK760)); (case side2 => exact RI HO754); (case side3 => exact RC (RT HO757 BK760)); (case side4 => exact RI HO757); (case side5 => exact RC (RT HO_714000 BK760)); (case side6 => exact RI HO_714000); (case side7 => exact RC (RT HO_714001 BK760)); (case side8 => exact RI HO_714001); rintro e w161 ⟨rfl, hb⟩; refine ⟨_, rfl, ?_⟩; replace HO_714000 := RTB HO_714000 BK760 hb; replace HO_714001 := RTB HO_714001 BK760 hb; replace HO_721000 := RTB HO_721000 BK760 hb; replace HO_721001 := RTB HO_721001 BK760 hb; replace HO_730000 := RTB HO_730000 BK760 hb; replace HO_730001 := RTB HO_730001 BK760 hb; replace HO748 := RTB HO748 BK760 hb; replace HO751 := RTB HO751 BK760 hb; replace HO754 := RTB HO754 BK760 hb; replace HO757 := RTB HO757 BK760 hb; replace BK697 := KF BK697 hb; replace BK713 := KF BK713 hb; replace BK720 := KF BK720 hb; replace BK729 := KF BK729 hb; replace BK760 := KP BK760 #[.slice Ao142 t752.length co142, .slice Ao148 t755.length co148] hb; replace HB := BS hb; clear hb))
              go_meet
              case rel => exact ⟨_, ((t759 != t712)), TF, H', ⟨by have := HJ10.out; have := HJ72.out; first | omega | exact Nat.le_refl _⟩, ⟨by (try simp only [hl721000_72]); (try simp only [hl721001_72]); (with_reducible repeat (first | apply Kd.R_alloc | apply Kd.R_drewN | apply Kd.R_drew)); exact Kd.R_mono HO_714000.out (fun _ hk => ⟨hk.1.1.1.1.1, ⟨hk.1.1.1.1.2.1, ⟨hk.1.1.1.1.2.2.1, ⟨hk.1.1.1.1.2.2.2.1, ⟨hk.1.1.1.1.2.2.2.2, ⟨hk.1.2, hk.2⟩⟩⟩⟩⟩⟩)⟩, ⟨by (try simp only [hl721000_72]); (try simp only [hl721001_72]); (with_reducible repeat (first | apply Kd.R_alloc | apply Kd.R_drewN | apply Kd.R_drew)); exact Kd.R_mono HO_714001.out (fun _ hk => ⟨hk.1.1.1.1.1, ⟨hk.1.1.1.1.2.1, ⟨hk.1.1.1.1.2.2.1, ⟨hk.1.1.1.1.2.2.2.1, ⟨hk.1.1.1.1.2.2.2.2, ⟨hk.1.2, hk.2⟩⟩⟩⟩⟩⟩)⟩, ⟨by (try simp only [hl721000_72]); (try simp only [hl721001_72]); (with_reducible repeat (first | apply Kd.R_alloc | apply Kd.R_drewN | apply Kd.R_drew)); exact Kd.R_mono HO_721000.out (fun _ hk => ⟨hk.1.1.1.1.1, ⟨hk.1.1.1.1.2.1, ⟨hk.1.1.1.1.2.2.1, ⟨hk.1.1.1.1.2.2.2.1, ⟨hk.1.1.1.1.2.2.2.2, ⟨hk.1.2, hk.2⟩⟩⟩⟩⟩⟩)⟩, ⟨by (try simp only [hl721000_72]); (try simp only [hl721001_72]); (with_reducible repeat (first | apply Kd.R_alloc | apply Kd.R_drewN | apply Kd.R_drew)); exact Kd.R_mono HO_721001.out (fun _ hk => ⟨hk.1.1.1.1.1, ⟨hk.1.1.1.1.2.1, ⟨hk.1.1.1.1.2.2.1, ⟨hk.1.1.1.1.2.2.2.1, ⟨hk.1.1.1.1.2.2.2.2, ⟨hk.1.2, hk.2⟩⟩⟩⟩⟩⟩)⟩, ⟨by (try simp only [hl721000_72]); (try simp only [hl721001_72]); (with_reducible repeat (first | apply Kd.R_alloc | apply Kd.R_drewN | apply Kd.R_drew)); exact Kd.R_mono HO_730000.out (fun _ hk => ⟨hk.1.1.1.1.1, ⟨hk.1.1.1.1.2.1, ⟨hk.1.1.1.1.2.2.1, ⟨hk.1.1.1.1.2.2.2.1, ⟨hk.1.1.1.1.2.2.2.2, ⟨hk.1.2, hk.2⟩⟩⟩⟩⟩⟩)⟩, ⟨by (try simp only [hl721000_72]); (try simp only [hl721001_72]); (with_reducible repeat (first | apply Kd.R_alloc | apply Kd.R_drewN | apply Kd.R_drew)); exact Kd.R_mono HO_730001.out (fun _ hk => ⟨hk.1.1.1.1.1, ⟨hk.1.1.1.1.2.1, ⟨hk.1.1.1.1.2.2.1, ⟨hk.1.1.1.1.2.2.2.1, ⟨hk.1.1.1.1.2.2.2.2, ⟨hk.1.2, hk.2⟩⟩⟩⟩⟩⟩)⟩, ⟨by (try simp only [hl721000_72]); (try simp only [hl721001_72]); (with_reducible repeat (first | apply Kd.R_alloc | apply Kd.R_drewN | apply Kd.R_drew)); exact Kd.R_mono HO754.out (fun _ hk => ⟨hk.1.1.1.1.1.1.1.2, ⟨hk.1.1.1.1.1.1.2, ⟨hk.1.1.1.1.1.2, ⟨hk.1.1.1.1.2, ⟨hk.1.1.1.2, ⟨hk.1.1.2, hk.1.1.1.1.1.1.1.1⟩⟩⟩⟩⟩⟩)⟩, ⟨by (try simp only [hl721000_72]); (try simp only [hl721001_72]); (with_reducible repeat (first | apply Kd.R_alloc | apply Kd.R_drewN | apply Kd.R_drew)); exact Kd.R_mono HO757.out (fun _ hk => ⟨hk.1.1.1.1.1.1.1.2, ⟨hk.1.1.1.1.1.1.2, ⟨hk.1.1.1.1.1.2, ⟨hk.1.1.1.1.2, ⟨hk.1.1.1.2, ⟨hk.1.1.2, hk.1.1.1.1.1.1.1.1⟩⟩⟩⟩⟩⟩)⟩, ⟨by (try simp only [hl721000_72]); (try simp only [hl721001_72]); (with_reducible repeat (first | refine blk_drewN ?_ _ | refine blk_drew ?_ | refine blk_alloc ?_ _)); exact BK697.out⟩, ⟨by (try simp only [hl721000_72]); (try simp only [hl721001_72]); (with_reducible repeat (first | refine blk_drewN ?_ _ | refine blk_drew ?_ | refine blk_alloc ?_ _)); exact BK713.out⟩, ⟨by (try simp only [hl721000_72]); (try simp only [hl721001_72]); (with_reducible repeat (first | refine blk_drewN ?_ _ | refine blk_drew ?_ | refine blk_alloc ?_ _)); exact BK720.out⟩, ⟨by (try simp only [hl721000_72]); (try simp only [hl721001_72]); (with_reducible repeat (first | refine blk_drewN ?_ _ | refine blk_drew ?_ | refine blk_alloc ?_ _)); exact BK729.out⟩, ⟨by (try simp only [hl721000_72]); (try simp only [hl721001_72]); (with_reducible repeat (first | refine blk_drewN ?_ _ | refine blk_drew ?_ | refine blk_alloc ?_ _)); exact BK760.out⟩, ⟨TB⟩⟩
             ·rw [if_neg c151] at H
              have c151b0 : (t758 == t711) = false := beq_eq_false_iff_ne.mpr c151
              have c151b1 : (t758 != t711) = true := bne_iff_ne.mpr c151
              (first | rw [c151b0] | (simp only [i64_w, i32_w]; rw [c151b0]) | rw [c151b1] | skip)
              have H' := Aside0.mk H
              clear H
              have hnb162 := NB760_697.out
              have hnc162 := NB697_760.out
              have hnb163 := NB760_713.out
              have hnc163 := NB713_760.out
              have hnb164 := NB760_720.out
              have hnc164 := NB720_760.out
              have hnb165 := NB760_729.out
              have hnc165 := NB729_760.out
              have hcz166 := cz2 BK760
              have hnb167 := NB713_697.out
              have hnc167 := NB697_713.out
              have hnb168 := NB713_720.out
              have hnc168 := NB720_713.out
              have hnb169 := NB713_729.out
              have hnc169 := NB729_713.out
              have hcz170 := cz2 BK713
              go_wp2_with (first | ((with_reducible refine gate_callee (f := 30) rfl ?_); refine goesL_ (some 97) rfl rfl Try.func30 KR rfl #[.agg #[.slice Ao142 t752.length co142, .slice Ao148 t755.length co148], .agg #[.slice Ao21 t705.length co21, .slice Ao24 t708.length co24]] rfl TA ?_; (with_reducible refine (laws_eqTurn.calls kj72 _ _ t752 _ _ t755 _ _ t705 _ _ t708 true _ ?side1 ?side2 ?side3 ?side4 ?side5 ?side6 ?side7 ?side8 A149.out).mono ?_); (case side1 => exact RC (RT HO754 BK760)); (case side2 => exact RI HO754); (case side3 => exact RC (RT HO757 BK760)); (case side4 => exact RI HO757); (case side5 => exact RC (RT HO_714000 BK760)); (case side6 => exact RI HO_714000); (case side7 => exact RC (RT HO_714001 BK760)); (case side8 => exact RI HO_714001); rintro e w171 ⟨rfl, hb⟩; refine ⟨_, rfl, ?_⟩; replace HO_714000 := RTB HO_714000 BK760 hb; replace HO_714001 := RTB HO_714001 BK760 hb; replace HO_721000 := RTB HO_721000 BK760 hb; replace HO_721001 := RTB HO_721001 BK760 hb; replace HO_730000 := RTB HO_730000 BK760 hb; replace HO_730001 := RTB HO_730001 BK760 hb; replace HO748 := RTB HO748 BK760 hb; replace HO751 := RTB HO751 BK760 hb; replace HO754 := RTB HO754 BK760 hb; replace HO757 := RTB HO757 BK760 hb; replace BK697 := KF BK697 hb; replace BK713 := KF BK713 hb; replace BK720 := KF BK720 hb; replace BK729 := KF BK729 hb; replace BK760 := KP BK760 #[.slice Ao142 t752.length co142, .slice Ao148 t755.length co148] hb; replace HB := BS hb; clear hb))
              go_meet
              case rel => exact ⟨_, (true), TF, H', ⟨by have := HJ10.out; have := HJ72.out; first | omega | exact Nat.le_refl _⟩, ⟨by (try simp only [hl721000_72]); (try simp only [hl721001_72]); (with_reducible repeat (first | apply Kd.R_alloc | apply Kd.R_drewN | apply Kd.R_drew)); exact Kd.R_mono HO_714000.out (fun _ hk => ⟨hk.1.1.1.1.1, ⟨hk.1.1.1.1.2.1, ⟨hk.1.1.1.1.2.2.1, ⟨hk.1.1.1.1.2.2.2.1, ⟨hk.1.1.1.1.2.2.2.2, ⟨hk.1.2, hk.2⟩⟩⟩⟩⟩⟩)⟩, ⟨by (try simp only [hl721000_72]); (try simp only [hl721001_72]); (with_reducible repeat (first | apply Kd.R_alloc | apply Kd.R_drewN | apply Kd.R_drew)); exact Kd.R_mono HO_714001.out (fun _ hk => ⟨hk.1.1.1.1.1, ⟨hk.1.1.1.1.2.1, ⟨hk.1.1.1.1.2.2.1, ⟨hk.1.1.1.1.2.2.2.1, ⟨hk.1.1.1.1.2.2.2.2, ⟨hk.1.2, hk.2⟩⟩⟩⟩⟩⟩)⟩, ⟨by (try simp only [hl721000_72]); (try simp only [hl721001_72]); (with_reducible repeat (first | apply Kd.R_alloc | apply Kd.R_drewN | apply Kd.R_drew)); exact Kd.R_mono HO_721000.out (fun _ hk => ⟨hk.1.1.1.1.1, ⟨hk.1.1.1.1.2.1, ⟨hk.1.1.1.1.2.2.1, ⟨hk.1.1.1.1.2.2.2.1, ⟨hk.1.1.1.1.2.2.2.2, ⟨hk.1.2, hk.2⟩⟩⟩⟩⟩⟩)⟩, ⟨by (try simp only [hl721000_72]); (try simp only [hl721001_72]); (with_reducible repeat (first | apply Kd.R_alloc | apply Kd.R_drewN | apply Kd.R_drew)); exact Kd.R_mono HO_721001.out (fun _ hk => ⟨hk.1.1.1.1.1, ⟨hk.1.1.1.1.2.1, ⟨hk.1.1.1.1.2.2.1, ⟨hk.1.1.1.1.2.2.2.1, ⟨hk.1.1.1.1.2.2.2.2, ⟨hk.1.2, hk.2⟩⟩⟩⟩⟩⟩)⟩, ⟨by (try simp only [hl721000_72]); (try simp only [hl721001_72]); (with_reducible repeat (first | apply Kd.R_alloc | apply Kd.R_drewN | apply Kd.R_drew)); exact Kd.R_mono HO_730000.out (fun _ hk => ⟨hk.1.1.1.1.1, ⟨hk.1.1.1.1.2.1, ⟨hk.1.1.1.1.2.2.1, ⟨hk.1.1.1.1.2.2.2.1, ⟨hk.1.1.1.1.2.2.2.2, ⟨hk.1.2, hk.2⟩⟩⟩⟩⟩⟩)⟩, ⟨by (try simp only [hl721000_72]); (try simp only [hl721001_72]); (with_reducible repeat (first | apply Kd.R_alloc | apply Kd.R_drewN | apply Kd.R_drew)); exact Kd.R_mono HO_730001.out (fun _ hk => ⟨hk.1.1.1.1.1, ⟨hk.1.1.1.1.2.1, ⟨hk.1.1.1.1.2.2.1, ⟨hk.1.1.1.1.2.2.2.1, ⟨hk.1.1.1.1.2.2.2.2, ⟨hk.1.2, hk.2⟩⟩⟩⟩⟩⟩)⟩, ⟨by (try simp only [hl721000_72]); (try simp only [hl721001_72]); (with_reducible repeat (first | apply Kd.R_alloc | apply Kd.R_drewN | apply Kd.R_drew)); exact Kd.R_mono HO754.out (fun _ hk => ⟨hk.1.1.1.1.1.1.1.2, ⟨hk.1.1.1.1.1.1.2, ⟨hk.1.1.1.1.1.2, ⟨hk.1.1.1.1.2, ⟨hk.1.1.1.2, ⟨hk.1.1.2, hk.1.1.1.1.1.1.1.1⟩⟩⟩⟩⟩⟩)⟩, ⟨by (try simp only [hl721000_72]); (try simp only [hl721001_72]); (with_reducible repeat (first | apply Kd.R_alloc | apply Kd.R_drewN | apply Kd.R_drew)); exact Kd.R_mono HO757.out (fun _ hk => ⟨hk.1.1.1.1.1.1.1.2, ⟨hk.1.1.1.1.1.1.2, ⟨hk.1.1.1.1.1.2, ⟨hk.1.1.1.1.2, ⟨hk.1.1.1.2, ⟨hk.1.1.2, hk.1.1.1.1.1.1.1.1⟩⟩⟩⟩⟩⟩)⟩, ⟨by (try simp only [hl721000_72]); (try simp only [hl721001_72]); (with_reducible repeat (first | refine blk_drewN ?_ _ | refine blk_drew ?_ | refine blk_alloc ?_ _)); exact BK697.out⟩, ⟨by (try simp only [hl721000_72]); (try simp only [hl721001_72]); (with_reducible repeat (first | refine blk_drewN ?_ _ | refine blk_drew ?_ | refine blk_alloc ?_ _)); exact BK713.out⟩, ⟨by (try simp only [hl721000_72]); (try simp only [hl721001_72]); (with_reducible repeat (first | refine blk_drewN ?_ _ | refine blk_drew ?_ | refine blk_alloc ?_ _)); exact BK720.out⟩, ⟨by (try simp only [hl721000_72]); (try simp only [hl721001_72]); (with_reducible repeat (first | refine blk_drewN ?_ _ | refine blk_drew ?_ | refine blk_alloc ?_ _)); exact BK729.out⟩, ⟨by (try simp only [hl721000_72]); (try simp only [hl721001_72]); (with_reducible repeat (first | refine blk_drewN ?_ _ | refine blk_drew ?_ | refine blk_alloc ?_ _)); exact BK760.out⟩, ⟨TB⟩⟩
            ·replace c150 := Bool.eq_false_iff.mpr c150
             subst c150
             replace H := iff' H
             have H' := Aside0.mk H
             clear H
             have hnb172 := NB760_697.out
             have hnc172 := NB697_760.out
             have hnb173 := NB760_713.out
             have hnc173 := NB713_760.out
             have hnb174 := NB760_720.out
             have hnc174 := NB720_760.out
             have hnb175 := NB760_729.out
             have hnc175 := NB729_760.out
             have hcz176 := cz2 BK760
             have hnb177 := NB713_697.out
             have hnc177 := NB697_713.out
             have hnb178 := NB713_720.out
             have hnc178 := NB720_713.out
             have hnb179 := NB713_729.out
             have hnc179 := NB729_713.out
             have hcz180 := cz2 BK713
             go_wp2_with (first | ((with_reducible refine gate_callee (f := 30) rfl ?_); refine goesL_ (some 97) rfl rfl Try.func30 KR rfl #[.agg #[.slice Ao142 t752.length co142, .slice Ao148 t755.length co148], .agg #[.slice Ao21 t705.length co21, .slice Ao24 t708.length co24]] rfl TA ?_; (with_reducible refine (laws_eqTurn.calls kj72 _ _ t752 _ _ t755 _ _ t705 _ _ t708 false _ ?side1 ?side2 ?side3 ?side4 ?side5 ?side6 ?side7 ?side8 A149.out).mono ?_); (case side1 => exact RC (RT HO754 BK760)); (case side2 => exact RI HO754); (case side3 => exact RC (RT HO757 BK760)); (case side4 => exact RI HO757); (case side5 => exact RC (RT HO_714000 BK760)); (case side6 => exact RI HO_714000); (case side7 => exact RC (RT HO_714001 BK760)); (case side8 => exact RI HO_714001); rintro e w181 ⟨rfl, hb⟩; refine ⟨_, rfl, ?_⟩; replace HO_714000 := RTB HO_714000 BK760 hb; replace HO_714001 := RTB HO_714001 BK760 hb; replace HO_721000 := RTB HO_721000 BK760 hb; replace HO_721001 := RTB HO_721001 BK760 hb; replace HO_730000 := RTB HO_730000 BK760 hb; replace HO_730001 := RTB HO_730001 BK760 hb; replace HO748 := RTB HO748 BK760 hb; replace HO751 := RTB HO751 BK760 hb; replace HO754 := RTB HO754 BK760 hb; replace HO757 := RTB HO757 BK760 hb; replace BK697 := KF BK697 hb; replace BK713 := KF BK713 hb; replace BK720 := KF BK720 hb; replace BK729 := KF BK729 hb; replace BK760 := KP BK760 #[.slice Ao142 t752.length co142, .slice Ao148 t755.length co148] hb; replace HB := BS hb; clear hb))
             go_meet
             case rel => exact ⟨_, (true), TF, H', ⟨by have := HJ10.out; have := HJ72.out; first | omega | exact Nat.le_refl _⟩, ⟨by (try simp only [hl721000_72]); (try simp only [hl721001_72]); (with_reducible repeat (first | apply Kd.R_alloc | apply Kd.R_drewN | apply Kd.R_drew)); exact Kd.R_mono HO_714000.out (fun _ hk => ⟨hk.1.1.1.1.1, ⟨hk.1.1.1.1.2.1, ⟨hk.1.1.1.1.2.2.1, ⟨hk.1.1.1.1.2.2.2.1, ⟨hk.1.1.1.1.2.2.2.2, ⟨hk.1.2, hk.2⟩⟩⟩⟩⟩⟩)⟩, ⟨by (try simp only [hl721000_72]); (try simp only [hl721001_72]); (with_reducible repeat (first | apply Kd.R_alloc | apply Kd.R_drewN | apply Kd.R_drew)); exact Kd.R_mono HO_714001.out (fun _ hk => ⟨hk.1.1.1.1.1, ⟨hk.1.1.1.1.2.1, ⟨hk.1.1.1.1.2.2.1, ⟨hk.1.1.1.1.2.2.2.1, ⟨hk.1.1.1.1.2.2.2.2, ⟨hk.1.2, hk.2⟩⟩⟩⟩⟩⟩)⟩, ⟨by (try simp only [hl721000_72]); (try simp only [hl721001_72]); (with_reducible repeat (first | apply Kd.R_alloc | apply Kd.R_drewN | apply Kd.R_drew)); exact Kd.R_mono HO_721000.out (fun _ hk => ⟨hk.1.1.1.1.1, ⟨hk.1.1.1.1.2.1, ⟨hk.1.1.1.1.2.2.1, ⟨hk.1.1.1.1.2.2.2.1, ⟨hk.1.1.1.1.2.2.2.2, ⟨hk.1.2, hk.2⟩⟩⟩⟩⟩⟩)⟩, ⟨by (try simp only [hl721000_72]); (try simp only [hl721001_72]); (with_reducible repeat (first | apply Kd.R_alloc | apply Kd.R_drewN | apply Kd.R_drew)); exact Kd.R_mono HO_721001.out (fun _ hk => ⟨hk.1.1.1.1.1, ⟨hk.1.1.1.1.2.1, ⟨hk.1.1.1.1.2.2.1, ⟨hk.1.1.1.1.2.2.2.1, ⟨hk.1.1.1.1.2.2.2.2, ⟨hk.1.2, hk.2⟩⟩⟩⟩⟩⟩)⟩, ⟨by (try simp only [hl721000_72]); (try simp only [hl721001_72]); (with_reducible repeat (first | apply Kd.R_alloc | apply Kd.R_drewN | apply Kd.R_drew)); exact Kd.R_mono HO_730000.out (fun _ hk => ⟨hk.1.1.1.1.1, ⟨hk.1.1.1.1.2.1, ⟨hk.1.1.1.1.2.2.1, ⟨hk.1.1.1.1.2.2.2.1, ⟨hk.1.1.1.1.2.2.2.2, ⟨hk.1.2, hk.2⟩⟩⟩⟩⟩⟩)⟩, ⟨by (try simp only [hl721000_72]); (try simp only [hl721001_72]); (with_reducible repeat (first | apply Kd.R_alloc | apply Kd.R_drewN | apply Kd.R_drew)); exact Kd.R_mono HO_730001.out (fun _ hk => ⟨hk.1.1.1.1.1, ⟨hk.1.1.1.1.2.1, ⟨hk.1.1.1.1.2.2.1, ⟨hk.1.1.1.1.2.2.2.1, ⟨hk.1.1.1.1.2.2.2.2, ⟨hk.1.2, hk.2⟩⟩⟩⟩⟩⟩)⟩, ⟨by (try simp only [hl721000_72]); (try simp only [hl721001_72]); (with_reducible repeat (first | apply Kd.R_alloc | apply Kd.R_drewN | apply Kd.R_drew)); exact Kd.R_mono HO754.out (fun _ hk => ⟨hk.1.1.1.1.1.1.1.2, ⟨hk.1.1.1.1.1.1.2, ⟨hk.1.1.1.1.1.2, ⟨hk.1.1.1.1.2, ⟨hk.1.1.1.2, ⟨hk.1.1.2, hk.1.1.1.1.1.1.1.1⟩⟩⟩⟩⟩⟩)⟩, ⟨by (try simp only [hl721000_72]); (try simp only [hl721001_72]); (with_reducible repeat (first | apply Kd.R_alloc | apply Kd.R_drewN | apply Kd.R_drew)); exact Kd.R_mono HO757.out (fun _ hk => ⟨hk.1.1.1.1.1.1.1.2, ⟨hk.1.1.1.1.1.1.2, ⟨hk.1.1.1.1.1.2, ⟨hk.1.1.1.1.2, ⟨hk.1.1.1.2, ⟨hk.1.1.2, hk.1.1.1.1.1.1.1.1⟩⟩⟩⟩⟩⟩)⟩, ⟨by (try simp only [hl721000_72]); (try simp only [hl721001_72]); (with_reducible repeat (first | refine blk_drewN ?_ _ | refine blk_drew ?_ | refine blk_alloc ?_ _)); exact BK697.out⟩, ⟨by (try simp only [hl721000_72]); (try simp only [hl721001_72]); (with_reducible repeat (first | refine blk_drewN ?_ _ | refine blk_drew ?_ | refine blk_alloc ?_ _)); exact BK713.out⟩, ⟨by (try simp only [hl721000_72]); (try simp only [hl721001_72]); (with_reducible repeat (first | refine blk_drewN ?_ _ | refine blk_drew ?_ | refine blk_alloc ?_ _)); exact BK720.out⟩, ⟨by (try simp only [hl721000_72]); (try simp only [hl721001_72]); (with_reducible repeat (first | refine blk_drewN ?_ _ | refine blk_drew ?_ | refine blk_alloc ?_ _)); exact BK729.out⟩, ⟨by (try simp only [hl721000_72]); (try simp only [hl721001_72]); (with_reducible repeat (first | refine blk_drewN ?_ _ | refine blk_drew ?_ | refine blk_alloc ?_ _)); exact BK760.out⟩, ⟨TB⟩⟩
           case rest =>
            clear HC126
            obtain ⟨kq, x108_125, rfl, HA, HJ125, HO_714000, HO_714001, HO_721000, HO_721001, HO_730000, HO_730001, HO_761000, HO_761001, BK697, BK713, BK720, BK729, BK760, HB⟩ := hcut
            have hl730000_125 := (Kd.R_reads' HO_730000.out).1
            rw [hl730000_125] at HO_730000
            (try simp only [hl730000_125])
            (try simp only [hl730000_125] at BK697)
            (try simp only [hl730000_125] at BK713)
            (try simp only [hl730000_125] at BK720)
            (try simp only [hl730000_125] at BK729)
            (try simp only [hl730000_125] at BK760)
            (try simp only [hl730000_125] at HO_714000)
            (try simp only [hl730000_125] at HO_714001)
            (try simp only [hl730000_125] at HO_721000)
            (try simp only [hl730000_125] at HO_721001)
            (try simp only [hl730000_125] at HO_730001)
            (try simp only [hl730000_125] at HO_761000)
            (try simp only [hl730000_125] at HO_761001)
            have hl730001_125 := (Kd.R_reads' HO_730001.out).1
            rw [hl730001_125] at HO_730001
            (try simp only [hl730001_125])
            (try simp only [hl730001_125] at BK697)
            (try simp only [hl730001_125] at BK713)
            (try simp only [hl730001_125] at BK720)
            (try simp only [hl730001_125] at BK729)
            (try simp only [hl730001_125] at BK760)
            (try simp only [hl730001_125] at HO_714000)
            (try simp only [hl730001_125] at HO_714001)
            (try simp only [hl730001_125] at HO_721000)
            (try simp only [hl730001_125] at HO_721001)
            (try simp only [hl730001_125] at HO_730000)
            (try simp only [hl730001_125] at HO_761000)
            (try simp only [hl730001_125] at HO_761001)
            cases kq with
            | zero => exact absurd HA.out (by simp [laws_FnExactNextTurn.j2])
            | succ kj125 =>
             have H := HA.out
             clear HA
             simp only [laws_FnExactNextTurn.j2] at H
             by_cases c182 : x108_125 = true
             ·subst c182
              replace H := ift H
              obtain rfl := Option.some.inj H
              go_wp2
              go_ret
              exact ⟨TE, TB⟩
             ·replace c182 := Bool.eq_false_iff.mpr c182
              subst c182
              replace H := iff' H
              obtain ⟨t762, A183, H⟩ := bnd H
              by_cases c184 : t762 < 0
              ·rw [if_pos c184] at H
               have c184b0 : decide (t762 < 0) = true := decide_eq_true c184
               clear c184
               obtain rfl := Option.some.inj H
               have hnb185 := NB729_697.out
               have hnc185 := NB697_729.out
               have hnb186 := NB729_713.out
               have hnc186 := NB713_729.out
               have hnb187 := NB729_720.out
               have hnc187 := NB720_729.out
               have hnb188 := NB729_760.out
               have hnc188 := NB760_729.out
               have hcz189 := cz2 BK729
               go_wp2_with (first | ((with_reducible refine gate_callee (f := 35) rfl ?_); refine goesL_ (some 111) rfl rfl Try.func35 KR rfl #[.agg #[.slice Ao35 t743.length co35, .slice Ao40 t744.length co40], .int .i64 1] rfl TA ?_; (with_reducible refine (laws_heldTurn.calls kj125 _ _ t743 _ _ t744 1 t762 _ ?side1 ?side2 ?side3 ?side4 A183.out).mono ?_); (case side1 => exact CW ((Kd.R_reads' HO_730000.out).2.2)); (case side2 => exact RI HO_730000); (case side3 => exact CW ((Kd.R_reads' HO_730001.out).2.2)); (case side4 => exact RI HO_730001); rintro e w190 ⟨rfl, hb⟩; refine ⟨_, rfl, ?_⟩; replace HO_714000 := RB HO_714000 hb; replace HO_714001 := RB HO_714001 hb; replace HO_721000 := RB HO_721000 hb; replace HO_721001 := RB HO_721001 hb; replace HO_730000 := RB HO_730000 hb; replace HO_730001 := RB HO_730001 hb; replace HO_761000 := RB HO_761000 hb; replace HO_761001 := RB HO_761001 hb; replace BK697 := KB BK697 hb; replace BK713 := KB BK713 hb; replace BK720 := KB BK720 hb; replace BK729 := KB BK729 hb; replace BK760 := KB BK760 hb; replace HB := BS hb; clear hb))
               go_ret
               exact ⟨TE, TB⟩
              ·rw [if_neg c184] at H
               have c184b0 : decide (t762 < 0) = false := decide_eq_false c184
               clear c184
               by_cases c191 : t762 = t742
               ·rw [if_pos c191] at H
                have c191b0 : (t762 == t742) = true := beq_iff_eq.mpr c191
                have c191b1 : (t762 != t742) = false := bne_eq_false_iff_eq.mpr c191
                clear c191
                obtain rfl := Option.some.inj H
                have hnb192 := NB729_697.out
                have hnc192 := NB697_729.out
                have hnb193 := NB729_713.out
                have hnc193 := NB713_729.out
                have hnb194 := NB729_720.out
                have hnc194 := NB720_729.out
                have hnb195 := NB729_760.out
                have hnc195 := NB760_729.out
                have hcz196 := cz2 BK729
                go_wp2_with (first | ((with_reducible refine gate_callee (f := 35) rfl ?_); refine goesL_ (some 111) rfl rfl Try.func35 KR rfl #[.agg #[.slice Ao35 t743.length co35, .slice Ao40 t744.length co40], .int .i64 1] rfl TA ?_; (with_reducible refine (laws_heldTurn.calls kj125 _ _ t743 _ _ t744 1 t762 _ ?side1 ?side2 ?side3 ?side4 A183.out).mono ?_); (case side1 => exact CW ((Kd.R_reads' HO_730000.out).2.2)); (case side2 => exact RI HO_730000); (case side3 => exact CW ((Kd.R_reads' HO_730001.out).2.2)); (case side4 => exact RI HO_730001); rintro e w197 ⟨rfl, hb⟩; refine ⟨_, rfl, ?_⟩; replace HO_714000 := RB HO_714000 hb; replace HO_714001 := RB HO_714001 hb; replace HO_721000 := RB HO_721000 hb; replace HO_721001 := RB HO_721001 hb; replace HO_730000 := RB HO_730000 hb; replace HO_730001 := RB HO_730001 hb; replace HO_761000 := RB HO_761000 hb; replace HO_761001 := RB HO_761001 hb; replace BK697 := KB BK697 hb; replace BK713 := KB BK713 hb; replace BK720 := KB BK720 hb; replace BK729 := KB BK729 hb; replace BK760 := KB BK760 hb; replace HB := BS hb; clear hb))
                go_ret
                exact ⟨TE, TB⟩
               ·rw [if_neg c191] at H
                have c191b0 : (t762 == t742) = false := beq_eq_false_iff_ne.mpr c191
                have c191b1 : (t762 != t742) = true := bne_iff_ne.mpr c191
                obtain rfl := Option.some.inj H
                have hnb198 := NB729_697.out
                have hnc198 := NB697_729.out
                have hnb199 := NB729_713.out
                have hnc199 := NB713_729.out
                have hnb200 := NB729_720.out
                have hnc200 := NB720_729.out
                have hnb201 := NB729_760.out
                have hnc201 := NB760_729.out
                have hcz202 := cz2 BK729
                go_wp2_with (first | ((with_reducible refine gate_callee (f := 35) rfl ?_); refine goesL_ (some 111) rfl rfl Try.func35 KR rfl #[.agg #[.slice Ao35 t743.length co35, .slice Ao40 t744.length co40], .int .i64 1] rfl TA ?_; (with_reducible refine (laws_heldTurn.calls kj125 _ _ t743 _ _ t744 1 t762 _ ?side1 ?side2 ?side3 ?side4 A183.out).mono ?_); (case side1 => exact CW ((Kd.R_reads' HO_730000.out).2.2)); (case side2 => exact RI HO_730000); (case side3 => exact CW ((Kd.R_reads' HO_730001.out).2.2)); (case side4 => exact RI HO_730001); rintro e w203 ⟨rfl, hb⟩; refine ⟨_, rfl, ?_⟩; replace HO_714000 := RB HO_714000 hb; replace HO_714001 := RB HO_714001 hb; replace HO_721000 := RB HO_721000 hb; replace HO_721001 := RB HO_721001 hb; replace HO_730000 := RB HO_730000 hb; replace HO_730001 := RB HO_730001 hb; replace HO_761000 := RB HO_761000 hb; replace HO_761001 := RB HO_761001 hb; replace BK697 := KB BK697 hb; replace BK713 := KB BK713 hb; replace BK720 := KB BK720 hb; replace BK729 := KB BK729 hb; replace BK760 := KB BK760 hb; replace HB := BS hb; clear hb))
                go_ret
                exact ⟨TE, TB⟩
          ·rw [if_neg c123] at H
           have c123b0 : (t745 == t742) = false := beq_eq_false_iff_ne.mpr c123
           have c123b1 : (t745 != t742) = true := bne_iff_ne.mpr c123
           obtain rfl := Option.some.inj H
           have hnb204 := NB729_697.out
           have hnc204 := NB697_729.out
           have hnb205 := NB729_713.out
           have hnc205 := NB713_729.out
           have hnb206 := NB729_720.out
           have hnc206 := NB720_729.out
           have hcz207 := cz2 BK729
           go_wp2_with (first | ((with_reducible refine gate_callee (f := 34) rfl ?_); refine goesL_ (some 79) rfl rfl Try.func34 KR rfl #[.agg #[.slice Ao35 t721.length co35, .slice Ao40 t724.length co40], .int .i64 1] rfl TA ?_; (with_reducible refine (laws_markTurn.calls kj72 (fun k_ => some k_ = (.slice Ao35 t721.length co35 : Value).ownBlock) (.slice Ao35 t721.length co35) t721 (fun k_ => some k_ = (.slice Ao40 t724.length co40 : Value).ownBlock) (.slice Ao40 t724.length co40) t724 1 t742 t743 t744 w _ ?side1 ?side2 ?side3 ?side4 ?side5 A113.out).mono ?_); (case side1 => repeat (first | (with_reducible first | exact HB.out | apply below_alloc | apply pw_below_drewN | apply below_drew1 | refine below_set ?_ GE697.out | refine below_set ?_ GE713.out | refine below_set ?_ GE720.out | refine below_set ?_ GE729.out) | exact HB.out)); (case side2 => exact Kd.R_tight rfl HO_730000.out); (case side3 => exact fun k_ e_ => (HO_730000.out.1 k_ e_.symm).2.2.2.2); (case side4 => exact Kd.R_tight rfl HO_730001.out); (case side5 => exact fun k_ e_ => (HO_730001.out.1 k_ e_.symm).2.2.2.2); rintro e w208 ⟨rfl, hy0, hy1, hb, hkp⟩; refine ⟨_, rfl, ?_⟩; replace HO_714000 := RK (fun k_ => some k_ ≠ (.slice Ao24 t708.length co24 : Value).ownBlock ∧ some k_ ≠ (.slice Ao28 t739.length co28 : Value).ownBlock ∧ some k_ ≠ (.slice Ao32 t740.length co32 : Value).ownBlock ∧ some k_ ≠ (.slice Ao35 t721.length co35 : Value).ownBlock ∧ some k_ ≠ (.slice Ao40 t724.length co40 : Value).ownBlock) HO_714000 hkp; replace HO_714001 := RK (fun k_ => some k_ ≠ (.slice Ao21 t705.length co21 : Value).ownBlock ∧ some k_ ≠ (.slice Ao28 t739.length co28 : Value).ownBlock ∧ some k_ ≠ (.slice Ao32 t740.length co32 : Value).ownBlock ∧ some k_ ≠ (.slice Ao35 t721.length co35 : Value).ownBlock ∧ some k_ ≠ (.slice Ao40 t724.length co40 : Value).ownBlock) HO_714001 hkp; replace HO_721000 := RK (fun k_ => some k_ ≠ (.slice Ao21 t705.length co21 : Value).ownBlock ∧ some k_ ≠ (.slice Ao24 t708.length co24 : Value).ownBlock ∧ some k_ ≠ (.slice Ao32 t740.length co32 : Value).ownBlock ∧ some k_ ≠ (.slice Ao35 t721.length co35 : Value).ownBlock ∧ some k_ ≠ (.slice Ao40 t724.length co40 : Value).ownBlock) HO_721000 hkp; replace HO_721001 := RK (fun k_ => some k_ ≠ (.slice Ao21 t705.length co21 : Value).ownBlock ∧ some k_ ≠ (.slice Ao24 t708.length co24 : Value).ownBlock ∧ some k_ ≠ (.slice Ao28 t739.length co28 : Value).ownBlock ∧ some k_ ≠ (.slice Ao35 t721.length co35 : Value).ownBlock ∧ some k_ ≠ (.slice Ao40 t724.length co40 : Value).ownBlock) HO_721001 hkp; replace BK697 := Aside0.mk (blk_kept (KW BK697).out hkp (fun hs_ => Or.elim hs_ (fun e_ => (fun e_ => (Kd.R_ne HO_730000.out BK697.out (by decide)) e_) e_) (fun e_ => (fun e_ => (Kd.R_ne HO_730001.out BK697.out (by decide)) e_) e_))); replace BK713 := Aside0.mk (blk_kept (KW BK713).out hkp (fun hs_ => Or.elim hs_ (fun e_ => (fun e_ => (Kd.R_ne HO_730000.out BK713.out (by decide)) e_) e_) (fun e_ => (fun e_ => (Kd.R_ne HO_730001.out BK713.out (by decide)) e_) e_))); replace BK720 := Aside0.mk (blk_kept (KW BK720).out hkp (fun hs_ => Or.elim hs_ (fun e_ => (fun e_ => (Kd.R_ne HO_730000.out BK720.out (by decide)) e_) e_) (fun e_ => (fun e_ => (Kd.R_ne HO_730001.out BK720.out (by decide)) e_) e_))); replace BK729 := Aside0.mk (blk_kept (KW BK729).out hkp (fun hs_ => Or.elim hs_ (fun e_ => (fun e_ => (Kd.R_ne HO_730000.out BK729.out (by decide)) e_) e_) (fun e_ => (fun e_ => (Kd.R_ne HO_730001.out BK729.out (by decide)) e_) e_))); replace HO_730000 := Aside0.mk (Kd.R_reok rfl hy0 (fun k_ e_ => HO_730000.out.1 k_ e_)); replace HO_730001 := Aside0.mk (Kd.R_reok rfl hy1 (fun k_ e_ => HO_730001.out.1 k_ e_)); replace HB := Aside0.mk (hb); clear hb; (try clear hkp); (try clear hy0); (try clear hy1); have hcz209 := cz2 BK729) | ((with_reducible refine gate_callee (f := 35) rfl ?_); refine goesL_ (some 82) rfl rfl Try.func35 KR rfl #[.agg #[.slice Ao35 t743.length co35, .slice Ao40 t744.length co40], .int .i64 1] rfl (by (try simp only [List.map_toArray, List.map_cons, List.map_nil]); first | done | (rw [show t743.length = t721.length from (Kd.R_reads' HO_730000.out).1.symm, show t744.length = t724.length from (Kd.R_reads' HO_730001.out).1.symm] <;> rfl) | rfl | (simp only [List.length_drop, List.length_take]; rfl)) ?_; (with_reducible refine (laws_heldTurn.calls kj72 _ _ t743 _ _ t744 1 t745 _ ?side1 ?side2 ?side3 ?side4 A114.out).mono ?_); (case side1 => exact CW ((Kd.R_reads' HO_730000.out).2.2)); (case side2 => rw [show t743.length = t721.length from (Kd.R_reads' HO_730000.out).1.symm]; exact RI HO_730000); (case side3 => exact CW ((Kd.R_reads' HO_730001.out).2.2)); (case side4 => rw [show t744.length = t724.length from (Kd.R_reads' HO_730001.out).1.symm]; exact RI HO_730001); rintro e w210 ⟨rfl, hb⟩; refine ⟨_, rfl, ?_⟩; replace HO_714000 := RB HO_714000 hb; replace HO_714001 := RB HO_714001 hb; replace HO_721000 := RB HO_721000 hb; replace HO_721001 := RB HO_721001 hb; replace HO_730000 := RB HO_730000 hb; replace HO_730001 := RB HO_730001 hb; replace BK697 := KB BK697 hb; replace BK713 := KB BK713 hb; replace BK720 := KB BK720 hb; replace BK729 := KB BK729 hb; replace HB := BS hb; clear hb))
           go_ret
           exact ⟨TE, TB⟩
     ·replace c71 := Bool.eq_false_iff.mpr c71
      subst c71
      replace H := iff' H
      obtain rfl := Option.some.inj H
      try go_wp2
      replace HO_714000 := Aside0.mk (Kd.R_drew HO_714000.out)
      replace HO_714001 := Aside0.mk (Kd.R_drew HO_714001.out)
      replace HO_721000 := Aside0.mk (Kd.R_drew HO_721000.out)
      replace HO_721001 := Aside0.mk (Kd.R_drew HO_721001.out)
      replace HO_730000 := Aside0.mk (Kd.R_drew HO_730000.out)
      replace HO_730001 := Aside0.mk (Kd.R_drew HO_730001.out)
      replace BK697 := Aside0.mk (blk_drew BK697.out)
      replace BK713 := Aside0.mk (blk_drew BK713.out)
      replace BK720 := Aside0.mk (blk_drew BK720.out)
      replace BK729 := Aside0.mk (blk_drew BK729.out)
      replace HB := Aside0.mk (below_drew1 HB.out)
      refine start_ (n := 5) (S := fun w' => w'.cell? ⟨gb720, 0, none⟩ = some (.slice Ao28 t714.length co28) ∧ w'.cell? ⟨gb720, 1, none⟩ = some (.slice Ao32 t717.length co32) ∧ w'.cell? ⟨gb697, 0, none⟩ = some (.slice A0_0 l0_0.length c0_0) ∧ w'.cell? ⟨gb697, 1, none⟩ = some (.slice A0_1 l0_1.length c0_1)) (ds := []) #[false, false, false, false, false] KR rfl rfl ⟨bc 0 BK720, bc 1 BK720, bc 0 BK697, bc 1 BK697⟩ (fun hHeld => ?_)
      generalize wc.drew = w211 at HO_714000 HO_714001 HO_721000 HO_721001 HO_730000 HO_730001 BK697 BK713 BK720 BK729 HB hHeld ⊢
      refine take_ (i := 0) (N := some 51) (v := ?_) (a' := ?_) #[true, false, false, false, false] rfl rfl KR (fun _ _ _ h => h) (Or.inl ⟨by rfl, ?_⟩) hHeld ?_ ?_
      rotate_left
      ·rintro w' ⟨s0, s1, s2, s3⟩
       go_simp
       with_reducible rfl
      rotate_left
      ·simp only [Act.put, List.setIfInBounds_toArray, List.set_cons_zero, List.set_cons_succ, i64_w, i32_w]
       rfl
      refine take_ (i := 1) (N := some 52) (v := ?_) (a' := ?_) #[true, true, false, false, false] rfl rfl KR (fun _ _ _ h => h) (Or.inl ⟨by rfl, ?_⟩) hHeld ?_ ?_
      rotate_left
      ·rintro w' ⟨s0, s1, s2, s3⟩
       go_simp
       with_reducible rfl
      rotate_left
      ·simp only [Act.put, List.setIfInBounds_toArray, List.set_cons_zero, List.set_cons_succ, i64_w, i32_w]
       rfl
      refine one_ (i := 2) (N := some 53) (mL 5 7) rfl rfl KR (by decide) (fun K hK => ?_)
      refine goes_ Try.func28 KR rfl #[.agg #[.slice A0_0 l0_0.length c0_0, .slice A0_1 l0_1.length c0_1]] (by rfl) rfl rfl TA ?_
      with_reducible refine (laws_toTurn.calls kj10 _ _ l0_0 _ _ l0_1 t731 t734 _ ?side1 ?side2 ?side3 ?side4 A69.out).mono ?_
      (case side1 => exact CW ((Kd.C_below HR0_0.out HB.out)))
      (case side2 => exact HC0_0.out)
      (case side3 => exact CW ((Kd.C_below HR0_1.out HB.out)))
      (case side4 => exact HC0_1.out)
      rintro e w212 ⟨v732, v735, rfl, ho0, ho1, hb⟩
      refine ⟨_, rfl, ?_⟩
      have HO733 := RL (NW (NW (NW (NW (NW (NW ho0 HO_714000) HO_714001) HO_721000) HO_721001) HO_730000) HO_730001)
      have HO736 := RL (NW (NW (NW (NW (NW (NW ho1 HO_714000) HO_714001) HO_721000) HO_721001) HO_730000) HO_730001)
      replace HO_714000 := O2 HO_714000 ho0 ho1 hb
      replace HO_714001 := O2 HO_714001 ho0 ho1 hb
      replace HO_721000 := O2 HO_721000 ho0 ho1 hb
      replace HO_721001 := O2 HO_721001 ho0 ho1 hb
      replace HO_730000 := O2 HO_730000 ho0 ho1 hb
      replace HO_730001 := O2 HO_730001 ho0 ho1 hb
      replace BK697 := KB BK697 hb
      replace BK713 := KB BK713 hb
      replace BK720 := KB BK720 hb
      replace BK729 := KB BK729 hb
      replace HB := BS hb
      (try clear hb)
      (try clear hb2)
      (try clear hk)
      (try clear hi)
      (try clear ho0)
      (try clear ho1)
      obtain ⟨Ao213, co213, eo213⟩ := Kd.R_slice HO733.out
      (first | subst eo213 | (injection eo213 with f1_ f2_ f3_; have f4_ := f1_.symm; have f5_ := f3_.symm; clear f1_ f2_ f3_; subst f4_; subst f5_))
      obtain ⟨Ao214, co214, eo214⟩ := Kd.R_slice HO736.out
      (first | subst eo214 | (injection eo214 with f1_ f2_ f3_; have f4_ := f1_.symm; have f5_ := f3_.symm; clear f1_ f2_ f3_; subst f4_; subst f5_))
      refine hK.out _ _ ⟨bc 0 BK720, bc 1 BK720, bc 0 BK697, bc 1 BK697⟩ (fun hHeld => ?_)
      clear hK K
      refine nA ?_
      refine one_ (i := 3) (N := some 54) (mL 5 15) rfl rfl KR (by decide) (fun K hK => ?_)
      refine goes_ Try.func30 KR rfl #[.agg #[.slice Ao28 t714.length co28, .slice Ao32 t717.length co32], .agg #[.slice Ao213 t731.length co213, .slice Ao214 t734.length co214]] (by rfl) rfl rfl TA ?_
      with_reducible refine (laws_eqTurn.calls kj10 _ _ t714 _ _ t717 _ _ t731 _ _ t734 false _ ?side1 ?side2 ?side3 ?side4 ?side5 ?side6 ?side7 ?side8 A70.out).mono ?_
      (case side1 => exact CW ((Kd.R_reads' HO_721000.out).2.2))
      (case side2 => exact RI HO_721000)
      (case side3 => exact CW ((Kd.R_reads' HO_721001.out).2.2))
      (case side4 => exact RI HO_721001)
      (case side5 => exact CW ((Kd.R_reads' HO733.out).2.2))
      (case side6 => exact RI HO733)
      (case side7 => exact CW ((Kd.R_reads' HO736.out).2.2))
      (case side8 => exact RI HO736)
      rintro e w215 ⟨rfl, hb⟩
      refine ⟨_, rfl, ?_⟩
      replace HO_714000 := RB HO_714000 hb
      replace HO_714001 := RB HO_714001 hb
      replace HO_721000 := RB HO_721000 hb
      replace HO_721001 := RB HO_721001 hb
      replace HO_730000 := RB HO_730000 hb
      replace HO_730001 := RB HO_730001 hb
      replace HO733 := RB HO733 hb
      replace HO736 := RB HO736 hb
      replace BK697 := KB BK697 hb
      replace BK713 := KB BK713 hb
      replace BK720 := KB BK720 hb
      replace BK729 := KB BK729 hb
      replace HB := BS hb
      (try clear hb)
      (try clear hb2)
      (try clear hk)
      (try clear hi)
      refine hK.out _ _ ⟨bc 0 BK720, bc 1 BK720, bc 0 BK697, bc 1 BK697⟩ (fun hHeld => ?_)
      clear hK K
      refine nA ?_
      refine pure_ (i := 4) (N := some 55) (v := ?_) (a' := ?_) #[true, true, true, true, true] rfl rfl KR (fun _ _ _ h => h) (Or.inl ⟨by rfl, ?_⟩) ?_ ?_
      rotate_left
      ·intro w'
       go_simp
       with_reducible rfl
      rotate_left
      ·simp only [Act.put, List.setIfInBounds_toArray, List.set_cons_zero, List.set_cons_succ, i64_w, i32_w]
       rfl
      refine done_ KR ?_
      try go_wp2
      go_ret
      exact ⟨TE, TB⟩

/-- THE ONE PURE STATEMENT of laws_FnExactNextTurn. -/
def laws_FnExactNextTurn.Pure : Prop := ∀ (l0_0 : List Int) (l0_1 : List Int), (l0_0.length ≤ maxLen ∧ ∀ x_ ∈ l0_0, (Lit.int .i64 x_).wf = true) → (l0_1.length ≤ maxLen ∧ ∀ x_ ∈ l0_1, (Lit.int .i64 x_).wf = true) → ∃ k, laws_FnExactNextTurn.f k l0_0 l0_1 = some true
end
section
/-! ### impl_NewTurn: function 32 -/
def impl_NewTurn.f (k : Nat) (l0 : List Int) : Option (List Int × List Int × Bool) := (impl_GoodWeights.f k l0).bind fun t584 => (if t584 = true then ((slices_Clone_int_int.f l0).bind fun t585 => (if 0 ≤ (l0.length : Int) then (if ((l0.length : Int) : Int).toNat ≤ 35184372088832 then (some (t585, (List.replicate ((l0.length : Int) : Int).toNat 0), true)) else (none)) else (none))) else (some (([] : List Int), ([] : List Int), false)))
def impl_NewTurn.T3 : Bool × List (List Nat × List Nat) := (true, [([], []), ([0], [0]), ([], []), ([2], [2]), ([3, 3], [3]), ([1, 4], [1, 4]), ([5, 1, 0, 1, 2, 3, 4, 5], [5]), ([6, 0, 1, 2, 3, 4, 5, 6], [])])
def impl_NewTurn.B3 : List Nat := [0, 1, 0, 4, 12, 31, 63, 127]
theorem impl_NewTurn.tab3 : rtab .any (opsOf Try.f32 3) = impl_NewTurn.T3 := by kernel_rfl
theorem impl_NewTurn.bits3 : waitsOk impl_NewTurn.T3.2 impl_NewTurn.B3 = true := by kernel_rfl
theorem impl_NewTurn.calls (k : Nat) (A0 : Option Addr) (c0 : Nat) (l0 : List Int) (r1 : List Int) (r2 : List Int) (r3 : Bool) (w : World) (hr0 : Kd.C (Kd.int .i64) w A0 l0.length l0) (hc0 : l0.length ≤ c0) (h : impl_NewTurn.f k l0 = some (r1, r2, r3)) :
  Calls Try.prog 32 #[.slice A0 l0.length c0] w fun e w' => ∃ v0_ v1_ : Value, e = .returned (.tuple #[.agg #[v0_, v1_], .bool r3]) ∧ Kd.R (Kd.int .i64) 3 w' w.heap.size (fun k_ => some k_ ≠ (v1_ : Value).ownBlock) v0_ r1 ∧ Kd.R (Kd.int .i64) 3 w' w.heap.size (fun k_ => some k_ ≠ (v0_ : Value).ownBlock) v1_ r2 ∧ Below w.heap.size w w' := by
 have hu40 := Try.underlying40
 have HR0 := Aside0.mk hr0
 have HC0 := Aside0.mk hc0
 clear hr0 hc0
 have HB := Aside0.mk (Below.refl w.heap.size w)
 have H : ((impl_GoodWeights.f k l0).bind fun t584 => (if t584 = true then ((slices_Clone_int_int.f l0).bind fun t585 => (if 0 ≤ (l0.length : Int) then (if ((l0.length : Int) : Int).toNat ≤ 35184372088832 then (some (t585, (List.replicate ((l0.length : Int) : Int).toNat 0), true)) else (none)) else (none))) else (some (([] : List Int), ([] : List Int), false)))) = some (r1, r2, r3) := h
 clear h
 obtain ⟨t584, A2, H⟩ := bnd H
 by_cases c3 : t584 = true
 ·subst c3
  replace H := ift H
  obtain ⟨t585, A4, H⟩ := bnd H
  obtain ⟨c5, H⟩ := ifn H
  have c5b0 := eq_true c5
  have c5b1 : decide (0 ≤ (l0.length : Int)) = true := decide_eq_true c5
  clear c5
  obtain ⟨c6, H⟩ := ifn H
  have c6b0 := eq_true c6
  have c6b1 : decide (((l0.length : Int) : Int).toNat ≤ 35184372088832) = true := decide_eq_true c6
  clear c6
  obtain ⟨y588, hy588⟩ : ∃ y_ : List Int, y_ = (List.replicate ((l0.length : Int) : Int).toNat 0) := ⟨_, rfl⟩
  replace H : (some (t585, y588, true)) = some (r1, r2, r3) := by first | (rw [hy588]; with_reducible exact H) | (have H2_ := (Option.bind_some _ _).symm.trans H; rw [hy588]; with_reducible exact H2_) | (have H2_ := (Option.bind_some _ _).symm.trans H; with_reducible exact H2_) | with_reducible exact H | (rw [hy588]; exact H) | exact H
  have Ny588 := Aside0.mk hy588
  clear hy588
  simp only [Option.some.injEq, Prod.mk.injEq] at H
  obtain ⟨rfl, rfl, rfl⟩ := H
  go_enter Try.func32, Try.ntmps32
  try go_wp2_with (first | ((with_reducible refine gate_dst (N := 2) rfl ?_); refine bE 2 #[.slice none 0 0, .slice none 0 0] 40 ?_; intro gb583 hg w7 hbox hb; have BK583 := Aside0.mk (hbox); have GE583 := bG hg; replace HB := BS hb; clear hb hbox hg) | ((with_reducible refine gate_callee (f := 17) rfl ?_); refine goesL_ (some 5) rfl rfl Try.func17 KR rfl #[.slice A0 l0.length c0] rfl TA ?_; (with_reducible refine (impl_GoodWeights.calls k _ _ l0 true _ ?side1 ?side2 A2.out).mono ?_); (case side1 => exact CW ((Kd.C_below HR0.out HB.out))); (case side2 => exact HC0.out); rintro e w' ⟨rfl, ⟨nd, rfl⟩⟩; refine ⟨_, rfl, ?_⟩; (try (rw [drewN_self w7]; generalize hq_ : World.drewN w7 _ = w7; have n0_ : Aside0 (w7.heap[gb583]? = some (.cells #[.slice none 0 0, .slice none 0 0] 40 (0, 0))) := ⟨by rw [← hq_]; exact (KW BK583).out⟩; have n1_ : Aside0 (Below w.heap.size w w7) := ⟨by rw [← hq_]; exact TB⟩; clear BK583 HB hq_; have BK583 := n0_; have HB := n1_; clear n0_ n1_))))
  replace BK583 := Aside0.mk (blk_drew BK583.out)
  replace HB := Aside0.mk (below_drew1 HB.out)
  refine start_ (n := 8) (S := fun w' => True) (ds := []) #[false, false, false, false, false, false, false, false] KR rfl rfl trivial (fun hHeld => ?_); refine with_tabW impl_NewTurn.tab3 impl_NewTurn.bits3 (fun HT_ HW_ => ?_)
  generalize w7.drew = w8 at BK583 HB hHeld ⊢
  refine pA 0 8 (mL 8 1) HT_ rfl rfl ?_
  refine pA 2 10 (mL 8 5) HT_ rfl rfl ?_
  refine pA 3 11 (mL 8 13) HT_ rfl rfl ?_
  refine join_ (σ := Value × Value) 3 #[true, true, true, true, true, false, false, false] (fun s_ => [(9, s_.1), (12, s_.2)]) (fun s_ w' => (Kd.R (Kd.int .i64) 3 w' w.heap.size (fun k_ => some k_ ≠ (s_.2 : Value).ownBlock) s_.1 t585) ∧ (Kd.R (Kd.int .i64) 3 w' w.heap.size (fun k_ => some k_ ≠ (s_.1 : Value).ownBlock) s_.2 y588) ∧ (w'.heap[gb583]? = some (.cells #[.slice none 0 0, .slice none 0 0] 40 (0, 0))) ∧ (Below w.heap.size w w')) ?_ ?_
  rotate_left
  ·intro hCont
   refine two_ (i := 1) (j := 4) (Ni := some 9) (Nj := some 12) #[true, true, true, true, false, false, false, false] #[true, false, true, true, true, false, false, false] rfl rfl rfl rfl (two_of HT_.out KR) (by decide) (by decide) (fun K hK => ?_) (fun K hK => ?_)
   ·skip
    refine goes_ Try.func72 KR rfl #[.slice A0 l0.length c0] (by rfl) rfl rfl TA ?_
    with_reducible refine (slices_Clone_int_int.calls _ _ l0 t585 _ ?side1 ?side2 A4.out).mono ?_
    (case side1 => exact CW ((Kd.C_below HR0.out HB.out)))
    (case side2 => exact HC0.out)
    rintro e w9 ⟨v586, rfl, ho0, hb⟩
    refine ⟨_, rfl, ?_⟩
    have HO587 := RL ho0
    replace BK583 := KB BK583 hb
    replace HB := BS hb
    (try clear hb)
    (try clear hb2)
    (try clear hk)
    (try clear hi)
    (try clear ho0)
    refine hK.out _ _ trivial (fun hHeld => ?_)
    clear hK K
    refine nA ?_
    refine one_ (i := 4) (N := some 12) (mL 8 31) rfl rfl (one_of HT_.out KR) (by decide) (fun K hK => ?_)
    refine Kd.R_make_step (Kd.int .i64) _ 3 (by rfl) (N := 12) rfl 22 _ _ rfl (l0.length : Int) rfl rfl Try.underlying22 (.int .i64 0) 8 info3 rfl (by decide) (by omega) 0 (ok := fun _ => True) (okp := fun _ => True) rfl (fun _ hk => hk) trivial TD (Nat.le_trans (Nat.mul_le_mul_right _ (TD : (l0.length : Int).toNat ≤ 35184372088832)) (by omega)) (Below.refl _ _) (Nat.le_refl _) ?_
    intro v589 w10 ho11 hb hg_ hnew_
    clear hg_ hnew_
    (first | rw [← Ny588.out] at ho11 | (simp only [Int.reduceToNat] at ho11; rw [← Ny588.out] at ho11))
    have HO590 := RL (NW ho11 HO587)
    replace HO587 := EL HO587 ho11 hb
    replace BK583 := KB BK583 hb
    replace HB := BS hb
    clear hb ho11
    obtain ⟨Ao12, co12, eo12⟩ := Kd.R_slice HO590.out
    (first | subst eo12 | (injection eo12 with f1_ f2_ f3_; have f4_ := f1_.symm; have f5_ := f3_.symm; clear f1_ f2_ f3_; subst f4_; subst f5_))
    obtain ⟨Ao13, co13, eo13⟩ := Kd.R_slice HO587.out
    (first | subst eo13 | (injection eo13 with f1_ f2_ f3_; have f4_ := f1_.symm; have f5_ := f3_.symm; clear f1_ f2_ f3_; subst f4_; subst f5_))
    refine hK.out _ _ trivial (fun hHeld => ?_)
    clear hK K
    refine nA ?_
    exact norm_ (by simp only [putAll, Act.put, List.setIfInBounds_toArray, List.set_cons_zero, List.set_cons_succ]) (hCont (.slice Ao13 t585.length co13, .slice Ao12 y588.length co12) _ ⟨(MO HO587).out, (MO HO590).out, (KW BK583).out, TB⟩)
   ·skip
    refine Kd.R_make_step (Kd.int .i64) _ 3 (by rfl) (N := 12) rfl 22 _ _ rfl (l0.length : Int) rfl rfl Try.underlying22 (.int .i64 0) 8 info3 rfl (by decide) (by omega) 0 (ok := fun _ => True) (okp := fun _ => True) rfl (fun _ hk => hk) trivial TD (Nat.le_trans (Nat.mul_le_mul_right _ (TD : (l0.length : Int).toNat ≤ 35184372088832)) (by omega)) (Below.refl _ _) (Nat.le_refl _) ?_
    intro v589 w9 ho10 hb hg_ hnew_
    clear hg_ hnew_
    (first | rw [← Ny588.out] at ho10 | (simp only [Int.reduceToNat] at ho10; rw [← Ny588.out] at ho10))
    have HO590 := RL ho10
    replace BK583 := KB BK583 hb
    replace HB := BS hb
    clear hb ho10
    refine hK.out _ _ trivial (fun hHeld => ?_)
    clear hK K
    refine nA ?_
    refine one_ (i := 1) (N := some 9) (mL 8 31) rfl rfl (one_of HT_.out KR) (by decide) (fun K hK => ?_)
    refine goes_ Try.func72 KR rfl #[.slice A0 l0.length c0] (by rfl) rfl rfl TA ?_
    with_reducible refine (slices_Clone_int_int.calls _ _ l0 t585 _ ?side1 ?side2 A4.out).mono ?_
    (case side1 => exact CW ((Kd.C_below HR0.out HB.out)))
    (case side2 => exact HC0.out)
    rintro e w11 ⟨v586, rfl, ho0, hb⟩
    refine ⟨_, rfl, ?_⟩
    have HO587 := RL (NW ho0 HO590)
    replace HO590 := EL HO590 ho0 hb
    replace BK583 := KB BK583 hb
    replace HB := BS hb
    (try clear hb)
    (try clear hb2)
    (try clear hk)
    (try clear hi)
    (try clear ho0)
    obtain ⟨Ao12, co12, eo12⟩ := Kd.R_slice HO590.out
    (first | subst eo12 | (injection eo12 with f1_ f2_ f3_; have f4_ := f1_.symm; have f5_ := f3_.symm; clear f1_ f2_ f3_; subst f4_; subst f5_))
    obtain ⟨Ao13, co13, eo13⟩ := Kd.R_slice HO587.out
    (first | subst eo13 | (injection eo13 with f1_ f2_ f3_; have f4_ := f1_.symm; have f5_ := f3_.symm; clear f1_ f2_ f3_; subst f4_; subst f5_))
    refine hK.out _ _ trivial (fun hHeld => ?_)
    clear hK K
    refine nA ?_
    exact norm_ (by simp only [putAll, Act.put, List.setIfInBounds_toArray, List.set_cons_zero, List.set_cons_succ]) (hCont (.slice Ao13 t585.length co13, .slice Ao12 y588.length co12) _ ⟨(MO HO587).out, (MO HO590).out, (KW BK583).out, TB⟩)
  rintro ⟨v586, v589⟩ w14 ⟨h0_, h1_, h2_, h3_⟩
  have n0_ : Aside0 (Kd.R (Kd.int .i64) 3 w14 w.heap.size (fun k_ => some k_ ≠ (v589 : Value).ownBlock) v586 t585) := ⟨h0_⟩
  have n1_ : Aside0 (Kd.R (Kd.int .i64) 3 w14 w.heap.size (fun k_ => some k_ ≠ (v586 : Value).ownBlock) v589 y588) := ⟨h1_⟩
  have n2_ : Aside0 (w14.heap[gb583]? = some (.cells #[.slice none 0 0, .slice none 0 0] 40 (0, 0))) := ⟨h2_⟩
  have n3_ : Aside0 (Below w.heap.size w w14) := ⟨h3_⟩
  clear BK583
  clear HB
  clear h0_ h1_ h2_ h3_
  have HO587 := n0_
  have HO590 := n1_
  have BK583 := n2_
  have HB := n3_
  clear n0_ n1_ n2_ n3_
  have hHeld := trivial
  obtain ⟨Ao15, co15, eo15⟩ := Kd.R_slice HO590.out
  (first | subst eo15 | (injection eo15 with f1_ f2_ f3_; have f4_ := f1_.symm; have f5_ := f3_.symm; clear f1_ f2_ f3_; subst f4_; subst f5_))
  obtain ⟨Ao16, co16, eo16⟩ := Kd.R_slice HO587.out
  (first | subst eo16 | (injection eo16 with f1_ f2_ f3_; have f4_ := f1_.symm; have f5_ := f3_.symm; clear f1_ f2_ f3_; subst f4_; subst f5_))
  refine norm_ (a' := ?_) ?_ ?_
  rotate_left
  ·simp only [putAll, Act.put, List.setIfInBounds_toArray, List.set_cons_zero, List.set_cons_succ]
   rfl
  refine pA 5 13 (mL 8 63) HT_ rfl rfl ?_
  refine one_ (i := 6) (N := none) (mL 8 127) rfl rfl (one_of HT_.out KR) (by decide) (fun K hK => ?_)
  have hs17 := bc 0 BK583
  have hfs17 := blk_frozen BK583.out 0
  have hs18 := bc 1 BK583
  have hfs18 := blk_frozen BK583.out 1
  refine skip_ (w1 := ?_) (by rfl) rfl ?_ ?_
  rotate_left
  ·go_simp
   rfl
  refine hK.out _ _ trivial (fun hHeld => ?_)
  clear hK K
  refine pA 7 3 (mL 8 255) HT_ rfl rfl ?_
  refine done_ (done_of HT_.out KR) ?_
  try go_wp2
  refine bodyPost_ret (results_ct rfl _ _ gb583 40 #[.slice Ao16 t585.length co16, .slice Ao15 y588.length co15] (0, 0) _ rfl (by (with_reducible repeat (first | refine blk_drewN ?_ _ | refine blk_drew ?_ | refine blk_alloc ?_ _)); refine blk_put (cs := #[.slice Ao16 t585.length co16, .slice none 0 0]) ?_ 1 _ rfl; (with_reducible repeat (first | refine blk_drewN ?_ _ | refine blk_drew ?_ | refine blk_alloc ?_ _)); refine blk_put (cs := #[.slice none 0 0, .slice none 0 0]) ?_ 0 _ rfl; (with_reducible repeat (first | refine blk_drewN ?_ _ | refine blk_drew ?_ | refine blk_alloc ?_ _)); exact BK583.out) Try.underlying40 rfl KR) rfl ?_
  exact ⟨_, _, TE, by (with_reducible repeat (first | apply Kd.R_alloc | apply Kd.R_drewN | apply Kd.R_drew)); exact Kd.R_mono (Kd.R_far (p := ⟨gb583, 1, none⟩) (Kd.R_far (p := ⟨gb583, 0, none⟩) (Kd.R_types HO587.out BK583.out (by decide)) (fun _ hk => hk.2) (.slice Ao16 t585.length co16)) (fun _ hk => hk.2) (.slice Ao15 y588.length co15)) (fun _ hk => hk.1), by (with_reducible repeat (first | apply Kd.R_alloc | apply Kd.R_drewN | apply Kd.R_drew)); exact Kd.R_mono (Kd.R_far (p := ⟨gb583, 1, none⟩) (Kd.R_far (p := ⟨gb583, 0, none⟩) (Kd.R_types HO590.out BK583.out (by decide)) (fun _ hk => hk.2) (.slice Ao16 t585.length co16)) (fun _ hk => hk.2) (.slice Ao15 y588.length co15)) (fun _ hk => hk.1), TB⟩
 ·replace c3 := Bool.eq_false_iff.mpr c3
  subst c3
  replace H := iff' H
  simp only [Option.some.injEq, Prod.mk.injEq] at H
  obtain ⟨rfl, rfl, rfl⟩ := H
  go_enter Try.func32, Try.ntmps32
  go_wp2_with (first | ((with_reducible refine gate_dst (N := 2) rfl ?_); refine bE 2 #[.slice none 0 0, .slice none 0 0] 40 ?_; intro gb583 hg w19 hbox hb; have BK583 := Aside0.mk (hbox); have GE583 := bG hg; replace HB := BS hb; clear hb hbox hg) | ((with_reducible refine gate_callee (f := 17) rfl ?_); refine goesL_ (some 5) rfl rfl Try.func17 KR rfl #[.slice A0 l0.length c0] rfl TA ?_; (with_reducible refine (impl_GoodWeights.calls k _ _ l0 false _ ?side1 ?side2 A2.out).mono ?_); (case side1 => exact CW ((Kd.C_below HR0.out HB.out))); (case side2 => exact HC0.out); rintro e w' ⟨rfl, ⟨nd, rfl⟩⟩; refine ⟨_, rfl, ?_⟩; (try (rw [drewN_self w19]; generalize hq_ : World.drewN w19 _ = w19; have n0_ : Aside0 (w19.heap[gb583]? = some (.cells #[.slice none 0 0, .slice none 0 0] 40 (0, 0))) := ⟨by rw [← hq_]; exact (KW BK583).out⟩; have n1_ : Aside0 (Below w.heap.size w w19) := ⟨by rw [← hq_]; exact TB⟩; clear BK583 HB hq_; have BK583 := n0_; have HB := n1_; clear n0_ n1_)); have hcz20 := cz2 BK583))
  refine bodyPost_ret (results_ct rfl _ _ gb583 40 #[.slice none 0 0, .slice none 0 0] (0, 0) _ rfl (by (with_reducible repeat (first | refine blk_drewN ?_ _ | refine blk_drew ?_ | refine blk_alloc ?_ _)); refine blk_put (cs := #[.slice none 0 0, .slice none 0 0]) ?_ 1 _ rfl; (with_reducible repeat (first | refine blk_drewN ?_ _ | refine blk_drew ?_ | refine blk_alloc ?_ _)); refine blk_put (cs := #[.slice none 0 0, .slice none 0 0]) ?_ 0 _ rfl; (with_reducible repeat (first | refine blk_drewN ?_ _ | refine blk_drew ?_ | refine blk_alloc ?_ _)); exact BK583.out) Try.underlying40 rfl KR) rfl ?_
  exact ⟨_, _, TE, TZ, TZ, TB⟩
end
section
/-! ### spec_NewTurn: function 31 -/
def spec_NewTurn.f (k : Nat) (l0 : List Int) : Option (List Int × List Int × Bool) := (spec_GoodWeights.f k l0).bind fun t567 => (if t567 = true then ((some (([] : List Int) : List Int)).bind fun y568 => (if y568.length + l0.length < 17592186044416 then (if 0 ≤ (l0.length : Int) then (if ((l0.length : Int) : Int).toNat ≤ 35184372088832 then (some ((y568 ++ l0), (List.replicate ((l0.length : Int) : Int).toNat 0), true)) else (none)) else (none)) else (none))) else (some (([] : List Int), ([] : List Int), false)))
def spec_NewTurn.T3 : Bool × List (List Nat × List Nat) := (true, [([], []), ([], []), ([0, 1], [0, 1]), ([], []), ([3], [3]), ([4, 4], [4]), ([2, 5], [2, 5]), ([6, 2, 0, 1, 2, 3, 4, 5, 6], [6]), ([7, 0, 1, 2, 3, 4, 5, 6, 7], [])])
def spec_NewTurn.B3 : List Nat := [0, 0, 3, 0, 8, 24, 63, 127, 255]
theorem spec_NewTurn.tab3 : rtab .any (opsOf Try.f31 3) = spec_NewTurn.T3 := by kernel_rfl
theorem spec_NewTurn.bits3 : waitsOk spec_NewTurn.T3.2 spec_NewTurn.B3 = true := by kernel_rfl
theorem spec_NewTurn.calls (k : Nat) (A0 : Option Addr) (c0 : Nat) (l0 : List Int) (r1 : List Int) (r2 : List Int) (r3 : Bool) (w : World) (hr0 : Kd.C (Kd.int .i64) w A0 l0.length l0) (hc0 : l0.length ≤ c0) (h : spec_NewTurn.f k l0 = some (r1, r2, r3)) :
  Calls Try.prog 31 #[.slice A0 l0.length c0] w fun e w' => ∃ v0_ v1_ : Value, e = .returned (.tuple #[.agg #[v0_, v1_], .bool r3]) ∧ Kd.R (Kd.int .i64) 3 w' w.heap.size (fun k_ => some k_ ≠ (v1_ : Value).ownBlock) v0_ r1 ∧ Kd.R (Kd.int .i64) 3 w' w.heap.size (fun k_ => some k_ ≠ (v0_ : Value).ownBlock) v1_ r2 ∧ Below w.heap.size w w' := by
 have hu40 := Try.underlying40
 have HR0 := Aside0.mk hr0
 have HC0 := Aside0.mk hc0
 clear hr0 hc0
 have HB := Aside0.mk (Below.refl w.heap.size w)
 have H : ((spec_GoodWeights.f k l0).bind fun t567 => (if t567 = true then ((some (([] : List Int) : List Int)).bind fun y568 => (if y568.length + l0.length < 17592186044416 then (if 0 ≤ (l0.length : Int) then (if ((l0.length : Int) : Int).toNat ≤ 35184372088832 then (some ((y568 ++ l0), (List.replicate ((l0.length : Int) : Int).toNat 0), true)) else (none)) else (none)) else (none))) else (some (([] : List Int), ([] : List Int), false)))) = some (r1, r2, r3) := h
 clear h
 obtain ⟨t567, A2, H⟩ := bnd H
 by_cases c3 : t567 = true
 ·subst c3
  replace H := ift H
  obtain ⟨y568, hy568⟩ : ∃ y_ : List Int, y_ = (([] : List Int)) := ⟨_, rfl⟩
  replace H : (if y568.length + l0.length < 17592186044416 then (if 0 ≤ (l0.length : Int) then (if ((l0.length : Int) : Int).toNat ≤ 35184372088832 then (some ((y568 ++ l0), (List.replicate ((l0.length : Int) : Int).toNat 0), true)) else (none)) else (none)) else (none)) = some (r1, r2, r3) := by first | (rw [hy568]; with_reducible exact H) | (have H2_ := (Option.bind_some _ _).symm.trans H; rw [hy568]; with_reducible exact H2_) | (have H2_ := (Option.bind_some _ _).symm.trans H; with_reducible exact H2_) | with_reducible exact H | (rw [hy568]; exact H) | exact H
  have Ny568 := Aside0.mk hy568
  clear hy568
  obtain ⟨c4, H⟩ := ifn H
  have LMc4 := Aside0.mk c4
  clear c4
  obtain ⟨y571, hy571⟩ : ∃ y_ : List Int, y_ = (y568 ++ l0) := ⟨_, rfl⟩
  replace H : (if 0 ≤ (l0.length : Int) then (if ((l0.length : Int) : Int).toNat ≤ 35184372088832 then (some (y571, (List.replicate ((l0.length : Int) : Int).toNat 0), true)) else (none)) else (none)) = some (r1, r2, r3) := by first | (rw [hy571]; with_reducible exact H) | (have H2_ := (Option.bind_some _ _).symm.trans H; rw [hy571]; with_reducible exact H2_) | (have H2_ := (Option.bind_some _ _).symm.trans H; with_reducible exact H2_) | with_reducible exact H | (rw [hy571]; exact H) | exact H
  have Ny571 := Aside0.mk hy571
  clear hy571
  obtain ⟨c5, H⟩ := ifn H
  have c5b0 := eq_true c5
  have c5b1 : decide (0 ≤ (l0.length : Int)) = true := decide_eq_true c5
  clear c5
  obtain ⟨c6, H⟩ := ifn H
  have c6b0 := eq_true c6
  have c6b1 : decide (((l0.length : Int) : Int).toNat ≤ 35184372088832) = true := decide_eq_true c6
  clear c6
  obtain ⟨y574, hy574⟩ : ∃ y_ : List Int, y_ = (List.replicate ((l0.length : Int) : Int).toNat 0) := ⟨_, rfl⟩
  replace H : (some (y571, y574, true)) = some (r1, r2, r3) := by first | (rw [hy574]; with_reducible exact H) | (have H2_ := (Option.bind_some _ _).symm.trans H; rw [hy574]; with_reducible exact H2_) | (have H2_ := (Option.bind_some _ _).symm.trans H; with_reducible exact H2_) | with_reducible exact H | (rw [hy574]; exact H) | exact H
  have Ny574 := Aside0.mk hy574
  clear hy574
  simp only [Option.some.injEq, Prod.mk.injEq] at H
  obtain ⟨rfl, rfl, rfl⟩ := H
  go_enter Try.func31, Try.ntmps31
  try go_wp2_with (first | ((with_reducible refine gate_dst (N := 2) rfl ?_); refine bE 2 #[.slice none 0 0, .slice none 0 0] 40 ?_; intro gb566 hg w7 hbox hb; have BK566 := Aside0.mk (hbox); have GE566 := bG hg; replace HB := BS hb; clear hb hbox hg) | ((with_reducible refine gate_callee (f := 15) rfl ?_); refine goesL_ (some 5) rfl rfl Try.func15 KR rfl #[.slice A0 l0.length c0] rfl TA ?_; (with_reducible refine (spec_GoodWeights.calls k _ _ l0 true _ ?side1 ?side2 A2.out).mono ?_); (case side1 => exact CW ((Kd.C_below HR0.out HB.out))); (case side2 => exact HC0.out); rintro e w' ⟨rfl, ⟨nd, rfl⟩⟩; refine ⟨_, rfl, ?_⟩; (try (rw [drewN_self w7]; generalize hq_ : World.drewN w7 _ = w7; have n0_ : Aside0 (w7.heap[gb566]? = some (.cells #[.slice none 0 0, .slice none 0 0] 40 (0, 0))) := ⟨by rw [← hq_]; exact (KW BK566).out⟩; have n1_ : Aside0 (Below w.heap.size w w7) := ⟨by rw [← hq_]; exact TB⟩; clear BK566 HB hq_; have BK566 := n0_; have HB := n1_; clear n0_ n1_))))
  replace BK566 := Aside0.mk (blk_drew BK566.out)
  replace HB := Aside0.mk (below_drew1 HB.out)
  refine start_ (n := 9) (S := fun w' => True) (ds := []) #[false, false, false, false, false, false, false, false, false] KR rfl rfl trivial (fun hHeld => ?_); refine with_tabW spec_NewTurn.tab3 spec_NewTurn.bits3 (fun HT_ HW_ => ?_)
  generalize w7.drew = w8 at BK566 HB hHeld ⊢
  refine pA 1 9 (mL 9 2) HT_ rfl rfl ?_
  refine pA 3 11 (mL 9 10) HT_ rfl rfl ?_
  refine pA 4 12 (mL 9 26) HT_ rfl rfl ?_
  refine join_ (σ := Value × Value × Value) 3 #[true, true, true, true, true, true, false, false, false] (fun s_ => [(8, s_.1), (10, s_.2.1), (13, s_.2.2)]) (fun s_ w' => (Kd.R (Kd.int .i64) 3 w' w.heap.size (fun k_ => some k_ ≠ (s_.2.2 : Value).ownBlock) s_.2.1 y571) ∧ (Kd.R (Kd.int .i64) 3 w' w.heap.size (fun k_ => some k_ ≠ (s_.2.1 : Value).ownBlock) s_.2.2 y574) ∧ (w'.heap[gb566]? = some (.cells #[.slice none 0 0, .slice none 0 0] 40 (0, 0))) ∧ (Below w.heap.size w w')) ?_ ?_
  rotate_left
  ·intro hCont
   refine two_ (i := 0) (j := 5) (Ni := some 8) (Nj := some 13) #[true, true, false, true, true, false, false, false, false] #[false, true, false, true, true, true, false, false, false] rfl rfl rfl rfl (two_of HT_.out KR) (by decide) (by decide) (fun K hK => ?_) (fun K hK => ?_)
   ·skip
    refine Kd.R_lit_step (Kd.int .i64) _ 3 ?hg (N := 8) ?hd (xs := ([] : List Int)) (inner := []) (ok := fun _ => True) (okp := fun _ => True) ?hr ?hp (fun _ hk => hk) trivial (Below.refl _ _) (Nat.le_refl _) (by simp) ?_; (case hd => rfl); (case hg => rfl); (case hr => first | (go_simp; done) | (go_simp; rfl)); (case hp => exact (Reps.none _ _))
    intro v569 w9 ho10 hb hg_ hnew_
    clear hg_ hnew_
    (first | rw [← Ny568.out] at ho10 | (simp only [Int.reduceToNat] at ho10; rw [← Ny568.out] at ho10))
    have HO570 := RL ho10
    replace BK566 := KB BK566 hb
    replace HB := BS hb
    clear hb ho10
    refine hK.out _ _ trivial (fun hHeld => ?_)
    clear hK K
    refine nA ?_
    refine two_ (i := 2) (j := 5) (Ni := some 10) (Nj := some 13) #[true, true, true, true, true, false, false, false, false] #[true, true, false, true, true, true, false, false, false] rfl rfl rfl rfl (two_of HT_.out KR) (by decide) (by decide) (fun K hK => ?_) (fun K hK => ?_)
    ·skip
     refine Kd.R_append_rows_step (Kd.int .i64) (w0 := w) w.heap.size (by rfl) (.tmp 8) (.tmp 9) 22 3 (.int .i64 0) 8 rfl Try.underlying22 info3 rfl (by decide) (by omega) v569 y568 l0 _ _ _ (fun _ => True) (fun _ => False) rfl rfl ?aO ?aR (fun _ _ h => h) (fun _ h => h.elim) ?aF ?aB ?aS ?aL ?_
     (case aR => repeat (first | exact (Kd.C_below HR0.out HB.out) | (with_reducible refine Kd.C_alloc ?_ _) | (with_reducible refine Kd.C_drewN ?_ _) | (with_reducible refine Kd.C_drew ?_)))
     (case aB => exact TB)
     (case aF => exact (fun _ _ => trivial))
     (case aO => exact (RW HO570).out)
     (case aS => exact (below_size TB))
     (case aL => have := LMc4.out; omega)
     intro v572 w11 ho hb hg hat
     rw [← Ny571.out] at ho
     have n0_ := Aside0.mk (blk_grown (g := gb566) (o := .cells #[.slice none 0 0, .slice none 0 0] 40 (0, 0)) (KW BK566).out hg (Kd.R_ne HO570.out BK566.out (by decide)))
     have n1_ := Aside0.mk (hb)
     have n2_ := Aside0.mk (ho)
     clear BK566
     clear HB
     clear HO570
     have BK566 := n0_
     have HB := n1_
     have HO573 := n2_
     clear n0_ n1_ n2_
     clear ho hb hg hat
     refine hK.out _ _ trivial (fun hHeld => ?_)
     clear hK K
     refine nA ?_
     refine one_ (i := 5) (N := some 13) (mL 9 63) rfl rfl (one_of HT_.out KR) (by decide) (fun K hK => ?_)
     refine Kd.R_make_step (Kd.int .i64) _ 3 (by rfl) (N := 13) rfl 22 _ _ rfl (l0.length : Int) rfl rfl Try.underlying22 (.int .i64 0) 8 info3 rfl (by decide) (by omega) 0 (ok := fun _ => True) (okp := fun _ => True) rfl (fun _ hk => hk) trivial TD (Nat.le_trans (Nat.mul_le_mul_right _ (TD : (l0.length : Int).toNat ≤ 35184372088832)) (by omega)) (Below.refl _ _) (Nat.le_refl _) ?_
     intro v575 w12 ho13 hb hg_ hnew_
     clear hg_ hnew_
     (first | rw [← Ny574.out] at ho13 | (simp only [Int.reduceToNat] at ho13; rw [← Ny574.out] at ho13))
     have HO576 := RL (NW ho13 HO573)
     replace HO573 := EL HO573 ho13 hb
     replace BK566 := KB BK566 hb
     replace HB := BS hb
     clear hb ho13
     obtain ⟨Ao14, co14, eo14⟩ := Kd.R_slice HO576.out
     (first | subst eo14 | (injection eo14 with f1_ f2_ f3_; have f4_ := f1_.symm; have f5_ := f3_.symm; clear f1_ f2_ f3_; subst f4_; subst f5_))
     obtain ⟨Ao15, co15, eo15⟩ := Kd.R_slice HO573.out
     (first | subst eo15 | (injection eo15 with f1_ f2_ f3_; have f4_ := f1_.symm; have f5_ := f3_.symm; clear f1_ f2_ f3_; subst f4_; subst f5_))
     refine hK.out _ _ trivial (fun hHeld => ?_)
     clear hK K
     refine nA ?_
     exact norm_ (by simp only [putAll, Act.put, List.setIfInBounds_toArray, List.set_cons_zero, List.set_cons_succ]) (hCont (v569, .slice Ao15 y571.length co15, .slice Ao14 y574.length co14) _ ⟨(MO HO573).out, (MO HO576).out, (KW BK566).out, TB⟩)
    ·skip
     refine Kd.R_make_step (Kd.int .i64) _ 3 (by rfl) (N := 13) rfl 22 _ _ rfl (l0.length : Int) rfl rfl Try.underlying22 (.int .i64 0) 8 info3 rfl (by decide) (by omega) 0 (ok := fun _ => True) (okp := fun _ => True) rfl (fun _ hk => hk) trivial TD (Nat.le_trans (Nat.mul_le_mul_right _ (TD : (l0.length : Int).toNat ≤ 35184372088832)) (by omega)) (Below.refl _ _) (Nat.le_refl _) ?_
     intro v575 w11 ho12 hb hg_ hnew_
     clear hg_ hnew_
     (first | rw [← Ny574.out] at ho12 | (simp only [Int.reduceToNat] at ho12; rw [← Ny574.out] at ho12))
     have HO576 := RL (NW ho12 HO570)
     replace HO570 := EL HO570 ho12 hb
     replace BK566 := KB BK566 hb
     replace HB := BS hb
     clear hb ho12
     refine hK.out _ _ trivial (fun hHeld => ?_)
     clear hK K
     refine nA ?_
     refine one_ (i := 2) (N := some 10) (mL 9 63) rfl rfl (one_of HT_.out KR) (by decide) (fun K hK => ?_)
     refine Kd.R_append_rows_step (Kd.int .i64) (w0 := w) w.heap.size (by rfl) (.tmp 8) (.tmp 9) 22 3 (.int .i64 0) 8 rfl Try.underlying22 info3 rfl (by decide) (by omega) v569 y568 l0 _ _ _ (fun k_ => some k_ ≠ (v575 : Value).ownBlock) (fun _ => False) rfl rfl ?aO ?aR (fun _ _ h => h) (fun _ h => h.elim) ?aF ?aB ?aS ?aL ?_
     (case aR => repeat (first | exact (Kd.C_below HR0.out HB.out) | (with_reducible refine Kd.C_alloc ?_ _) | (with_reducible refine Kd.C_drewN ?_ _) | (with_reducible refine Kd.C_drew ?_)))
     (case aB => exact TB)
     (case aF => exact (fun k_ hk => Kd.fresh' (Kd.R_lt (RW HO576).out) k_ hk))
     (case aO => exact (MO HO570).out)
     (case aS => exact (below_size TB))
     (case aL => have := LMc4.out; omega)
     intro v572 w13 ho hb hg hat
     rw [← Ny571.out] at ho
     have n0_ := Aside0.mk (blk_grown (g := gb566) (o := .cells #[.slice none 0 0, .slice none 0 0] 40 (0, 0)) (KW BK566).out hg (Kd.R_ne HO570.out BK566.out (by decide)))
     have n1_ := Aside0.mk (Kd.R_after (ok := (fun _ => True)) (RW HO576).out hg hat)
     have n2_ := Aside0.mk (hb)
     have n3_ := Aside0.mk (ho)
     clear BK566
     clear HO576
     clear HB
     clear HO570
     have BK566 := n0_
     have HO576 := n1_
     have HB := n2_
     have HO573 := n3_
     clear n0_ n1_ n2_ n3_
     clear ho hb hg hat
     obtain ⟨Ao14, co14, eo14⟩ := Kd.R_slice HO576.out
     (first | subst eo14 | (injection eo14 with f1_ f2_ f3_; have f4_ := f1_.symm; have f5_ := f3_.symm; clear f1_ f2_ f3_; subst f4_; subst f5_))
     obtain ⟨Ao15, co15, eo15⟩ := Kd.R_slice HO573.out
     (first | subst eo15 | (injection eo15 with f1_ f2_ f3_; have f4_ := f1_.symm; have f5_ := f3_.symm; clear f1_ f2_ f3_; subst f4_; subst f5_))
     refine hK.out _ _ trivial (fun hHeld => ?_)
     clear hK K
     refine nA ?_
     exact norm_ (by simp only [putAll, Act.put, List.setIfInBounds_toArray, List.set_cons_zero, List.set_cons_succ]) (hCont (v569, .slice Ao15 y571.length co15, .slice Ao14 y574.length co14) _ ⟨(RW HO573).out, (MO HO576).out, (KW BK566).out, TB⟩)
   ·skip
    refine Kd.R_make_step (Kd.int .i64) _ 3 (by rfl) (N := 13) rfl 22 _ _ rfl (l0.length : Int) rfl rfl Try.underlying22 (.int .i64 0) 8 info3 rfl (by decide) (by omega) 0 (ok := fun _ => True) (okp := fun _ => True) rfl (fun _ hk => hk) trivial TD (Nat.le_trans (Nat.mul_le_mul_right _ (TD : (l0.length : Int).toNat ≤ 35184372088832)) (by omega)) (Below.refl _ _) (Nat.le_refl _) ?_
    intro v575 w9 ho10 hb hg_ hnew_
    clear hg_ hnew_
    (first | rw [← Ny574.out] at ho10 | (simp only [Int.reduceToNat] at ho10; rw [← Ny574.out] at ho10))
    have HO576 := RL ho10
    replace BK566 := KB BK566 hb
    replace HB := BS hb
    clear hb ho10
    refine hK.out _ _ trivial (fun hHeld => ?_)
    clear hK K
    refine nA ?_
    refine one_ (i := 0) (N := some 8) (mL 9 59) rfl rfl (one_of HT_.out KR) (by decide) (fun K hK => ?_)
    refine Kd.R_lit_step (Kd.int .i64) _ 3 ?hg (N := 8) ?hd (xs := ([] : List Int)) (inner := []) (ok := fun _ => True) (okp := fun _ => True) ?hr ?hp (fun _ hk => hk) trivial (Below.refl _ _) (Nat.le_refl _) (by simp) ?_; (case hd => rfl); (case hg => rfl); (case hr => first | (go_simp; done) | (go_simp; rfl)); (case hp => exact (Reps.none _ _))
    intro v569 w11 ho12 hb hg_ hnew_
    clear hg_ hnew_
    (first | rw [← Ny568.out] at ho12 | (simp only [Int.reduceToNat] at ho12; rw [← Ny568.out] at ho12))
    have HO570 := RL (NW ho12 HO576)
    replace HO576 := EL HO576 ho12 hb
    replace BK566 := KB BK566 hb
    replace HB := BS hb
    clear hb ho12
    refine hK.out _ _ trivial (fun hHeld => ?_)
    clear hK K
    refine nA ?_
    refine one_ (i := 2) (N := some 10) (mL 9 63) rfl rfl (one_of HT_.out KR) (by decide) (fun K hK => ?_)
    refine Kd.R_append_rows_step (Kd.int .i64) (w0 := w) w.heap.size (by rfl) (.tmp 8) (.tmp 9) 22 3 (.int .i64 0) 8 rfl Try.underlying22 info3 rfl (by decide) (by omega) v569 y568 l0 _ _ _ (fun k_ => some k_ ≠ (v575 : Value).ownBlock) (fun _ => False) rfl rfl ?aO ?aR (fun _ _ h => h) (fun _ h => h.elim) ?aF ?aB ?aS ?aL ?_
    (case aR => repeat (first | exact (Kd.C_below HR0.out HB.out) | (with_reducible refine Kd.C_alloc ?_ _) | (with_reducible refine Kd.C_drewN ?_ _) | (with_reducible refine Kd.C_drew ?_)))
    (case aB => exact TB)
    (case aF => exact (fun k_ hk => Kd.fresh' (Kd.R_lt (RW HO576).out) k_ hk))
    (case aO => exact (MO HO570).out)
    (case aS => exact (below_size TB))
    (case aL => have := LMc4.out; omega)
    intro v572 w13 ho hb hg hat
    rw [← Ny571.out] at ho
    have n0_ := Aside0.mk (blk_grown (g := gb566) (o := .cells #[.slice none 0 0, .slice none 0 0] 40 (0, 0)) (KW BK566).out hg (Kd.R_ne HO570.out BK566.out (by decide)))
    have n1_ := Aside0.mk (Kd.R_after (ok := (fun _ => True)) (RW HO576).out hg hat)
    have n2_ := Aside0.mk (hb)
    have n3_ := Aside0.mk (ho)
    clear BK566
    clear HO576
    clear HB
    clear HO570
    have BK566 := n0_
    have HO576 := n1_
    have HB := n2_
    have HO573 := n3_
    clear n0_ n1_ n2_ n3_
    clear ho hb hg hat
    obtain ⟨Ao14, co14, eo14⟩ := Kd.R_slice HO576.out
    (first | subst eo14 | (injection eo14 with f1_ f2_ f3_; have f4_ := f1_.symm; have f5_ := f3_.symm; clear f1_ f2_ f3_; subst f4_; subst f5_))
    obtain ⟨Ao15, co15, eo15⟩ := Kd.R_slice HO573.out
    (first | subst eo15 | (injection eo15 with f1_ f2_ f3_; have f4_ := f1_.symm; have f5_ := f3_.symm; clear f1_ f2_ f3_; subst f4_; subst f5_))
    refine hK.out _ _ trivial (fun hHeld => ?_)
    clear hK K
    refine nA ?_
    exact norm_ (by simp only [putAll, Act.put, List.setIfInBounds_toArray, List.set_cons_zero, List.set_cons_succ]) (hCont (v569, .slice Ao15 y571.length co15, .slice Ao14 y574.length co14) _ ⟨(RW HO573).out, (MO HO576).out, (KW BK566).out, TB⟩)
  rintro ⟨v569, v572, v575⟩ w16 ⟨h0_, h1_, h2_, h3_⟩
  have n0_ : Aside0 (Kd.R (Kd.int .i64) 3 w16 w.heap.size (fun k_ => some k_ ≠ (v575 : Value).ownBlock) v572 y571) := ⟨h0_⟩
  have n1_ : Aside0 (Kd.R (Kd.int .i64) 3 w16 w.heap.size (fun k_ => some k_ ≠ (v572 : Value).ownBlock) v575 y574) := ⟨h1_⟩
  have n2_ : Aside0 (w16.heap[gb566]? = some (.cells #[.slice none 0 0, .slice none 0 0] 40 (0, 0))) := ⟨h2_⟩
  have n3_ : Aside0 (Below w.heap.size w w16) := ⟨h3_⟩
  clear BK566
  clear HB
  clear h0_ h1_ h2_ h3_
  have HO573 := n0_
  have HO576 := n1_
  have BK566 := n2_
  have HB := n3_
  clear n0_ n1_ n2_ n3_
  have hHeld := trivial
  obtain ⟨Ao17, co17, eo17⟩ := Kd.R_slice HO576.out
  (first | subst eo17 | (injection eo17 with f1_ f2_ f3_; have f4_ := f1_.symm; have f5_ := f3_.symm; clear f1_ f2_ f3_; subst f4_; subst f5_))
  obtain ⟨Ao18, co18, eo18⟩ := Kd.R_slice HO573.out
  (first | subst eo18 | (injection eo18 with f1_ f2_ f3_; have f4_ := f1_.symm; have f5_ := f3_.symm; clear f1_ f2_ f3_; subst f4_; subst f5_))
  refine norm_ (a' := ?_) ?_ ?_
  rotate_left
  ·simp only [putAll, Act.put, List.setIfInBounds_toArray, List.set_cons_zero, List.set_cons_succ]
   rfl
  refine pA 6 14 (mL 9 127) HT_ rfl rfl ?_
  refine one_ (i := 7) (N := none) (mL 9 255) rfl rfl (one_of HT_.out KR) (by decide) (fun K hK => ?_)
  have hs19 := bc 0 BK566
  have hfs19 := blk_frozen BK566.out 0
  have hs20 := bc 1 BK566
  have hfs20 := blk_frozen BK566.out 1
  refine skip_ (w1 := ?_) (by rfl) rfl ?_ ?_
  rotate_left
  ·go_simp
   rfl
  refine hK.out _ _ trivial (fun hHeld => ?_)
  clear hK K
  refine pA 8 3 (mL 9 511) HT_ rfl rfl ?_
  refine done_ (done_of HT_.out KR) ?_
  try go_wp2
  refine bodyPost_ret (results_ct rfl _ _ gb566 40 #[.slice Ao18 y571.length co18, .slice Ao17 y574.length co17] (0, 0) _ rfl (by (with_reducible repeat (first | refine blk_drewN ?_ _ | refine blk_drew ?_ | refine blk_alloc ?_ _)); refine blk_put (cs := #[.slice Ao18 y571.length co18, .slice none 0 0]) ?_ 1 _ rfl; (with_reducible repeat (first | refine blk_drewN ?_ _ | refine blk_drew ?_ | refine blk_alloc ?_ _)); refine blk_put (cs := #[.slice none 0 0, .slice none 0 0]) ?_ 0 _ rfl; (with_reducible repeat (first | refine blk_drewN ?_ _ | refine blk_drew ?_ | refine blk_alloc ?_ _)); exact BK566.out) Try.underlying40 rfl KR) rfl ?_
  exact ⟨_, _, TE, by (with_reducible repeat (first | apply Kd.R_alloc | apply Kd.R_drewN | apply Kd.R_drew)); exact Kd.R_mono (Kd.R_far (p := ⟨gb566, 1, none⟩) (Kd.R_far (p := ⟨gb566, 0, none⟩) (Kd.R_types HO573.out BK566.out (by decide)) (fun _ hk => hk.2) (.slice Ao18 y571.length co18)) (fun _ hk => hk.2) (.slice Ao17 y574.length co17)) (fun _ hk => hk.1), by (with_reducible repeat (first | apply Kd.R_alloc | apply Kd.R_drewN | apply Kd.R_drew)); exact Kd.R_mono (Kd.R_far (p := ⟨gb566, 1, none⟩) (Kd.R_far (p := ⟨gb566, 0, none⟩) (Kd.R_types HO576.out BK566.out (by decide)) (fun _ hk => hk.2) (.slice Ao18 y571.length co18)) (fun _ hk => hk.2) (.slice Ao17 y574.length co17)) (fun _ hk => hk.1), TB⟩
 ·replace c3 := Bool.eq_false_iff.mpr c3
  subst c3
  replace H := iff' H
  simp only [Option.some.injEq, Prod.mk.injEq] at H
  obtain ⟨rfl, rfl, rfl⟩ := H
  go_enter Try.func31, Try.ntmps31
  go_wp2_with (first | ((with_reducible refine gate_dst (N := 2) rfl ?_); refine bE 2 #[.slice none 0 0, .slice none 0 0] 40 ?_; intro gb566 hg w21 hbox hb; have BK566 := Aside0.mk (hbox); have GE566 := bG hg; replace HB := BS hb; clear hb hbox hg) | ((with_reducible refine gate_callee (f := 15) rfl ?_); refine goesL_ (some 5) rfl rfl Try.func15 KR rfl #[.slice A0 l0.length c0] rfl TA ?_; (with_reducible refine (spec_GoodWeights.calls k _ _ l0 false _ ?side1 ?side2 A2.out).mono ?_); (case side1 => exact CW ((Kd.C_below HR0.out HB.out))); (case side2 => exact HC0.out); rintro e w' ⟨rfl, ⟨nd, rfl⟩⟩; refine ⟨_, rfl, ?_⟩; (try (rw [drewN_self w21]; generalize hq_ : World.drewN w21 _ = w21; have n0_ : Aside0 (w21.heap[gb566]? = some (.cells #[.slice none 0 0, .slice none 0 0] 40 (0, 0))) := ⟨by rw [← hq_]; exact (KW BK566).out⟩; have n1_ : Aside0 (Below w.heap.size w w21) := ⟨by rw [← hq_]; exact TB⟩; clear BK566 HB hq_; have BK566 := n0_; have HB := n1_; clear n0_ n1_)); have hcz22 := cz2 BK566))
  refine bodyPost_ret (results_ct rfl _ _ gb566 40 #[.slice none 0 0, .slice none 0 0] (0, 0) _ rfl (by (with_reducible repeat (first | refine blk_drewN ?_ _ | refine blk_drew ?_ | refine blk_alloc ?_ _)); refine blk_put (cs := #[.slice none 0 0, .slice none 0 0]) ?_ 1 _ rfl; (with_reducible repeat (first | refine blk_drewN ?_ _ | refine blk_drew ?_ | refine blk_alloc ?_ _)); refine blk_put (cs := #[.slice none 0 0, .slice none 0 0]) ?_ 0 _ rfl; (with_reducible repeat (first | refine blk_drewN ?_ _ | refine blk_drew ?_ | refine blk_alloc ?_ _)); exact BK566.out) Try.underlying40 rfl KR) rfl ?_
  exact ⟨_, _, TE, TZ, TZ, TB⟩
end
end Go.Proofs.Ytioeomjjfajldaa.Pp
