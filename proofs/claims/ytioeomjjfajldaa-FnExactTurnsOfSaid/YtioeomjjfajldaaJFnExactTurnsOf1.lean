/- The functions that the law reaches, one Lean function and its proof for each; written by wip/pp of this workplace, joined by claimit.py. -/
import Derived.Test.YtioeomjjfajldaaProg
import Derived.Below
import Derived.Deep.Draws
import Derived.Deep.AppendLies
import Derived.Maps.AppendAt
import Derived.OwnWalk
import Derived.Laws.BytesArg
import Derived.Laws.MakeOwn
import Derived.Laws.OwnMore
import Derived.Deep.OwnRows
import Derived.Tactics
import Derived.Lib.ConvBytes
import Derived.Laws.Slices
import Derived.WalkKit
import Derived.KernelRfl
import Derived.RowKit3
import Derived.Deep.LoopGhost
import Derived.Deep.QuietTactic
import Derived.BigQuiet
import Derived.WideLaws
import Derived.Deep.DeepCutAuto
import Derived.Deep.CutBlock
import Derived.Deep.RegionHeld3
import Derived.Laws.Rows
import Derived.Lib.AppendStr
import Derived.ArgAppend
import Derived.Laws.IdiomCopy
import Derived.OrdersHeld
import Derived.Laws.BitsLemmas
import Derived.RowKit
import Derived.Test.YtioeomjjfajldaaXWords
import Derived.Test.YtioeomjjfajldaaXSq
import Derived.Test.YtioeomjjfajldaaWWords
import Derived.Test.YtioeomjjfajldaaWLast
import Derived.Test.YtioeomjjfajldaaWTab
import Derived.Test.YtioeomjjfajldaaWFour
import Derived.Test.YtioeomjjfajldaaWQPut
import Derived.Test.YtioeomjjfajldaaWApart
import Derived.Test.YtioeomjjfajldaaWArr
import Derived.Test.YtioeomjjfajldaaWZeros
import Derived.Test.YtioeomjjfajldaaWFoot
import Derived.Test.YtioeomjjfajldaaWKept
import Derived.Test.YtioeomjjfajldaaWShare
import Derived.Test.YtioeomjjfajldaaWN
import Derived.Test.YtioeomjjfajldaaWFootNe
import Derived.Test.YtioeomjjfajldaaWAt
import Derived.Test.YtioeomjjfajldaaWEqStruct
import Derived.Test.YtioeomjjfajldaaWRepsOne
import Derived.Test.YtioeomjjfajldaaWInv
import Derived.Test.YtioeomjjfajldaaWInvWords
import Derived.Test.YtioeomjjfajldaaWGuard
import Derived.Test.YtioeomjjfajldaaWNEv
import Derived.Test.YtioeomjjfajldaaWMore
import Derived.Test.YtioeomjjfajldaaJFnExactTurnsOf0
namespace Go.Proofs.Ytioeomjjfajldaa.Pp
open Go.RowKit Go.Proofs.YtioeomjjfajldaaW.PrintWords Go.Proofs.YtioeomjjfajldaaW.PrintLast Go.Proofs.YtioeomjjfajldaaW.PrintMore
attribute [local go_sem] max2_int min2_int max_two min_two max_three min_three max_four min_four   -- for this text's walks alone
set_option linter.unusedVariables false
set_option linter.unusedSimpArgs false
set_option maxHeartbeats 8000000
set_option maxRecDepth 100000

section
/-! ### laws_FnExactTurnsOf: function 9 -/
mutual
def laws_FnExactTurnsOf.j0 : Nat → List Int → Int → List Int → Bool → List Int → List Int → Bool → Bool → Option (Bool)
 | 0, _, _, _, _, _, _, _, _ => none
 | k + 1, x0, x1, x5, x6, x7, x8, x9, x41 => if x41 = true then (some false) else ((laws_toIntS.f k x0).bind fun t882 => ((laws_eqIntS.f k x7 t882).bind fun t885 => (if t885 = true then ((laws_markIntS.f k x7 1).bind fun bt886 => (if bt886.1 < 0 then (laws_FnExactTurnsOf.j1 k x0 x1 x5 x6 x8 true) else ((laws_eqIntS.f k x8 x5).bind fun t888 => (if t888 = true then (laws_FnExactTurnsOf.j1 k x0 x1 x5 x6 x8 (x9 != x6)) else (laws_FnExactTurnsOf.j1 k x0 x1 x5 x6 x8 true))))) else (some false))))
def laws_FnExactTurnsOf.j1 : Nat → List Int → Int → List Int → Bool → List Int → Bool → Option (Bool)
 | 0, _, _, _, _, _, _ => none
 | k + 1, x0, x1, x5, x6, x8, x62 => if x62 = true then (some false) else ((laws_markIntS.f k x8 1).bind fun bt889 => ((laws_heldIntS.f k bt889.2 1).bind fun t891 => (if t891 < 0 then (some false) else (if t891 = bt889.1 then ((laws_toIntS.f k x0).bind fun t892 => ((impl_TurnsOf.f k t892 x1).bind fun bt895 => ((laws_eqIntS.f k bt895.1 x5).bind fun t899 => (if t899 = true then (laws_FnExactTurnsOf.j2 k bt889.2 bt889.1 (bt895.2 != x6)) else (laws_FnExactTurnsOf.j2 k bt889.2 bt889.1 true))))) else (some false)))))
def laws_FnExactTurnsOf.j2 : Nat → List Int → Int → Bool → Option (Bool)
 | 0, _, _, _ => none
 | k + 1, x8, x11, x89 => if x89 = true then (some false) else ((laws_heldIntS.f k x8 1).bind fun t900 => (if t900 < 0 then (some false) else (if t900 = x11 then (some true) else (some false))))
end
def laws_FnExactTurnsOf.f (k : Nat) (l0 : List Int) (a1 : Int) : Option (Bool) := if (l0.length : Int) > 1048576 then (some true) else ((laws_toIntS.f k l0).bind fun t867 => ((spec_TurnsOf.f k t867 a1).bind fun bt870 => ((laws_toIntS.f k l0).bind fun t874 => ((impl_TurnsOf.f k t874 a1).bind fun bt877 => ((laws_eqIntS.f k bt877.1 bt870.1).bind fun t881 => (if t881 = true then (laws_FnExactTurnsOf.j0 k l0 a1 bt870.1 bt870.2 t874 bt877.1 bt877.2 (bt877.2 != bt870.2)) else (laws_FnExactTurnsOf.j0 k l0 a1 bt870.1 bt870.2 t874 bt877.1 bt877.2 true)))))))
theorem laws_FnExactTurnsOf.calls (k : Nat) (A0 : Option Addr) (c0 : Nat) (l0 : List Int) (a1 : Int) (r : Bool) (w : World) (hr0 : Kd.C (Kd.int .i64) w A0 l0.length l0) (hc0 : l0.length ≤ c0) (h : laws_FnExactTurnsOf.f k l0 a1 = some r) :
  Calls Try.prog 9 #[.slice A0 l0.length c0, .int .i64 a1] w fun e w' => e = .returned (.bool r) ∧ Below w.heap.size w w' := by
 have HR0 := Aside0.mk hr0
 have HC0 := Aside0.mk hc0
 clear hr0 hc0
 have HB := Aside0.mk (Below.refl w.heap.size w)
 have H : (if (l0.length : Int) > 1048576 then (some true) else ((laws_toIntS.f k l0).bind fun t867 => ((spec_TurnsOf.f k t867 a1).bind fun bt870 => ((laws_toIntS.f k l0).bind fun t874 => ((impl_TurnsOf.f k t874 a1).bind fun bt877 => ((laws_eqIntS.f k bt877.1 bt870.1).bind fun t881 => (if t881 = true then (laws_FnExactTurnsOf.j0 k l0 a1 bt870.1 bt870.2 t874 bt877.1 bt877.2 (bt877.2 != bt870.2)) else (laws_FnExactTurnsOf.j0 k l0 a1 bt870.1 bt870.2 t874 bt877.1 bt877.2 true)))))))) = some r := h
 clear h
 by_cases c3 : (l0.length : Int) > 1048576
 ·rw [if_pos c3] at H
  have c3b0 : decide (1048576 < (l0.length : Int)) = true := decide_eq_true c3
  have c3b1 : decide (1048576 < l0.length) = true := decide_eq_true (by omega)
  clear c3
  obtain rfl := Option.some.inj H
  go_enter Try.func9, Try.ntmps9
  go_wp2
  go_ret
  exact ⟨TE, TB⟩
 ·rw [if_neg c3] at H
  have c3b0 : decide (1048576 < (l0.length : Int)) = false := decide_eq_false c3
  have c3b1 : decide (1048576 < l0.length) = false := decide_eq_false (by omega)
  clear c3
  obtain ⟨t867, A4, H⟩ := bnd H
  obtain ⟨⟨t870, t871⟩, A5, H⟩ := bnd H
  try dsimp only at H
  obtain ⟨t874, A6, H⟩ := bnd H
  obtain ⟨⟨t877, t878⟩, A7, H⟩ := bnd H
  try dsimp only at H
  have HC8 := Aside0.mk H
  clear H
  go_enter Try.func9, Try.ntmps9
  go_upto_region 6 with (first | ((with_reducible refine gate_callee (f := 16) rfl ?_); refine goesL_ (some 20) rfl rfl Try.func16 KR rfl #[.slice A0 l0.length c0] rfl TA ?_; (with_reducible refine (laws_toIntS.calls k _ _ l0 t867 _ ?side1 ?side2 A4.out).mono ?_); (case side1 => exact CW (HR0.out)); (case side2 => exact HC0.out); rintro e w9 ⟨v868, rfl, ho0, hb⟩; refine ⟨_, rfl, ?_⟩; have HO869 := RL ho0; replace HB := BS hb; clear hb; (try clear ho0); obtain ⟨Ao10, co10, eo10⟩ := Kd.R_slice HO869.out; subst eo10) | ((with_reducible refine gate_callee (f := 40) rfl ?_); refine goesL_ (some 22) rfl rfl Try.func40 KR rfl #[.slice Ao10 t867.length co10, .int .i64 a1] rfl TA ?_; (with_reducible refine (spec_TurnsOf.calls k _ _ t867 a1 t870 t871 _ ?side1 ?side2 A5.out).mono ?_); (case side1 => exact CW ((Kd.R_reads' HO869.out).2.2)); (case side2 => exact RI HO869); rintro e w11 ⟨v872, rfl, ho0, hb⟩; refine ⟨_, rfl, ?_⟩; have HO873 := RL (NW ho0 HO869); replace HO869 := EL HO869 ho0 hb; replace HB := BS hb; clear hb; (try clear ho0)) | ((with_reducible refine gate_callee (f := 16) rfl ?_); refine goesL_ (some 26) rfl rfl Try.func16 KR rfl #[.slice A0 l0.length c0] rfl TA ?_; (with_reducible refine (laws_toIntS.calls k _ _ l0 t874 _ ?side1 ?side2 A6.out).mono ?_); (case side1 => exact CW ((Kd.C_below HR0.out HB.out))); (case side2 => exact HC0.out); rintro e w12 ⟨v875, rfl, ho0, hb⟩; refine ⟨_, rfl, ?_⟩; have HO876 := RL (NW (NW ho0 HO869) HO873); replace HO869 := EL HO869 ho0 hb; replace HO873 := EL HO873 ho0 hb; replace HB := BS hb; clear hb; (try clear ho0); obtain ⟨Ao13, co13, eo13⟩ := Kd.R_slice HO876.out; subst eo13) | ((with_reducible refine gate_callee (f := 41) rfl ?_); refine goesL_ (some 30) rfl rfl Try.func41 KR rfl #[.slice Ao13 t874.length co13, .int .i64 a1] rfl TA ?_; (with_reducible refine (impl_TurnsOf.calls k _ _ t874 a1 t877 t878 _ ?side1 ?side2 A7.out).mono ?_); (case side1 => exact CW ((Kd.R_reads' HO876.out).2.2)); (case side2 => exact RI HO876); rintro e w14 ⟨v879, rfl, ho0, hb⟩; refine ⟨_, rfl, ?_⟩; have HO880 := RL (NW (NW (NW ho0 HO869) HO873) HO876); replace HO869 := EL HO869 ho0 hb; replace HO873 := EL HO873 ho0 hb; replace HO876 := EL HO876 ho0 hb; replace HB := BS hb; clear hb; (try clear ho0)))
  (try simp only [Act.put, List.setIfInBounds_toArray, List.set_cons_zero, List.set_cons_succ])
  go_cut [41] (fun v41 wc => ∃ (kq : Nat) (x41_7 : Bool), v41 = .bool x41_7 ∧ Aside0 (laws_FnExactTurnsOf.j0 kq l0 a1 t870 t871 t874 t877 t878 x41_7 = some r) ∧ Aside0 (kq ≤ k) ∧ Aside0 (Kd.R (Kd.int .i64) 3 wc w.heap.size (fun k_ => some k_ ≠ ((.slice Ao13 t874.length co13) : Value).ownBlock ∧ some k_ ≠ (v879 : Value).ownBlock) v872 t870) ∧ Aside0 (Kd.R (Kd.int .i64) 3 wc w.heap.size (fun k_ => some k_ ≠ (v872 : Value).ownBlock ∧ some k_ ≠ (v879 : Value).ownBlock) (.slice Ao13 t874.length co13) t874) ∧ Aside0 (Kd.R (Kd.int .i64) 3 wc w.heap.size (fun k_ => some k_ ≠ (v872 : Value).ownBlock ∧ some k_ ≠ ((.slice Ao13 t874.length co13) : Value).ownBlock) v879 t877) ∧ Aside0 (Below w.heap.size w wc))
  case first =>
   have H := HC8.out
   clear HC8
   obtain ⟨t881, A15, H⟩ := bnd H
   by_cases c16 : t881 = true
   ·subst c16
    replace H := ift H
    have H' := Aside0.mk H
    clear H
    obtain ⟨Ao17, co17, eo17⟩ := Kd.R_slice HO880.out
    subst eo17
    obtain ⟨Ao18, co18, eo18⟩ := Kd.R_slice HO873.out
    subst eo18
    go_wp2_with (first | ((with_reducible refine gate_callee (f := 18) rfl ?_); refine goesL_ (some 35) rfl rfl Try.func18 KR rfl #[.slice Ao17 t877.length co17, .slice Ao18 t870.length co18] rfl TA ?_; (with_reducible refine (laws_eqIntS.calls k _ _ t877 _ _ t870 true _ ?side1 ?side2 ?side3 ?side4 A15.out).mono ?_); (case side1 => exact CW ((Kd.R_reads' HO880.out).2.2)); (case side2 => exact RI HO880); (case side3 => exact CW ((Kd.R_reads' HO873.out).2.2)); (case side4 => exact RI HO873); rintro e w' ⟨rfl, ⟨nd, rfl⟩⟩; refine ⟨_, rfl, ?_⟩))
    go_meet
    case rel => exact ⟨_, ((t878 != t871)), TF, H', ⟨by first | omega | exact Nat.le_refl _⟩, MO HO873, MO HO876, MO HO880, ⟨TB⟩⟩
   ·replace c16 := Bool.eq_false_iff.mpr c16
    subst c16
    replace H := iff' H
    have H' := Aside0.mk H
    clear H
    obtain ⟨Ao19, co19, eo19⟩ := Kd.R_slice HO880.out
    subst eo19
    obtain ⟨Ao20, co20, eo20⟩ := Kd.R_slice HO873.out
    subst eo20
    go_wp2_with (first | ((with_reducible refine gate_callee (f := 18) rfl ?_); refine goesL_ (some 35) rfl rfl Try.func18 KR rfl #[.slice Ao19 t877.length co19, .slice Ao20 t870.length co20] rfl TA ?_; (with_reducible refine (laws_eqIntS.calls k _ _ t877 _ _ t870 false _ ?side1 ?side2 ?side3 ?side4 A15.out).mono ?_); (case side1 => exact CW ((Kd.R_reads' HO880.out).2.2)); (case side2 => exact RI HO880); (case side3 => exact CW ((Kd.R_reads' HO873.out).2.2)); (case side4 => exact RI HO873); rintro e w' ⟨rfl, ⟨nd, rfl⟩⟩; refine ⟨_, rfl, ?_⟩))
    go_meet
    case rel => exact ⟨_, (true), TF, H', ⟨by first | omega | exact Nat.le_refl _⟩, MO HO873, MO HO876, MO HO880, ⟨TB⟩⟩
  case rest =>
   clear HC8
   obtain ⟨kq, x41_7, rfl, HA, HJ7, HO_5, HO_7, HO_8, HB⟩ := hcut
   cases kq with
   | zero => exact absurd HA.out (by simp [laws_FnExactTurnsOf.j0])
   | succ kj7 =>
    have H := HA.out
    clear HA
    simp only [laws_FnExactTurnsOf.j0] at H
    by_cases c21 : x41_7 = true
    ·subst c21
     replace H := ift H
     obtain rfl := Option.some.inj H
     go_wp2
     go_ret
     exact ⟨TE, TB⟩
    ·replace c21 := Bool.eq_false_iff.mpr c21
     subst c21
     replace H := iff' H
     obtain ⟨t882, A22, H⟩ := bnd H
     obtain ⟨t885, A23, H⟩ := bnd H
     by_cases c24 : t885 = true
     ·subst c24
      replace H := ift H
      obtain ⟨⟨t886, t887⟩, A25, H⟩ := bnd H
      try dsimp only at H
      have HC26 := Aside0.mk H
      clear H
      go_upto_region 12 with (first | ((with_reducible refine gate_callee (f := 16) rfl ?_); refine goesL_ (some 44) rfl rfl Try.func16 KR rfl #[.slice A0 l0.length c0] rfl TA ?_; (with_reducible refine (laws_toIntS.calls kj7 _ _ l0 t882 _ ?side1 ?side2 A22.out).mono ?_); (case side1 => exact CW ((Kd.C_below HR0.out HB.out))); (case side2 => exact HC0.out); rintro e w27 ⟨v883, rfl, ho0, hb⟩; refine ⟨_, rfl, ?_⟩; have HO884 := RL (NW (NW (NW ho0 HO_5) HO_7) HO_8); replace HO_5 := EL HO_5 ho0 hb; replace HO_7 := EL HO_7 ho0 hb; replace HO_8 := EL HO_8 ho0 hb; replace HB := BS hb; clear hb; (try clear ho0); obtain ⟨Ao28, co28, eo28⟩ := Kd.R_slice HO884.out; subst eo28) | ((with_reducible refine gate_callee (f := 18) rfl ?_); refine goesL_ (some 45) rfl rfl Try.func18 KR rfl #[.slice Ao13 t874.length co13, .slice Ao28 t882.length co28] rfl TA ?_; (with_reducible refine (laws_eqIntS.calls kj7 _ _ t874 _ _ t882 true _ ?side1 ?side2 ?side3 ?side4 A23.out).mono ?_); (case side1 => exact CW ((Kd.R_reads' HO_7.out).2.2)); (case side2 => exact RI HO_7); (case side3 => exact CW ((Kd.R_reads' HO884.out).2.2)); (case side4 => exact RI HO884); rintro e w' ⟨rfl, ⟨nd, rfl⟩⟩; refine ⟨_, rfl, ?_⟩) | ((with_reducible refine gate_callee (f := 33) rfl ?_); refine goesL_ (some 49) rfl rfl Try.func33 KR rfl #[.slice Ao13 t874.length co13, .int .i64 1] rfl TA ?_; (with_reducible refine (laws_markIntS.calls kj7 (fun k_ => some k_ = (.slice Ao13 t874.length co13 : Value).ownBlock) (.slice Ao13 t874.length co13) t874 1 t886 t887 w _ ?side1 ?side2 A25.out).mono ?_); (case side1 => repeat (first | (with_reducible first | exact HB.out | apply below_alloc | apply pw_below_drewN | apply below_drew1) | exact HB.out)); (case side2 => exact Kd.R_tight rfl HO_7.out); rintro e w29 ⟨rfl, hy0, hb, hkp⟩; refine ⟨_, rfl, ?_⟩; replace HO_5 := RK (fun k_ => some k_ ≠ (.slice Ao13 t874.length co13 : Value).ownBlock ∧ some k_ ≠ (v879 : Value).ownBlock ∧ some k_ ≠ (.slice Ao28 t882.length co28 : Value).ownBlock) HO_5 hkp; replace HO_7 := Aside0.mk (Kd.R_reok rfl hy0 (fun k_ e_ => HO_7.out.1 k_ e_)); replace HO_8 := RK (fun k_ => some k_ ≠ (v872 : Value).ownBlock ∧ some k_ ≠ (.slice Ao13 t874.length co13 : Value).ownBlock ∧ some k_ ≠ (.slice Ao28 t882.length co28 : Value).ownBlock) HO_8 hkp; replace HO884 := RK (fun k_ => some k_ ≠ (v872 : Value).ownBlock ∧ some k_ ≠ (.slice Ao13 t874.length co13 : Value).ownBlock ∧ some k_ ≠ (v879 : Value).ownBlock) HO884 hkp; replace HB := Aside0.mk (hb); clear hb; (try clear hkp); (try clear hy0)))
      (try simp only [Act.put, List.setIfInBounds_toArray, List.set_cons_zero, List.set_cons_succ])
      go_cut [62] (fun v62 wc => ∃ (kq : Nat) (x62_25 : Bool), v62 = .bool x62_25 ∧ Aside0 (laws_FnExactTurnsOf.j1 kq l0 a1 t870 t871 t877 x62_25 = some r) ∧ Aside0 (kq ≤ kj7) ∧ Aside0 (Kd.R (Kd.int .i64) 3 wc w.heap.size (fun k_ => some k_ ≠ (v879 : Value).ownBlock) v872 t870) ∧ Aside0 (Kd.R (Kd.int .i64) 3 wc w.heap.size (fun k_ => some k_ ≠ (v872 : Value).ownBlock) v879 t877) ∧ Aside0 (Below w.heap.size w wc))
      case first =>
       have H := HC26.out
       clear HC26
       by_cases c30 : t886 < 0
       ·rw [if_pos c30] at H
        have c30b0 : decide (t886 < 0) = true := decide_eq_true c30
        clear c30
        (first | rw [c30b0] | (simp only [i64_w, i32_w]; rw [c30b0]) | skip)
        have H' := Aside0.mk H
        clear H
        go_wp2
        go_meet
        case rel => exact ⟨_, (true), TF, H', ⟨by have := HJ7.out; first | omega | exact Nat.le_refl _⟩, MO HO_5, MO HO_8, ⟨TB⟩⟩
       ·rw [if_neg c30] at H
        have c30b0 : decide (t886 < 0) = false := decide_eq_false c30
        clear c30
        (first | rw [c30b0] | (simp only [i64_w, i32_w]; rw [c30b0]) | skip)
        obtain ⟨t888, A31, H⟩ := bnd H
        by_cases c32 : t888 = true
        ·subst c32
         replace H := ift H
         have H' := Aside0.mk H
         clear H
         obtain ⟨Ao33, co33, eo33⟩ := Kd.R_slice HO_8.out
         subst eo33
         obtain ⟨Ao34, co34, eo34⟩ := Kd.R_slice HO_5.out
         subst eo34
         go_wp2_with (first | (go_at_call 18; (with_reducible refine (laws_eqIntS.calls kj7 _ _ t877 _ _ t870 true _ ?side1 ?side2 ?side3 ?side4 A31.out).mono ?_); (case side1 => exact CW ((Kd.R_reads' HO_8.out).2.2)); (case side2 => exact RI HO_8); (case side3 => exact CW ((Kd.R_reads' HO_5.out).2.2)); (case side4 => exact RI HO_5); rintro e w' ⟨rfl, ⟨nd, rfl⟩⟩))
         go_meet
         case rel => exact ⟨_, ((t878 != t871)), TF, H', ⟨by have := HJ7.out; first | omega | exact Nat.le_refl _⟩, MO HO_5, MO HO_8, ⟨TB⟩⟩
        ·replace c32 := Bool.eq_false_iff.mpr c32
         subst c32
         replace H := iff' H
         have H' := Aside0.mk H
         clear H
         obtain ⟨Ao35, co35, eo35⟩ := Kd.R_slice HO_8.out
         subst eo35
         obtain ⟨Ao36, co36, eo36⟩ := Kd.R_slice HO_5.out
         subst eo36
         go_wp2_with (first | (go_at_call 18; (with_reducible refine (laws_eqIntS.calls kj7 _ _ t877 _ _ t870 false _ ?side1 ?side2 ?side3 ?side4 A31.out).mono ?_); (case side1 => exact CW ((Kd.R_reads' HO_8.out).2.2)); (case side2 => exact RI HO_8); (case side3 => exact CW ((Kd.R_reads' HO_5.out).2.2)); (case side4 => exact RI HO_5); rintro e w' ⟨rfl, ⟨nd, rfl⟩⟩))
         go_meet
         case rel => exact ⟨_, (true), TF, H', ⟨by have := HJ7.out; first | omega | exact Nat.le_refl _⟩, MO HO_5, MO HO_8, ⟨TB⟩⟩
      case rest =>
       clear HC26
       obtain ⟨kq, x62_25, rfl, HA, HJ25, HO_5, HO_8, HB⟩ := hcut
       cases kq with
       | zero => exact absurd HA.out (by simp [laws_FnExactTurnsOf.j1])
       | succ kj25 =>
        have H := HA.out
        clear HA
        simp only [laws_FnExactTurnsOf.j1] at H
        by_cases c37 : x62_25 = true
        ·subst c37
         replace H := ift H
         obtain rfl := Option.some.inj H
         go_wp2
         go_ret
         exact ⟨TE, TB⟩
        ·replace c37 := Bool.eq_false_iff.mpr c37
         subst c37
         replace H := iff' H
         obtain ⟨⟨t889, t890⟩, A38, H⟩ := bnd H
         try dsimp only at H
         obtain ⟨t891, A39, H⟩ := bnd H
         by_cases c40 : t891 < 0
         ·rw [if_pos c40] at H
          have c40b0 : decide (t891 < 0) = true := decide_eq_true c40
          clear c40
          obtain rfl := Option.some.inj H
          obtain ⟨Ao41, co41, eo41⟩ := Kd.R_slice HO_8.out
          subst eo41
          go_wp2_with (first | ((with_reducible refine gate_callee (f := 33) rfl ?_); refine goesL_ (some 65) rfl rfl Try.func33 KR rfl #[.slice Ao41 t877.length co41, .int .i64 1] rfl TA ?_; (with_reducible refine (laws_markIntS.calls kj25 (fun k_ => some k_ = (.slice Ao41 t877.length co41 : Value).ownBlock) (.slice Ao41 t877.length co41) t877 1 t889 t890 w _ ?side1 ?side2 A38.out).mono ?_); (case side1 => repeat (first | (with_reducible first | exact HB.out | apply below_alloc | apply pw_below_drewN | apply below_drew1) | exact HB.out)); (case side2 => exact Kd.R_tight rfl HO_8.out); rintro e w42 ⟨rfl, hy0, hb, hkp⟩; refine ⟨_, rfl, ?_⟩; replace HO_5 := RK (fun k_ => some k_ ≠ (.slice Ao41 t877.length co41 : Value).ownBlock) HO_5 hkp; replace HO_8 := Aside0.mk (Kd.R_reok rfl hy0 (fun k_ e_ => HO_8.out.1 k_ e_)); replace HB := Aside0.mk (hb); clear hb; (try clear hkp); (try clear hy0)) | ((with_reducible refine gate_callee (f := 39) rfl ?_); refine goesL_ (some 68) rfl rfl Try.func39 KR rfl #[.slice Ao41 t890.length co41, .int .i64 1] rfl (by (try simp only [List.map_toArray, List.map_cons, List.map_nil]); first | done | (rw [show t890.length = t877.length from (Kd.R_reads' HO_8.out).1.symm] <;> rfl) | rfl | (simp only [List.length_drop, List.length_take]; rfl)) ?_; (with_reducible refine (laws_heldIntS.calls kj25 _ _ t890 1 t891 _ ?side1 ?side2 A39.out).mono ?_); (case side1 => exact CW ((Kd.R_reads' HO_8.out).2.2)); (case side2 => rw [show t890.length = t877.length from (Kd.R_reads' HO_8.out).1.symm]; exact RI HO_8); rintro e w' ⟨rfl, ⟨nd, rfl⟩⟩; refine ⟨_, rfl, ?_⟩))
          go_ret
          exact ⟨TE, TB⟩
         ·rw [if_neg c40] at H
          have c40b0 : decide (t891 < 0) = false := decide_eq_false c40
          clear c40
          by_cases c43 : t891 = t889
          ·rw [if_pos c43] at H
           have c43b0 : (t891 == t889) = true := beq_iff_eq.mpr c43
           have c43b1 : (t891 != t889) = false := bne_eq_false_iff_eq.mpr c43
           clear c43
           obtain ⟨t892, A44, H⟩ := bnd H
           obtain ⟨⟨t895, t896⟩, A45, H⟩ := bnd H
           try dsimp only at H
           have HC46 := Aside0.mk H
           clear H
           obtain ⟨Ao47, co47, eo47⟩ := Kd.R_slice HO_8.out
           subst eo47
           go_upto_region 23 with (first | ((with_reducible refine gate_callee (f := 33) rfl ?_); refine goesL_ (some 65) rfl rfl Try.func33 KR rfl #[.slice Ao47 t877.length co47, .int .i64 1] rfl TA ?_; (with_reducible refine (laws_markIntS.calls kj25 (fun k_ => some k_ = (.slice Ao47 t877.length co47 : Value).ownBlock) (.slice Ao47 t877.length co47) t877 1 t889 t890 w _ ?side1 ?side2 A38.out).mono ?_); (case side1 => repeat (first | (with_reducible first | exact HB.out | apply below_alloc | apply pw_below_drewN | apply below_drew1) | exact HB.out)); (case side2 => exact Kd.R_tight rfl HO_8.out); rintro e w48 ⟨rfl, hy0, hb, hkp⟩; refine ⟨_, rfl, ?_⟩; replace HO_5 := RK (fun k_ => some k_ ≠ (.slice Ao47 t877.length co47 : Value).ownBlock) HO_5 hkp; replace HO_8 := Aside0.mk (Kd.R_reok rfl hy0 (fun k_ e_ => HO_8.out.1 k_ e_)); replace HB := Aside0.mk (hb); clear hb; (try clear hkp); (try clear hy0)) | ((with_reducible refine gate_callee (f := 39) rfl ?_); refine goesL_ (some 68) rfl rfl Try.func39 KR rfl #[.slice Ao47 t890.length co47, .int .i64 1] rfl (by (try simp only [List.map_toArray, List.map_cons, List.map_nil]); first | done | (rw [show t890.length = t877.length from (Kd.R_reads' HO_8.out).1.symm] <;> rfl) | rfl | (simp only [List.length_drop, List.length_take]; rfl)) ?_; (with_reducible refine (laws_heldIntS.calls kj25 _ _ t890 1 t891 _ ?side1 ?side2 A39.out).mono ?_); (case side1 => exact CW ((Kd.R_reads' HO_8.out).2.2)); (case side2 => rw [show t890.length = t877.length from (Kd.R_reads' HO_8.out).1.symm]; exact RI HO_8); rintro e w' ⟨rfl, ⟨nd, rfl⟩⟩; refine ⟨_, rfl, ?_⟩) | ((with_reducible refine gate_callee (f := 16) rfl ?_); refine goesL_ (some 76) rfl rfl Try.func16 KR rfl #[.slice A0 l0.length c0] rfl TA ?_; (with_reducible refine (laws_toIntS.calls kj25 _ _ l0 t892 _ ?side1 ?side2 A44.out).mono ?_); (case side1 => exact CW ((Kd.C_below HR0.out TB))); (case side2 => exact HC0.out); rintro e w49 ⟨v893, rfl, ho0, hb⟩; refine ⟨_, rfl, ?_⟩; have HO894 := RL (NW (NW ho0 HO_5) HO_8); replace HO_5 := EL HO_5 ho0 hb; replace HO_8 := EL HO_8 ho0 hb; replace HB := BS hb; clear hb; (try clear ho0); obtain ⟨Ao50, co50, eo50⟩ := Kd.R_slice HO894.out; subst eo50) | ((with_reducible refine gate_callee (f := 41) rfl ?_); refine goesL_ (some 78) rfl rfl Try.func41 KR rfl #[.slice Ao50 t892.length co50, .int .i64 a1] rfl TA ?_; (with_reducible refine (impl_TurnsOf.calls kj25 _ _ t892 a1 t895 t896 _ ?side1 ?side2 A45.out).mono ?_); (case side1 => exact CW ((Kd.R_reads' HO894.out).2.2)); (case side2 => exact RI HO894); rintro e w51 ⟨v897, rfl, ho0, hb⟩; refine ⟨_, rfl, ?_⟩; have HO898 := RL (NW (NW (NW ho0 HO_5) HO_8) HO894); replace HO_5 := EL HO_5 ho0 hb; replace HO_8 := EL HO_8 ho0 hb; replace HO894 := EL HO894 ho0 hb; replace HB := BS hb; clear hb; (try clear ho0)))
           (try simp only [Act.put, List.setIfInBounds_toArray, List.set_cons_zero, List.set_cons_succ])
           go_cut [89] (fun v89 wc => ∃ (kq : Nat) (x89_45 : Bool), v89 = .bool x89_45 ∧ Aside0 (laws_FnExactTurnsOf.j2 kq t890 t889 x89_45 = some r) ∧ Aside0 (kq ≤ kj25) ∧ Aside0 (Kd.R (Kd.int .i64) 3 wc w.heap.size (fun _ => True) (.slice Ao47 t877.length co47) t890) ∧ Aside0 (Below w.heap.size w wc))
           case first =>
            have H := HC46.out
            clear HC46
            obtain ⟨t899, A52, H⟩ := bnd H
            by_cases c53 : t899 = true
            ·subst c53
             replace H := ift H
             have H' := Aside0.mk H
             clear H
             obtain ⟨Ao54, co54, eo54⟩ := Kd.R_slice HO898.out
             subst eo54
             obtain ⟨Ao55, co55, eo55⟩ := Kd.R_slice HO_5.out
             subst eo55
             go_wp2_with (first | ((with_reducible refine gate_callee (f := 18) rfl ?_); refine goesL_ (some 83) rfl rfl Try.func18 KR rfl #[.slice Ao54 t895.length co54, .slice Ao55 t870.length co55] rfl TA ?_; (with_reducible refine (laws_eqIntS.calls kj25 _ _ t895 _ _ t870 true _ ?side1 ?side2 ?side3 ?side4 A52.out).mono ?_); (case side1 => exact CW ((Kd.R_reads' HO898.out).2.2)); (case side2 => exact RI HO898); (case side3 => exact CW ((Kd.R_reads' HO_5.out).2.2)); (case side4 => exact RI HO_5); rintro e w' ⟨rfl, ⟨nd, rfl⟩⟩; refine ⟨_, rfl, ?_⟩))
             go_meet
             case rel => exact ⟨_, ((t896 != t871)), TF, H', ⟨by have := HJ7.out; have := HJ25.out; first | omega | exact Nat.le_refl _⟩, ⟨by (with_reducible repeat (first | apply Kd.R_alloc | apply Kd.R_drewN | apply Kd.R_drew)); exact Kd.R_mono HO_8.out (fun _ hk => trivial)⟩, ⟨TB⟩⟩
            ·replace c53 := Bool.eq_false_iff.mpr c53
             subst c53
             replace H := iff' H
             have H' := Aside0.mk H
             clear H
             obtain ⟨Ao56, co56, eo56⟩ := Kd.R_slice HO898.out
             subst eo56
             obtain ⟨Ao57, co57, eo57⟩ := Kd.R_slice HO_5.out
             subst eo57
             go_wp2_with (first | ((with_reducible refine gate_callee (f := 18) rfl ?_); refine goesL_ (some 83) rfl rfl Try.func18 KR rfl #[.slice Ao56 t895.length co56, .slice Ao57 t870.length co57] rfl TA ?_; (with_reducible refine (laws_eqIntS.calls kj25 _ _ t895 _ _ t870 false _ ?side1 ?side2 ?side3 ?side4 A52.out).mono ?_); (case side1 => exact CW ((Kd.R_reads' HO898.out).2.2)); (case side2 => exact RI HO898); (case side3 => exact CW ((Kd.R_reads' HO_5.out).2.2)); (case side4 => exact RI HO_5); rintro e w' ⟨rfl, ⟨nd, rfl⟩⟩; refine ⟨_, rfl, ?_⟩))
             go_meet
             case rel => exact ⟨_, (true), TF, H', ⟨by have := HJ7.out; have := HJ25.out; first | omega | exact Nat.le_refl _⟩, ⟨by (with_reducible repeat (first | apply Kd.R_alloc | apply Kd.R_drewN | apply Kd.R_drew)); exact Kd.R_mono HO_8.out (fun _ hk => trivial)⟩, ⟨TB⟩⟩
           case rest =>
            clear HC46
            obtain ⟨kq, x89_45, rfl, HA, HJ45, HO_8, HB⟩ := hcut
            have hl8_45 := (Kd.R_reads' HO_8.out).1
            rw [hl8_45] at HO_8
            (try simp only [hl8_45])
            cases kq with
            | zero => exact absurd HA.out (by simp [laws_FnExactTurnsOf.j2])
            | succ kj45 =>
             have H := HA.out
             clear HA
             simp only [laws_FnExactTurnsOf.j2] at H
             by_cases c58 : x89_45 = true
             ·subst c58
              replace H := ift H
              obtain rfl := Option.some.inj H
              go_wp2
              go_ret
              exact ⟨TE, TB⟩
             ·replace c58 := Bool.eq_false_iff.mpr c58
              subst c58
              replace H := iff' H
              obtain ⟨t900, A59, H⟩ := bnd H
              by_cases c60 : t900 < 0
              ·rw [if_pos c60] at H
               have c60b0 : decide (t900 < 0) = true := decide_eq_true c60
               clear c60
               obtain rfl := Option.some.inj H
               go_wp2_with (first | ((with_reducible refine gate_callee (f := 39) rfl ?_); refine goesL_ (some 92) rfl rfl Try.func39 KR rfl #[.slice Ao47 t890.length co47, .int .i64 1] rfl TA ?_; (with_reducible refine (laws_heldIntS.calls kj45 _ _ t890 1 t900 _ ?side1 ?side2 A59.out).mono ?_); (case side1 => exact CW ((Kd.R_reads' HO_8.out).2.2)); (case side2 => exact RI HO_8); rintro e w' ⟨rfl, ⟨nd, rfl⟩⟩; refine ⟨_, rfl, ?_⟩))
               go_ret
               exact ⟨TE, TB⟩
              ·rw [if_neg c60] at H
               have c60b0 : decide (t900 < 0) = false := decide_eq_false c60
               clear c60
               by_cases c61 : t900 = t889
               ·rw [if_pos c61] at H
                have c61b0 : (t900 == t889) = true := beq_iff_eq.mpr c61
                have c61b1 : (t900 != t889) = false := bne_eq_false_iff_eq.mpr c61
                clear c61
                obtain rfl := Option.some.inj H
                go_wp2_with (first | ((with_reducible refine gate_callee (f := 39) rfl ?_); refine goesL_ (some 92) rfl rfl Try.func39 KR rfl #[.slice Ao47 t890.length co47, .int .i64 1] rfl TA ?_; (with_reducible refine (laws_heldIntS.calls kj45 _ _ t890 1 t900 _ ?side1 ?side2 A59.out).mono ?_); (case side1 => exact CW ((Kd.R_reads' HO_8.out).2.2)); (case side2 => exact RI HO_8); rintro e w' ⟨rfl, ⟨nd, rfl⟩⟩; refine ⟨_, rfl, ?_⟩))
                go_ret
                exact ⟨TE, TB⟩
               ·rw [if_neg c61] at H
                have c61b0 : (t900 == t889) = false := beq_eq_false_iff_ne.mpr c61
                have c61b1 : (t900 != t889) = true := bne_iff_ne.mpr c61
                obtain rfl := Option.some.inj H
                go_wp2_with (first | ((with_reducible refine gate_callee (f := 39) rfl ?_); refine goesL_ (some 92) rfl rfl Try.func39 KR rfl #[.slice Ao47 t890.length co47, .int .i64 1] rfl TA ?_; (with_reducible refine (laws_heldIntS.calls kj45 _ _ t890 1 t900 _ ?side1 ?side2 A59.out).mono ?_); (case side1 => exact CW ((Kd.R_reads' HO_8.out).2.2)); (case side2 => exact RI HO_8); rintro e w' ⟨rfl, ⟨nd, rfl⟩⟩; refine ⟨_, rfl, ?_⟩))
                go_ret
                exact ⟨TE, TB⟩
          ·rw [if_neg c43] at H
           have c43b0 : (t891 == t889) = false := beq_eq_false_iff_ne.mpr c43
           have c43b1 : (t891 != t889) = true := bne_iff_ne.mpr c43
           obtain rfl := Option.some.inj H
           obtain ⟨Ao62, co62, eo62⟩ := Kd.R_slice HO_8.out
           subst eo62
           go_wp2_with (first | ((with_reducible refine gate_callee (f := 33) rfl ?_); refine goesL_ (some 65) rfl rfl Try.func33 KR rfl #[.slice Ao62 t877.length co62, .int .i64 1] rfl TA ?_; (with_reducible refine (laws_markIntS.calls kj25 (fun k_ => some k_ = (.slice Ao62 t877.length co62 : Value).ownBlock) (.slice Ao62 t877.length co62) t877 1 t889 t890 w _ ?side1 ?side2 A38.out).mono ?_); (case side1 => repeat (first | (with_reducible first | exact HB.out | apply below_alloc | apply pw_below_drewN | apply below_drew1) | exact HB.out)); (case side2 => exact Kd.R_tight rfl HO_8.out); rintro e w63 ⟨rfl, hy0, hb, hkp⟩; refine ⟨_, rfl, ?_⟩; replace HO_5 := RK (fun k_ => some k_ ≠ (.slice Ao62 t877.length co62 : Value).ownBlock) HO_5 hkp; replace HO_8 := Aside0.mk (Kd.R_reok rfl hy0 (fun k_ e_ => HO_8.out.1 k_ e_)); replace HB := Aside0.mk (hb); clear hb; (try clear hkp); (try clear hy0)) | ((with_reducible refine gate_callee (f := 39) rfl ?_); refine goesL_ (some 68) rfl rfl Try.func39 KR rfl #[.slice Ao62 t890.length co62, .int .i64 1] rfl (by (try simp only [List.map_toArray, List.map_cons, List.map_nil]); first | done | (rw [show t890.length = t877.length from (Kd.R_reads' HO_8.out).1.symm] <;> rfl) | rfl | (simp only [List.length_drop, List.length_take]; rfl)) ?_; (with_reducible refine (laws_heldIntS.calls kj25 _ _ t890 1 t891 _ ?side1 ?side2 A39.out).mono ?_); (case side1 => exact CW ((Kd.R_reads' HO_8.out).2.2)); (case side2 => rw [show t890.length = t877.length from (Kd.R_reads' HO_8.out).1.symm]; exact RI HO_8); rintro e w' ⟨rfl, ⟨nd, rfl⟩⟩; refine ⟨_, rfl, ?_⟩))
           go_ret
           exact ⟨TE, TB⟩
     ·replace c24 := Bool.eq_false_iff.mpr c24
      subst c24
      replace H := iff' H
      obtain rfl := Option.some.inj H
      go_wp2_with (first | ((with_reducible refine gate_callee (f := 16) rfl ?_); refine goesL_ (some 44) rfl rfl Try.func16 KR rfl #[.slice A0 l0.length c0] rfl TA ?_; (with_reducible refine (laws_toIntS.calls kj7 _ _ l0 t882 _ ?side1 ?side2 A22.out).mono ?_); (case side1 => exact CW ((Kd.C_below HR0.out HB.out))); (case side2 => exact HC0.out); rintro e w64 ⟨v883, rfl, ho0, hb⟩; refine ⟨_, rfl, ?_⟩; have HO884 := RL (NW (NW (NW ho0 HO_5) HO_7) HO_8); replace HO_5 := EL HO_5 ho0 hb; replace HO_7 := EL HO_7 ho0 hb; replace HO_8 := EL HO_8 ho0 hb; replace HB := BS hb; clear hb; (try clear ho0); obtain ⟨Ao65, co65, eo65⟩ := Kd.R_slice HO884.out; subst eo65) | ((with_reducible refine gate_callee (f := 18) rfl ?_); refine goesL_ (some 45) rfl rfl Try.func18 KR rfl #[.slice Ao13 t874.length co13, .slice Ao65 t882.length co65] rfl TA ?_; (with_reducible refine (laws_eqIntS.calls kj7 _ _ t874 _ _ t882 false _ ?side1 ?side2 ?side3 ?side4 A23.out).mono ?_); (case side1 => exact CW ((Kd.R_reads' HO_7.out).2.2)); (case side2 => exact RI HO_7); (case side3 => exact CW ((Kd.R_reads' HO884.out).2.2)); (case side4 => exact RI HO884); rintro e w' ⟨rfl, ⟨nd, rfl⟩⟩; refine ⟨_, rfl, ?_⟩))
      go_ret
      exact ⟨TE, TB⟩

/-- THE ONE PURE STATEMENT of laws_FnExactTurnsOf. -/
def laws_FnExactTurnsOf.Pure : Prop := ∀ (l0 : List Int) (a1 : Int), (l0.length ≤ maxLen ∧ ∀ x_ ∈ l0, (Lit.int .i64 x_).wf = true) → ((Lit.int .i64 a1).wf = true) → ∃ k, laws_FnExactTurnsOf.f k l0 a1 = some true
end
section
/-! ### spec_GoodTurn: function 27 -/
mutual
def spec_GoodTurn.j0 : Nat → Bool → List Int → List Int → Option (Bool)
 | 0, _, _, _ => none
 | k + 1, x18, x458000, x458001 => if x18 = true then (some false) else (spec_GoodTurn.l0 k 0 x458001 (x458001.length : Int) 0)
def spec_GoodTurn.l0 : Nat → Int → List Int → Int → Int → Option (Bool)
 | 0, _, _, _, _ => none
 | k + 1, x3, x20, x21, x22 => if x22 < x21 then (if 0 ≤ x22 then (if x22 < (x20.length : Int) then ((spec_l1In.f (rd x20 x22) (-10000) 10000).bind fun t460 => (if t460 = true then (spec_GoodTurn.l0 k (wrap64 (x3 + (rd x20 x22))) x20 x21 (wrap64 (x22 + 1))) else (some false))) else (none)) else (none)) else (some (x3 == 0))
end
def spec_GoodTurn.f (k : Nat) (l0_0 : List Int) (l0_1 : List Int) : Option (Bool) := (spec_GoodWeights.f k l0_0).bind fun t458 => (if t458 = true then (spec_GoodTurn.j0 k ((l0_1.length : Int) != (l0_0.length : Int)) l0_0 l0_1) else (spec_GoodTurn.j0 k true l0_0 l0_1))
theorem spec_GoodTurn.calls (k : Nat) (A0_0 : Option Addr) (c0_0 : Nat) (l0_0 : List Int) (A0_1 : Option Addr) (c0_1 : Nat) (l0_1 : List Int) (r : Bool) (w : World) (hr0_0 : Kd.C (Kd.int .i64) w A0_0 l0_0.length l0_0) (hc0_0 : l0_0.length ≤ c0_0) (hr0_1 : Kd.C (Kd.int .i64) w A0_1 l0_1.length l0_1) (hc0_1 : l0_1.length ≤ c0_1) (h : spec_GoodTurn.f k l0_0 l0_1 = some r) :
  Calls Try.prog 27 #[.agg #[.slice A0_0 l0_0.length c0_0, .slice A0_1 l0_1.length c0_1]] w fun e w' => e = .returned (.bool r) ∧ Below w.heap.size w w' := by
 have hu40 := Try.underlying40
 have HR0_0 := Aside0.mk hr0_0
 have HC0_0 := Aside0.mk hc0_0
 clear hr0_0 hc0_0
 have HR0_1 := Aside0.mk hr0_1
 have HC0_1 := Aside0.mk hc0_1
 clear hr0_1 hc0_1
 have HB := Aside0.mk (Below.refl w.heap.size w)
 have H : ((spec_GoodWeights.f k l0_0).bind fun t458 => (if t458 = true then (spec_GoodTurn.j0 k ((l0_1.length : Int) != (l0_0.length : Int)) l0_0 l0_1) else (spec_GoodTurn.j0 k true l0_0 l0_1))) = some r := h
 clear h
 have HC2 := Aside0.mk H
 clear H
 go_enter Try.func27, Try.ntmps27
 go_upto_region 1 with (first | ((with_reducible refine gate_dst (N := 1) rfl ?_); (try (refine gate_guard (by rfl) ?_; dsimp only)); refine bE 1 #[.slice A0_0 l0_0.length c0_0, .slice A0_1 l0_1.length c0_1] 40 ?_; intro gb457 hg w3 hbox hb; have BK457 := Aside0.mk (hbox); have GE457 := bG hg; replace HB := BS hb; clear hb hbox hg))
 (try simp only [Act.put, List.setIfInBounds_toArray, List.set_cons_zero, List.set_cons_succ])
 go_cut [18] (fun v18 wc => ∃ (kq : Nat) (x18_1 : Bool), v18 = .bool x18_1 ∧ Aside0 (spec_GoodTurn.j0 kq x18_1 l0_0 l0_1 = some r) ∧ Aside0 (kq ≤ k) ∧ Aside0 (wc.heap[gb457]? = some (.cells #[(.slice A0_0 l0_0.length c0_0), (.slice A0_1 l0_1.length c0_1)] 40 (0, 0))) ∧ Aside0 (Below w.heap.size w wc))
 case first =>
  have H := HC2.out
  clear HC2
  obtain ⟨t458, A4, H⟩ := bnd H
  by_cases c5 : t458 = true
  ·subst c5
   replace H := ift H
   have H' := Aside0.mk H
   clear H
   have hcz6 := cz2 BK457
   go_wp2_with (first | ((with_reducible refine gate_callee (f := 15) rfl ?_); refine goesL_ (some 8) rfl rfl Try.func15 KR rfl #[.slice A0_0 l0_0.length c0_0] rfl TA ?_; (with_reducible refine (spec_GoodWeights.calls k _ _ l0_0 true _ ?side1 ?side2 A4.out).mono ?_); (case side1 => exact CW ((Kd.C_below HR0_0.out HB.out))); (case side2 => exact HC0_0.out); rintro e w' ⟨rfl, ⟨nd, rfl⟩⟩; refine ⟨_, rfl, ?_⟩))
   go_meet
   case rel => exact ⟨_, (((l0_1.length : Int) != (l0_0.length : Int))), TF, H', ⟨by first | omega | exact Nat.le_refl _⟩, KW BK457, ⟨TB⟩⟩
  ·replace c5 := Bool.eq_false_iff.mpr c5
   subst c5
   replace H := iff' H
   have H' := Aside0.mk H
   clear H
   have hcz7 := cz2 BK457
   go_wp2_with (first | ((with_reducible refine gate_callee (f := 15) rfl ?_); refine goesL_ (some 8) rfl rfl Try.func15 KR rfl #[.slice A0_0 l0_0.length c0_0] rfl TA ?_; (with_reducible refine (spec_GoodWeights.calls k _ _ l0_0 false _ ?side1 ?side2 A4.out).mono ?_); (case side1 => exact CW ((Kd.C_below HR0_0.out HB.out))); (case side2 => exact HC0_0.out); rintro e w' ⟨rfl, ⟨nd, rfl⟩⟩; refine ⟨_, rfl, ?_⟩))
   go_meet
   case rel => exact ⟨_, (true), TF, H', ⟨by first | omega | exact Nat.le_refl _⟩, KW BK457, ⟨TB⟩⟩
 case rest =>
  clear HC2
  obtain ⟨kq, x18_1, rfl, HA, HJ1, BK457, HB⟩ := hcut
  cases kq with
  | zero => exact absurd HA.out (by simp [spec_GoodTurn.j0])
  | succ kj1 =>
   have H := HA.out
   clear HA
   simp only [spec_GoodTurn.j0] at H
   by_cases c8 : x18_1 = true
   ·subst c8
    replace H := ift H
    obtain rfl := Option.some.inj H
    go_wp2
    go_ret
    exact ⟨TE, TB⟩
   ·replace c8 := Bool.eq_false_iff.mpr c8
    subst c8
    replace H := iff' H
    have H' := Aside0.mk H
    clear H
    have hcz9 := cz2 BK457
    go_wp2
    go_loopg [3, 22] kj1 (fun kq v3 v22 w' => ∃ (x3_2 : Int) (x22_2 : Int), v3 = .int .i64 x3_2 ∧ v22 = .int .i64 x22_2 ∧ Aside0 (spec_GoodTurn.l0 kq x3_2 l0_1 (l0_1.length : Int) x22_2 = some r) ∧ Aside0 (kq ≤ kj1) ∧ Aside0 (w'.heap[gb457]? = some (.cells #[(.slice A0_0 l0_0.length c0_0), (.slice A0_1 l0_1.length c0_1)] 40 (0, 0))) ∧ Aside0 (Below w.heap.size w w'))
    case atStart => exact ⟨(0), (0), TF, TF, H', ⟨Nat.le_refl _⟩, KW BK457, ⟨TB⟩⟩
    case round =>
     clear H'
     obtain ⟨x3_2, x22_2, rfl, rfl, HA, HK2, BK457, HB⟩ := hrel
     cases gk with
     | zero => exact absurd HA.out (by simp [spec_GoodTurn.l0])
     | succ k2 =>
      have H := HA.out
      clear HA
      simp only [spec_GoodTurn.l0] at H
      by_cases c10 : x22_2 < (l0_1.length : Int)
      ·rw [if_pos c10] at H
       have c10b0 : decide (x22_2 < (l0_1.length : Int)) = true := decide_eq_true c10
       clear c10
       obtain ⟨c11, H⟩ := ifn H
       have c11b0 : decide (0 ≤ x22_2) = true := decide_eq_true c11
       clear c11
       obtain ⟨c12, H⟩ := ifn H
       have c12b0 : decide (x22_2 < (l0_1.length : Int)) = true := decide_eq_true c12
       clear c12
       obtain ⟨t460, A13, H⟩ := bnd H
       by_cases c14 : t460 = true
       ·subst c14
        replace H := ift H
        have H' := Aside0.mk H
        clear H
        have p459 : 0 ≤ (x22_2 : Int) := TD
        have q459 : x22_2 < (l0_1.length : Int) := TD
        obtain ⟨ad459, e459, hx459_0⟩ := Kd.at_int (Kd.C_below HR0_1.out HB.out) x22_2 p459 q459
        cases e459
        replace p459 := eq_true p459
        replace q459 := eq_true q459
        go_wp2_with (first | ((with_reducible refine gate_callee (f := 58) rfl ?_); refine goesL_ (some 27) rfl rfl Try.func58 KR rfl #[.int .i64 (rd l0_1 x22_2), .int .i64 (-10000), .int .i64 10000] rfl TA ?_; (with_reducible refine (spec_l1In.calls (rd l0_1 x22_2) (-10000) 10000 true _ A13.out).mono ?_); rintro e w' ⟨rfl, ⟨nd, rfl⟩⟩; refine ⟨_, rfl, ?_⟩))
        go_roundg k2
        case measure => have := HJ1.out; have := HK2.out; omega
        case rel => exact ⟨(wrap64 (x3_2 + (rd l0_1 x22_2))), (wrap64 (x22_2 + 1)), TF, TF, H', ⟨by have := HJ1.out; have := HK2.out; omega⟩, KW BK457, ⟨TB⟩⟩
       ·replace c14 := Bool.eq_false_iff.mpr c14
        subst c14
        replace H := iff' H
        obtain rfl := Option.some.inj H
        have p459 : 0 ≤ (x22_2 : Int) := TD
        have q459 : x22_2 < (l0_1.length : Int) := TD
        obtain ⟨ad459, e459, hx459_0⟩ := Kd.at_int (Kd.C_below HR0_1.out HB.out) x22_2 p459 q459
        cases e459
        replace p459 := eq_true p459
        replace q459 := eq_true q459
        go_wp2_with (first | ((with_reducible refine gate_callee (f := 58) rfl ?_); refine goesL_ (some 27) rfl rfl Try.func58 KR rfl #[.int .i64 (rd l0_1 x22_2), .int .i64 (-10000), .int .i64 10000] rfl TA ?_; (with_reducible refine (spec_l1In.calls (rd l0_1 x22_2) (-10000) 10000 false _ A13.out).mono ?_); rintro e w' ⟨rfl, ⟨nd, rfl⟩⟩; refine ⟨_, rfl, ?_⟩))
        go_ret
        exact ⟨TE, TB⟩
      ·rw [if_neg c10] at H
       have c10b0 : decide (x22_2 < (l0_1.length : Int)) = false := decide_eq_false c10
       clear c10
       obtain rfl := Option.some.inj H
       go_wp2
       go_ret
       exact ⟨TE, TB⟩
end
section
/-! ### spec_NextTurn: function 45 -/
def spec_NextTurn.f (k : Nat) (l0_0 : List Int) (l0_1 : List Int) : Option (List Int × List Int × Int × Bool) := (spec_GoodTurn.f k l0_0 l0_1).bind fun t668 => (if t668 = true then ((spec_l12Next.f k l0_0 l0_1).bind fun bt669 => ((spec_GoodTurn.f k bt669.1 bt669.2.1).bind fun t677 => (if t677 = true then (some (bt669.1, bt669.2.1, bt669.2.2, true)) else (some (([] : List Int), ([] : List Int), 0, false))))) else (some (([] : List Int), ([] : List Int), 0, false)))
theorem spec_NextTurn.calls (k : Nat) (A0_0 : Option Addr) (c0_0 : Nat) (l0_0 : List Int) (A0_1 : Option Addr) (c0_1 : Nat) (l0_1 : List Int) (r1 : List Int) (r2 : List Int) (r3 : Int) (r4 : Bool) (w : World) (hr0_0 : Kd.C (Kd.int .i64) w A0_0 l0_0.length l0_0) (hc0_0 : l0_0.length ≤ c0_0) (hr0_1 : Kd.C (Kd.int .i64) w A0_1 l0_1.length l0_1) (hc0_1 : l0_1.length ≤ c0_1) (h : spec_NextTurn.f k l0_0 l0_1 = some (r1, r2, r3, r4)) :
  Calls Try.prog 45 #[.agg #[.slice A0_0 l0_0.length c0_0, .slice A0_1 l0_1.length c0_1]] w fun e w' => ∃ v0_ v1_ : Value, e = .returned (.tuple #[.agg #[v0_, v1_], .int .i64 r3, .bool r4]) ∧ Kd.R (Kd.int .i64) 3 w' w.heap.size (fun k_ => some k_ ≠ (v1_ : Value).ownBlock) v0_ r1 ∧ Kd.R (Kd.int .i64) 3 w' w.heap.size (fun k_ => some k_ ≠ (v0_ : Value).ownBlock) v1_ r2 ∧ Below w.heap.size w w' := by
 have hu40 := Try.underlying40
 have HR0_0 := Aside0.mk hr0_0
 have HC0_0 := Aside0.mk hc0_0
 clear hr0_0 hc0_0
 have HR0_1 := Aside0.mk hr0_1
 have HC0_1 := Aside0.mk hc0_1
 clear hr0_1 hc0_1
 have HB := Aside0.mk (Below.refl w.heap.size w)
 have H : ((spec_GoodTurn.f k l0_0 l0_1).bind fun t668 => (if t668 = true then ((spec_l12Next.f k l0_0 l0_1).bind fun bt669 => ((spec_GoodTurn.f k bt669.1 bt669.2.1).bind fun t677 => (if t677 = true then (some (bt669.1, bt669.2.1, bt669.2.2, true)) else (some (([] : List Int), ([] : List Int), 0, false))))) else (some (([] : List Int), ([] : List Int), 0, false)))) = some (r1, r2, r3, r4) := h
 clear h
 obtain ⟨t668, A2, H⟩ := bnd H
 by_cases c3 : t668 = true
 ·subst c3
  replace H := ift H
  obtain ⟨⟨t669, t672, t675⟩, A4, H⟩ := bnd H
  try dsimp only at H
  obtain ⟨t677, A5, H⟩ := bnd H
  by_cases c6 : t677 = true
  ·subst c6
   replace H := ift H
   simp only [Option.some.injEq, Prod.mk.injEq] at H
   obtain ⟨rfl, rfl, rfl, rfl⟩ := H
   go_enter Try.func45, Try.ntmps45
   go_wp2_with (first | ((with_reducible refine gate_dst (N := 1) rfl ?_); refine bE 1 #[.slice A0_0 l0_0.length c0_0, .slice A0_1 l0_1.length c0_1] 40 ?_; intro gb666 hg w7 hbox hb; have BK666 := Aside0.mk (hbox); have GE666 := bG hg; replace HB := BS hb; clear hb hbox hg) | ((with_reducible refine gate_dst (N := 2) rfl ?_); refine bE 2 #[.slice none 0 0, .slice none 0 0] 40 ?_; intro gb667 hg w8 hbox hb; have BK667 := Aside0.mk (hbox); have GE667 := bG hg; replace HB := BS hb; have NB666_667 := bN BK666 hg; have NB667_666 := bM BK666 hg; replace BK666 := KB BK666 hb; clear hb hbox hg; obtain ⟨hnb9, hnc9⟩ := nn NB666_667; have hcz10 := cz2 BK666) | ((with_reducible refine gate_callee (f := 27) rfl ?_); refine goesL_ (some 8) rfl rfl Try.func27 KR rfl #[.agg #[.slice A0_0 l0_0.length c0_0, .slice A0_1 l0_1.length c0_1]] rfl TA ?_; (with_reducible refine (spec_GoodTurn.calls k _ _ l0_0 _ _ l0_1 true _ ?side1 ?side2 ?side3 ?side4 A2.out).mono ?_); (case side1 => exact CW ((Kd.C_below HR0_0.out HB.out))); (case side2 => exact HC0_0.out); (case side3 => exact CW ((Kd.C_below HR0_1.out HB.out))); (case side4 => exact HC0_1.out); rintro e w11 ⟨rfl, hb⟩; refine ⟨_, rfl, ?_⟩; replace BK666 := KB BK666 hb; replace BK667 := KB BK667 hb; replace HB := BS hb; clear hb; have hcz12 := cz2 BK666) | ((with_reducible refine gate_callee (f := 73) rfl ?_); refine goesL_ (some 13) rfl rfl Try.func73 KR rfl #[.agg #[.slice A0_0 l0_0.length c0_0, .slice A0_1 l0_1.length c0_1]] rfl TA ?_; (with_reducible refine (spec_l12Next.calls k _ _ l0_0 _ _ l0_1 t669 t672 t675 _ ?side1 ?side2 ?side3 ?side4 A4.out).mono ?_); (case side1 => exact CW ((Kd.C_below HR0_0.out HB.out))); (case side2 => exact HC0_0.out); (case side3 => exact CW ((Kd.C_below HR0_1.out HB.out))); (case side4 => exact HC0_1.out); rintro e w13 ⟨v670, v673, rfl, ho0, ho1, hb⟩; refine ⟨_, rfl, ?_⟩; have HO671 := RL ho0; have HO674 := RL ho1; replace BK666 := KB BK666 hb; replace BK667 := KB BK667 hb; replace HB := BS hb; clear hb; (try clear ho0); (try clear ho1)) | ((with_reducible refine gate_dst (N := 5) rfl ?_); refine bE 5 #[.slice none 0 0, .slice none 0 0] 40 ?_; intro gb676 hg w14 hbox hb; replace HO671 := RB HO671 hb; replace HO674 := RB HO674 hb; have BK676 := Aside0.mk (hbox); have GE676 := bG hg; replace HB := BS hb; have NB666_676 := bN BK666 hg; have NB676_666 := bM BK666 hg; replace BK666 := KB BK666 hb; have NB667_676 := bN BK667 hg; have NB676_667 := bM BK667 hg; replace BK667 := KB BK667 hb; clear hb hbox hg; obtain ⟨Ao15, co15, eo15⟩ := Kd.R_slice HO671.out; subst eo15; obtain ⟨hnb16, hnc16⟩ := nn NB676_666; obtain ⟨hnb17, hnc17⟩ := nn NB676_667; have hcz18 := cz2 BK676; obtain ⟨Ao19, co19, eo19⟩ := Kd.R_slice HO674.out; subst eo19) | ((with_reducible refine gate_callee (f := 27) rfl ?_); refine goesL_ (some 17) rfl rfl Try.func27 KR rfl #[.agg #[.slice Ao15 t669.length co15, .slice Ao19 t672.length co19]] rfl TA ?_; (with_reducible refine (spec_GoodTurn.calls k _ _ t669 _ _ t672 true _ ?side1 ?side2 ?side3 ?side4 A5.out).mono ?_); (case side1 => exact RC (RT HO671 BK676)); (case side2 => exact RI HO671); (case side3 => exact RC (RT HO674 BK676)); (case side4 => exact RI HO674); rintro e w20 ⟨rfl, hb⟩; refine ⟨_, rfl, ?_⟩; replace HO671 := RTB HO671 BK676 hb; replace HO674 := RTB HO674 BK676 hb; replace BK666 := KF BK666 hb; replace BK667 := KF BK667 hb; replace BK676 := KP BK676 #[.slice Ao15 t669.length co15, .slice Ao19 t672.length co19] hb; replace HB := BS hb; clear hb; have hcz21 := cz2 BK676; have hcz22 := cz2 BK667))
   refine bodyPost_ret (results_ctt rfl _ _ gb667 40 #[.slice Ao15 t669.length co15, .slice Ao19 t672.length co19] (0, 0) _ rfl (by (with_reducible repeat (first | refine blk_drewN ?_ _ | refine blk_drew ?_ | refine blk_alloc ?_ _)); refine blk_put (cs := #[.slice Ao15 t669.length co15, .slice none 0 0]) ?_ 1 _ rfl; (with_reducible repeat (first | refine blk_drewN ?_ _ | refine blk_drew ?_ | refine blk_alloc ?_ _)); refine blk_put (cs := #[.slice none 0 0, .slice none 0 0]) ?_ 0 _ rfl; (with_reducible repeat (first | refine blk_drewN ?_ _ | refine blk_drew ?_ | refine blk_alloc ?_ _)); exact BK667.out) Try.underlying40 rfl KR) rfl ?_
   exact ⟨_, _, TE, by (with_reducible repeat (first | apply Kd.R_alloc | apply Kd.R_drewN | apply Kd.R_drew)); exact Kd.R_mono (Kd.R_far (p := ⟨gb667, 1, none⟩) (Kd.R_far (p := ⟨gb667, 0, none⟩) (Kd.R_types HO671.out BK667.out (by decide)) (fun _ hk => hk.2) (.slice Ao15 t669.length co15)) (fun _ hk => hk.2) (.slice Ao19 t672.length co19)) (fun _ hk => hk.1), by (with_reducible repeat (first | apply Kd.R_alloc | apply Kd.R_drewN | apply Kd.R_drew)); exact Kd.R_mono (Kd.R_far (p := ⟨gb667, 1, none⟩) (Kd.R_far (p := ⟨gb667, 0, none⟩) (Kd.R_types HO674.out BK667.out (by decide)) (fun _ hk => hk.2) (.slice Ao15 t669.length co15)) (fun _ hk => hk.2) (.slice Ao19 t672.length co19)) (fun _ hk => hk.1), TB⟩
  ·replace c6 := Bool.eq_false_iff.mpr c6
   subst c6
   replace H := iff' H
   simp only [Option.some.injEq, Prod.mk.injEq] at H
   obtain ⟨rfl, rfl, rfl, rfl⟩ := H
   go_enter Try.func45, Try.ntmps45
   go_wp2_with (first | ((with_reducible refine gate_dst (N := 1) rfl ?_); refine bE 1 #[.slice A0_0 l0_0.length c0_0, .slice A0_1 l0_1.length c0_1] 40 ?_; intro gb666 hg w23 hbox hb; have BK666 := Aside0.mk (hbox); have GE666 := bG hg; replace HB := BS hb; clear hb hbox hg) | ((with_reducible refine gate_dst (N := 2) rfl ?_); refine bE 2 #[.slice none 0 0, .slice none 0 0] 40 ?_; intro gb667 hg w24 hbox hb; have BK667 := Aside0.mk (hbox); have GE667 := bG hg; replace HB := BS hb; have NB666_667 := bN BK666 hg; have NB667_666 := bM BK666 hg; replace BK666 := KB BK666 hb; clear hb hbox hg; obtain ⟨hnb25, hnc25⟩ := nn NB666_667; have hcz26 := cz2 BK666) | ((with_reducible refine gate_callee (f := 27) rfl ?_); refine goesL_ (some 8) rfl rfl Try.func27 KR rfl #[.agg #[.slice A0_0 l0_0.length c0_0, .slice A0_1 l0_1.length c0_1]] rfl TA ?_; (with_reducible refine (spec_GoodTurn.calls k _ _ l0_0 _ _ l0_1 true _ ?side1 ?side2 ?side3 ?side4 A2.out).mono ?_); (case side1 => exact CW ((Kd.C_below HR0_0.out HB.out))); (case side2 => exact HC0_0.out); (case side3 => exact CW ((Kd.C_below HR0_1.out HB.out))); (case side4 => exact HC0_1.out); rintro e w27 ⟨rfl, hb⟩; refine ⟨_, rfl, ?_⟩; replace BK666 := KB BK666 hb; replace BK667 := KB BK667 hb; replace HB := BS hb; clear hb; have hcz28 := cz2 BK666) | ((with_reducible refine gate_callee (f := 73) rfl ?_); refine goesL_ (some 13) rfl rfl Try.func73 KR rfl #[.agg #[.slice A0_0 l0_0.length c0_0, .slice A0_1 l0_1.length c0_1]] rfl TA ?_; (with_reducible refine (spec_l12Next.calls k _ _ l0_0 _ _ l0_1 t669 t672 t675 _ ?side1 ?side2 ?side3 ?side4 A4.out).mono ?_); (case side1 => exact CW ((Kd.C_below HR0_0.out HB.out))); (case side2 => exact HC0_0.out); (case side3 => exact CW ((Kd.C_below HR0_1.out HB.out))); (case side4 => exact HC0_1.out); rintro e w29 ⟨v670, v673, rfl, ho0, ho1, hb⟩; refine ⟨_, rfl, ?_⟩; have HO671 := RL ho0; have HO674 := RL ho1; replace BK666 := KB BK666 hb; replace BK667 := KB BK667 hb; replace HB := BS hb; clear hb; (try clear ho0); (try clear ho1)) | ((with_reducible refine gate_dst (N := 5) rfl ?_); refine bE 5 #[.slice none 0 0, .slice none 0 0] 40 ?_; intro gb676 hg w30 hbox hb; replace HO671 := RB HO671 hb; replace HO674 := RB HO674 hb; have BK676 := Aside0.mk (hbox); have GE676 := bG hg; replace HB := BS hb; have NB666_676 := bN BK666 hg; have NB676_666 := bM BK666 hg; replace BK666 := KB BK666 hb; have NB667_676 := bN BK667 hg; have NB676_667 := bM BK667 hg; replace BK667 := KB BK667 hb; clear hb hbox hg; obtain ⟨Ao31, co31, eo31⟩ := Kd.R_slice HO671.out; subst eo31; obtain ⟨hnb32, hnc32⟩ := nn NB676_666; obtain ⟨hnb33, hnc33⟩ := nn NB676_667; have hcz34 := cz2 BK676; obtain ⟨Ao35, co35, eo35⟩ := Kd.R_slice HO674.out; subst eo35) | ((with_reducible refine gate_callee (f := 27) rfl ?_); refine goesL_ (some 17) rfl rfl Try.func27 KR rfl #[.agg #[.slice Ao31 t669.length co31, .slice Ao35 t672.length co35]] rfl TA ?_; (with_reducible refine (spec_GoodTurn.calls k _ _ t669 _ _ t672 false _ ?side1 ?side2 ?side3 ?side4 A5.out).mono ?_); (case side1 => exact RC (RT HO671 BK676)); (case side2 => exact RI HO671); (case side3 => exact RC (RT HO674 BK676)); (case side4 => exact RI HO674); rintro e w36 ⟨rfl, hb⟩; refine ⟨_, rfl, ?_⟩; replace HO671 := RTB HO671 BK676 hb; replace HO674 := RTB HO674 BK676 hb; replace BK666 := KF BK666 hb; replace BK667 := KF BK667 hb; replace BK676 := KP BK676 #[.slice Ao31 t669.length co31, .slice Ao35 t672.length co35] hb; replace HB := BS hb; clear hb; have hcz37 := cz2 BK667))
   refine bodyPost_ret (results_ctt rfl _ _ gb667 40 #[.slice none 0 0, .slice none 0 0] (0, 0) _ rfl (by (with_reducible repeat (first | refine blk_drewN ?_ _ | refine blk_drew ?_ | refine blk_alloc ?_ _)); refine blk_put (cs := #[.slice none 0 0, .slice none 0 0]) ?_ 1 _ rfl; (with_reducible repeat (first | refine blk_drewN ?_ _ | refine blk_drew ?_ | refine blk_alloc ?_ _)); refine blk_put (cs := #[.slice none 0 0, .slice none 0 0]) ?_ 0 _ rfl; (with_reducible repeat (first | refine blk_drewN ?_ _ | refine blk_drew ?_ | refine blk_alloc ?_ _)); exact BK667.out) Try.underlying40 rfl KR) rfl ?_
   exact ⟨_, _, TE, TZ, TZ, TB⟩
 ·replace c3 := Bool.eq_false_iff.mpr c3
  subst c3
  replace H := iff' H
  simp only [Option.some.injEq, Prod.mk.injEq] at H
  obtain ⟨rfl, rfl, rfl, rfl⟩ := H
  go_enter Try.func45, Try.ntmps45
  go_wp2_with (first | ((with_reducible refine gate_dst (N := 1) rfl ?_); refine bE 1 #[.slice A0_0 l0_0.length c0_0, .slice A0_1 l0_1.length c0_1] 40 ?_; intro gb666 hg w38 hbox hb; have BK666 := Aside0.mk (hbox); have GE666 := bG hg; replace HB := BS hb; clear hb hbox hg) | ((with_reducible refine gate_dst (N := 2) rfl ?_); refine bE 2 #[.slice none 0 0, .slice none 0 0] 40 ?_; intro gb667 hg w39 hbox hb; have BK667 := Aside0.mk (hbox); have GE667 := bG hg; replace HB := BS hb; have NB666_667 := bN BK666 hg; have NB667_666 := bM BK666 hg; replace BK666 := KB BK666 hb; clear hb hbox hg; obtain ⟨hnb40, hnc40⟩ := nn NB666_667; have hcz41 := cz2 BK666) | ((with_reducible refine gate_callee (f := 27) rfl ?_); refine goesL_ (some 8) rfl rfl Try.func27 KR rfl #[.agg #[.slice A0_0 l0_0.length c0_0, .slice A0_1 l0_1.length c0_1]] rfl TA ?_; (with_reducible refine (spec_GoodTurn.calls k _ _ l0_0 _ _ l0_1 false _ ?side1 ?side2 ?side3 ?side4 A2.out).mono ?_); (case side1 => exact CW ((Kd.C_below HR0_0.out HB.out))); (case side2 => exact HC0_0.out); (case side3 => exact CW ((Kd.C_below HR0_1.out HB.out))); (case side4 => exact HC0_1.out); rintro e w42 ⟨rfl, hb⟩; refine ⟨_, rfl, ?_⟩; replace BK666 := KB BK666 hb; replace BK667 := KB BK667 hb; replace HB := BS hb; clear hb; have hcz43 := cz2 BK667))
  refine bodyPost_ret (results_ctt rfl _ _ gb667 40 #[.slice none 0 0, .slice none 0 0] (0, 0) _ rfl (by (with_reducible repeat (first | refine blk_drewN ?_ _ | refine blk_drew ?_ | refine blk_alloc ?_ _)); refine blk_put (cs := #[.slice none 0 0, .slice none 0 0]) ?_ 1 _ rfl; (with_reducible repeat (first | refine blk_drewN ?_ _ | refine blk_drew ?_ | refine blk_alloc ?_ _)); refine blk_put (cs := #[.slice none 0 0, .slice none 0 0]) ?_ 0 _ rfl; (with_reducible repeat (first | refine blk_drewN ?_ _ | refine blk_drew ?_ | refine blk_alloc ?_ _)); exact BK667.out) Try.underlying40 rfl KR) rfl ?_
  exact ⟨_, _, TE, TZ, TZ, TB⟩
end
end Go.Proofs.Ytioeomjjfajldaa.Pp
