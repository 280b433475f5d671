/- The functions that the law reaches, one Lean function and its proof for each; written by wip/pp of this workplace, joined by claimit.py. -/
import Derived.Test.YthohohfmdieohaaGreatDoorProg
import Derived.Below
import Derived.Deep.Draws
import Derived.Deep.AppendLies
import Derived.Maps.AppendAt
import Derived.OwnWalk
import Derived.Laws.BytesArg
import Derived.Laws.MakeOwn
import Derived.Laws.OwnMore
import Derived.Deep.OwnRows
import Derived.Tactics
import Derived.Lib.ConvBytes
import Derived.Laws.Slices
import Derived.WalkKit
import Derived.KernelRfl
import Derived.RowKit3
import Derived.Deep.LoopGhost
import Derived.Deep.QuietTactic
import Derived.BigQuiet
import Derived.WideLaws
import Derived.Deep.DeepCutAuto
import Derived.Deep.CutBlock
import Derived.Deep.RegionHeld3
import Derived.Laws.Rows
import Derived.Lib.AppendStr
import Derived.ArgAppend
import Derived.Laws.IdiomCopy
import Derived.OrdersHeld
import Derived.Laws.BitsLemmas
import Derived.RowKit
import Derived.Test.YthohohfmdieohaaGreatDoorKFnExactGoodDiffW
import Derived.Test.YthohohfmdieohaaGreatDoorJFnExactGoodDiff0
import Derived.Test.YthohohfmdieohaaGreatDoorJFnExactGoodDiff1
namespace Go.Proofs.YthohohfmdieohaaGreatDoor.Pp
open Go.RowKit Go.Proofs.YthohohfmdieohaaGreatDoorW.PrintWords Go.Proofs.YthohohfmdieohaaGreatDoorW.PrintLast Go.Proofs.YthohohfmdieohaaGreatDoorW.PrintMore
attribute [local go_sem] max2_int min2_int max_two min_two max_three min_three max_four min_four   -- for this text's walks alone
set_option linter.unusedVariables false
set_option linter.unusedSimpArgs false
set_option maxHeartbeats 8000000
set_option maxRecDepth 100000

section
/-! ### impl_isDiff: function 65 -/
def impl_isDiff.f (k : Nat) (a0_0 : Int) (a0_1 : Int) (l0_2 : List (S_Record)) (l0_3 : List (S_Record)) : Option (Bool) := (impl_isCounter.f a0_0).bind fun t392 => (if t392 = true then ((impl_isCounter.f a0_1).bind fun t393 => (if t393 = true then (if a0_0 = a0_1 then (some false) else (if (l0_2.length : Int) ≤ 40 then (if (l0_3.length : Int) ≤ 40 then ((impl_areRising.f k l0_2).bind fun t394 => (if t394 = true then ((impl_areRising.f k l0_3).bind fun t395 => (some t395)) else (some false))) else (some false)) else (some false))) else (some false))) else (some false))
theorem impl_isDiff.mono : ∀ a0 a1 a2 a3 k, LeO (impl_isDiff.f k a0 a1 a2 a3) (impl_isDiff.f (k + 1) a0 a1 a2 a3) := by
 intro a0 a1 a2 a3 k
 unfold impl_isDiff.f
 repeat' first
   | (with_reducible exact impl_areRising.mono _ _)
   | (with_reducible exact LeO.refl _)
   | (with_reducible exact LeO.none _)
   | (with_reducible refine LeO.ite ?_ ?_)
   | (with_reducible refine LeO.bind ?_ (fun _ => ?_))
   | exact impl_areRising.mono _ _
   | exact LeO.none _
   | refine LeO.ite ?_ ?_
   | refine LeO.bind ?_ (fun _ => ?_)
theorem impl_isDiff.calls (k : Nat) (a0_0 : Int) (a0_1 : Int) (A0_2 : Option Addr) (c0_2 : Nat) (l0_2 : List (S_Record)) (A0_3 : Option Addr) (c0_3 : Nat) (l0_3 : List (S_Record)) (r : Bool) (w : World) (hr0_2 : Kd.C k_Record w A0_2 l0_2.length l0_2) (hc0_2 : l0_2.length ≤ c0_2) (hr0_3 : Kd.C k_Record w A0_3 l0_3.length l0_3) (hc0_3 : l0_3.length ≤ c0_3) (hG_ : Glob w) (h : impl_isDiff.f k a0_0 a0_1 l0_2 l0_3 = some r) :
  Calls Tryz.prog 65 #[.agg #[.int .i64 a0_0, .int .i64 a0_1, .slice A0_2 l0_2.length c0_2, .slice A0_3 l0_3.length c0_3]] w fun e w' => e = .returned (.bool r) ∧ Below w.heap.size w w' := by
 have hu29 := Tryz.underlying29
 have HR0_2 := Aside0.mk hr0_2
 have HC0_2 := Aside0.mk hc0_2
 clear hr0_2 hc0_2
 have HR0_3 := Aside0.mk hr0_3
 have HC0_3 := Aside0.mk hc0_3
 clear hr0_3 hc0_3
 have HGL := Aside0.mk hG_
 clear hG_
 have HB := Aside0.mk (Below.refl w.heap.size w)
 have H : ((impl_isCounter.f a0_0).bind fun t392 => (if t392 = true then ((impl_isCounter.f a0_1).bind fun t393 => (if t393 = true then (if a0_0 = a0_1 then (some false) else (if (l0_2.length : Int) ≤ 40 then (if (l0_3.length : Int) ≤ 40 then ((impl_areRising.f k l0_2).bind fun t394 => (if t394 = true then ((impl_areRising.f k l0_3).bind fun t395 => (some t395)) else (some false))) else (some false)) else (some false))) else (some false))) else (some false))) = some r := h
 clear h
 obtain ⟨t392, A2, H⟩ := bnd H
 by_cases c3 : t392 = true
 ·subst c3
  replace H := ift H
  obtain ⟨t393, A4, H⟩ := bnd H
  by_cases c5 : t393 = true
  ·subst c5
   replace H := ift H
   by_cases c6 : a0_0 = a0_1
   ·rw [if_pos c6] at H
    have c6b0 : (a0_0 == a0_1) = true := beq_iff_eq.mpr c6
    have c6b1 : (a0_0 != a0_1) = false := bne_eq_false_iff_eq.mpr c6
    clear c6
    obtain rfl := Option.some.inj H
    go_enter Tryz.func65, Tryz.ntmps65
    go_wp2_with (first | ((with_reducible refine gate_dst (N := 1) rfl ?_); (try (refine gate_guard (by rfl) ?_; dsimp only)); refine bE 1 #[.int .i64 a0_0, .int .i64 a0_1, .slice A0_2 l0_2.length c0_2, .slice A0_3 l0_3.length c0_3] 29 ?_; intro gb391 hg w7 hbox hb; have BK391 := Aside0.mk (hbox); have GE391 := bG hg; replace HB := BS hb; clear hb hbox hg; have hcz8 := cz4 BK391) | ((with_reducible refine gate_callee (f := 78) rfl ?_); refine goesL_ (some 5) rfl rfl Tryz.func78 KR rfl #[.int .i64 a0_0] rfl TA ?_; (with_reducible refine (impl_isCounter.calls a0_0 true _ A2.out).mono ?_); rintro e w' ⟨rfl, ⟨nd, rfl⟩⟩; refine ⟨_, rfl, ?_⟩) | (go_at_call 78; (with_reducible refine (impl_isCounter.calls a0_1 true _ A4.out).mono ?_); rintro e w' ⟨rfl, ⟨nd, rfl⟩⟩))
    go_ret
    exact ⟨TE, TB⟩
   ·rw [if_neg c6] at H
    have c6b0 : (a0_0 == a0_1) = false := beq_eq_false_iff_ne.mpr c6
    have c6b1 : (a0_0 != a0_1) = true := bne_iff_ne.mpr c6
    by_cases c9 : (l0_2.length : Int) ≤ 40
    ·rw [if_pos c9] at H
     have c9b0 : decide ((l0_2.length : Int) ≤ 40) = true := decide_eq_true c9
     have c9b1 : decide (l0_2.length ≤ 40) = true := decide_eq_true (by omega)
     clear c9
     by_cases c10 : (l0_3.length : Int) ≤ 40
     ·rw [if_pos c10] at H
      have c10b0 : decide ((l0_3.length : Int) ≤ 40) = true := decide_eq_true c10
      have c10b1 : decide (l0_3.length ≤ 40) = true := decide_eq_true (by omega)
      clear c10
      obtain ⟨t394, A11, H⟩ := bnd H
      by_cases c12 : t394 = true
      ·subst c12
       replace H := ift H
       obtain ⟨t395, A13, H⟩ := bnd H
       obtain rfl := Option.some.inj H
       go_enter Tryz.func65, Tryz.ntmps65
       go_wp2_with (first | ((with_reducible refine gate_dst (N := 1) rfl ?_); (try (refine gate_guard (by rfl) ?_; dsimp only)); refine bE 1 #[.int .i64 a0_0, .int .i64 a0_1, .slice A0_2 l0_2.length c0_2, .slice A0_3 l0_3.length c0_3] 29 ?_; intro gb391 hg w14 hbox hb; have BK391 := Aside0.mk (hbox); have GE391 := bG hg; replace HB := BS hb; clear hb hbox hg; have hcz15 := cz4 BK391) | ((with_reducible refine gate_callee (f := 78) rfl ?_); refine goesL_ (some 5) rfl rfl Tryz.func78 KR rfl #[.int .i64 a0_0] rfl TA ?_; (with_reducible refine (impl_isCounter.calls a0_0 true _ A2.out).mono ?_); rintro e w' ⟨rfl, ⟨nd, rfl⟩⟩; refine ⟨_, rfl, ?_⟩) | (go_at_call 78; (with_reducible refine (impl_isCounter.calls a0_1 true _ A4.out).mono ?_); rintro e w' ⟨rfl, ⟨nd, rfl⟩⟩) | (go_at_call 121; (with_reducible refine (impl_areRising.calls k _ _ l0_2 true _ ?side1 ?side2 ?side3 A11.out).mono ?_); (case side1 => exact CW ((Kd.C_below HR0_2.out TB))); (case side2 => exact HC0_2.out); (case side3 => exact GW HGL); rintro e w16 ⟨rfl, hb⟩; replace BK391 := KB BK391 hb; replace HB := BS hb; (try clear hb); (try clear hb2); (try clear hk); (try clear hi); have hcz17 := cz4 BK391) | (go_at_call 121; (with_reducible refine (impl_areRising.calls k _ _ l0_3 t395 _ ?side1 ?side2 ?side3 A13.out).mono ?_); (case side1 => exact CW ((Kd.C_below HR0_3.out HB.out))); (case side2 => exact HC0_3.out); (case side3 => exact GW HGL); rintro e w18 ⟨rfl, hb⟩; replace BK391 := KB BK391 hb; replace HB := BS hb; (try clear hb); (try clear hb2); (try clear hk); (try clear hi)))
       go_ret
       exact ⟨TE, TB⟩
      ·replace c12 := Bool.eq_false_iff.mpr c12
       subst c12
       replace H := iff' H
       obtain rfl := Option.some.inj H
       go_enter Tryz.func65, Tryz.ntmps65
       go_wp2_with (first | ((with_reducible refine gate_dst (N := 1) rfl ?_); (try (refine gate_guard (by rfl) ?_; dsimp only)); refine bE 1 #[.int .i64 a0_0, .int .i64 a0_1, .slice A0_2 l0_2.length c0_2, .slice A0_3 l0_3.length c0_3] 29 ?_; intro gb391 hg w19 hbox hb; have BK391 := Aside0.mk (hbox); have GE391 := bG hg; replace HB := BS hb; clear hb hbox hg; have hcz20 := cz4 BK391) | ((with_reducible refine gate_callee (f := 78) rfl ?_); refine goesL_ (some 5) rfl rfl Tryz.func78 KR rfl #[.int .i64 a0_0] rfl TA ?_; (with_reducible refine (impl_isCounter.calls a0_0 true _ A2.out).mono ?_); rintro e w' ⟨rfl, ⟨nd, rfl⟩⟩; refine ⟨_, rfl, ?_⟩) | (go_at_call 78; (with_reducible refine (impl_isCounter.calls a0_1 true _ A4.out).mono ?_); rintro e w' ⟨rfl, ⟨nd, rfl⟩⟩) | (go_at_call 121; (with_reducible refine (impl_areRising.calls k _ _ l0_2 false _ ?side1 ?side2 ?side3 A11.out).mono ?_); (case side1 => exact CW ((Kd.C_below HR0_2.out TB))); (case side2 => exact HC0_2.out); (case side3 => exact GW HGL); rintro e w21 ⟨rfl, hb⟩; replace BK391 := KB BK391 hb; replace HB := BS hb; (try clear hb); (try clear hb2); (try clear hk); (try clear hi)))
       go_ret
       exact ⟨TE, TB⟩
     ·rw [if_neg c10] at H
      have c10b0 : decide ((l0_3.length : Int) ≤ 40) = false := decide_eq_false c10
      have c10b1 : decide (l0_3.length ≤ 40) = false := decide_eq_false (by omega)
      clear c10
      obtain rfl := Option.some.inj H
      go_enter Tryz.func65, Tryz.ntmps65
      go_wp2_with (first | ((with_reducible refine gate_dst (N := 1) rfl ?_); (try (refine gate_guard (by rfl) ?_; dsimp only)); refine bE 1 #[.int .i64 a0_0, .int .i64 a0_1, .slice A0_2 l0_2.length c0_2, .slice A0_3 l0_3.length c0_3] 29 ?_; intro gb391 hg w22 hbox hb; have BK391 := Aside0.mk (hbox); have GE391 := bG hg; replace HB := BS hb; clear hb hbox hg; have hcz23 := cz4 BK391) | ((with_reducible refine gate_callee (f := 78) rfl ?_); refine goesL_ (some 5) rfl rfl Tryz.func78 KR rfl #[.int .i64 a0_0] rfl TA ?_; (with_reducible refine (impl_isCounter.calls a0_0 true _ A2.out).mono ?_); rintro e w' ⟨rfl, ⟨nd, rfl⟩⟩; refine ⟨_, rfl, ?_⟩) | (go_at_call 78; (with_reducible refine (impl_isCounter.calls a0_1 true _ A4.out).mono ?_); rintro e w' ⟨rfl, ⟨nd, rfl⟩⟩))
      go_ret
      exact ⟨TE, TB⟩
    ·rw [if_neg c9] at H
     have c9b0 : decide ((l0_2.length : Int) ≤ 40) = false := decide_eq_false c9
     have c9b1 : decide (l0_2.length ≤ 40) = false := decide_eq_false (by omega)
     clear c9
     obtain rfl := Option.some.inj H
     go_enter Tryz.func65, Tryz.ntmps65
     go_wp2_with (first | ((with_reducible refine gate_dst (N := 1) rfl ?_); (try (refine gate_guard (by rfl) ?_; dsimp only)); refine bE 1 #[.int .i64 a0_0, .int .i64 a0_1, .slice A0_2 l0_2.length c0_2, .slice A0_3 l0_3.length c0_3] 29 ?_; intro gb391 hg w24 hbox hb; have BK391 := Aside0.mk (hbox); have GE391 := bG hg; replace HB := BS hb; clear hb hbox hg; have hcz25 := cz4 BK391) | ((with_reducible refine gate_callee (f := 78) rfl ?_); refine goesL_ (some 5) rfl rfl Tryz.func78 KR rfl #[.int .i64 a0_0] rfl TA ?_; (with_reducible refine (impl_isCounter.calls a0_0 true _ A2.out).mono ?_); rintro e w' ⟨rfl, ⟨nd, rfl⟩⟩; refine ⟨_, rfl, ?_⟩) | (go_at_call 78; (with_reducible refine (impl_isCounter.calls a0_1 true _ A4.out).mono ?_); rintro e w' ⟨rfl, ⟨nd, rfl⟩⟩))
     go_ret
     exact ⟨TE, TB⟩
  ·replace c5 := Bool.eq_false_iff.mpr c5
   subst c5
   replace H := iff' H
   obtain rfl := Option.some.inj H
   go_enter Tryz.func65, Tryz.ntmps65
   go_wp2_with (first | ((with_reducible refine gate_dst (N := 1) rfl ?_); (try (refine gate_guard (by rfl) ?_; dsimp only)); refine bE 1 #[.int .i64 a0_0, .int .i64 a0_1, .slice A0_2 l0_2.length c0_2, .slice A0_3 l0_3.length c0_3] 29 ?_; intro gb391 hg w26 hbox hb; have BK391 := Aside0.mk (hbox); have GE391 := bG hg; replace HB := BS hb; clear hb hbox hg; have hcz27 := cz4 BK391) | ((with_reducible refine gate_callee (f := 78) rfl ?_); refine goesL_ (some 5) rfl rfl Tryz.func78 KR rfl #[.int .i64 a0_0] rfl TA ?_; (with_reducible refine (impl_isCounter.calls a0_0 true _ A2.out).mono ?_); rintro e w' ⟨rfl, ⟨nd, rfl⟩⟩; refine ⟨_, rfl, ?_⟩) | (go_at_call 78; (with_reducible refine (impl_isCounter.calls a0_1 false _ A4.out).mono ?_); rintro e w' ⟨rfl, ⟨nd, rfl⟩⟩))
   go_ret
   exact ⟨TE, TB⟩
 ·replace c3 := Bool.eq_false_iff.mpr c3
  subst c3
  replace H := iff' H
  obtain rfl := Option.some.inj H
  go_enter Tryz.func65, Tryz.ntmps65
  go_wp2_with (first | ((with_reducible refine gate_dst (N := 1) rfl ?_); (try (refine gate_guard (by rfl) ?_; dsimp only)); refine bE 1 #[.int .i64 a0_0, .int .i64 a0_1, .slice A0_2 l0_2.length c0_2, .slice A0_3 l0_3.length c0_3] 29 ?_; intro gb391 hg w28 hbox hb; have BK391 := Aside0.mk (hbox); have GE391 := bG hg; replace HB := BS hb; clear hb hbox hg; have hcz29 := cz4 BK391) | ((with_reducible refine gate_callee (f := 78) rfl ?_); refine goesL_ (some 5) rfl rfl Tryz.func78 KR rfl #[.int .i64 a0_0] rfl TA ?_; (with_reducible refine (impl_isCounter.calls a0_0 false _ A2.out).mono ?_); rintro e w' ⟨rfl, ⟨nd, rfl⟩⟩; refine ⟨_, rfl, ?_⟩))
  go_ret
  exact ⟨TE, TB⟩
end
section
attribute [local go_sem high] eqARecord
/-! ### slices_Index_impl_Record_impl_Record: function 123 -/
def slices_Index_impl_Record_impl_Record.l0 : Nat → List (S_Record) → Int → Int → ByteArray → Int → Int → ByteArray → Option (Int)
 | 0, _, _, _, _, _, _, _ => none
 | k + 1, x0, x7, x8, x397000, x397001, x397002, x397003 => if x8 < x7 then (if 0 ≤ x8 then (if x8 < (x0.length : Int) then (if (x397000.toList == (((rd_TRecord x0 x8).f0).toList) && (x397001 == ((rd_TRecord x0 x8).f1) && (x397002 == ((rd_TRecord x0 x8).f2) && (x397003.toList == (((rd_TRecord x0 x8).f3).toList))))) = true then (some x8) else (slices_Index_impl_Record_impl_Record.l0 k x0 x7 (wrap64 (x8 + 1)) x397000 x397001 x397002 x397003)) else (none)) else (none)) else (some (-1))
def slices_Index_impl_Record_impl_Record.f (k : Nat) (l0 : List (S_Record)) (a1_0 : ByteArray) (a1_1 : Int) (a1_2 : Int) (a1_3 : ByteArray) : Option (Int) := slices_Index_impl_Record_impl_Record.l0 k l0 (l0.length : Int) 0 a1_0 a1_1 a1_2 a1_3
theorem slices_Index_impl_Record_impl_Record.mono_l : ∀ k, (∀ y0 y1 y2 y3 y4 y5 y6, LeO (slices_Index_impl_Record_impl_Record.l0 k y0 y1 y2 y3 y4 y5 y6) (slices_Index_impl_Record_impl_Record.l0 (k + 1) y0 y1 y2 y3 y4 y5 y6))
 | 0 => fun _ _ _ _ _ _ _ r h => by simp [slices_Index_impl_Record_impl_Record.l0] at h
 | k + 1 => by
  have ih0 := slices_Index_impl_Record_impl_Record.mono_l k
  ·intro y0 y1 y2 y3 y4 y5 y6
   unfold slices_Index_impl_Record_impl_Record.l0
   repeat' first
   | (with_reducible exact ih0 _ _ _ _ _ _ _)
   | (with_reducible exact LeO.refl _)
   | (with_reducible exact LeO.none _)
   | (with_reducible refine LeO.ite ?_ ?_)
   | (with_reducible refine LeO.bind ?_ (fun _ => ?_))
   | exact ih0 _ _ _ _ _ _ _
   | exact LeO.none _
   | refine LeO.ite ?_ ?_
   | refine LeO.bind ?_ (fun _ => ?_)
theorem slices_Index_impl_Record_impl_Record.mono : ∀ a0 a1 a2 a3 a4 k, LeO (slices_Index_impl_Record_impl_Record.f k a0 a1 a2 a3 a4) (slices_Index_impl_Record_impl_Record.f (k + 1) a0 a1 a2 a3 a4) := by
 intro a0 a1 a2 a3 a4 k
 have ih0 := slices_Index_impl_Record_impl_Record.mono_l k
 unfold slices_Index_impl_Record_impl_Record.f
 repeat' first
   | (with_reducible exact ih0 _ _ _ _ _ _ _)
   | (with_reducible exact LeO.refl _)
   | (with_reducible exact LeO.none _)
   | (with_reducible refine LeO.ite ?_ ?_)
   | (with_reducible refine LeO.bind ?_ (fun _ => ?_))
   | exact ih0 _ _ _ _ _ _ _
   | exact LeO.none _
   | refine LeO.ite ?_ ?_
   | refine LeO.bind ?_ (fun _ => ?_)
theorem slices_Index_impl_Record_impl_Record.calls (k : Nat) (A0 : Option Addr) (c0 : Nat) (l0 : List (S_Record)) (a1_0 : ByteArray) (a1_1 : Int) (a1_2 : Int) (a1_3 : ByteArray) (r : Int) (w : World) (hr0 : Kd.C k_Record w A0 l0.length l0) (hc0 : l0.length ≤ c0) (h : slices_Index_impl_Record_impl_Record.f k l0 a1_0 a1_1 a1_2 a1_3 = some r) :
  Calls Tryz.prog 123 #[.slice A0 l0.length c0, .agg #[.string a1_0, .int .i64 a1_1, .int .i64 a1_2, .string a1_3]] w fun e w' => e = .returned (.int .i64 r) ∧ Below w.heap.size w w' := by
 have hu93 := Tryz.underlying93
 have HR0 := Aside0.mk hr0
 have HC0 := Aside0.mk hc0
 clear hr0 hc0
 have HB := Aside0.mk (Below.refl w.heap.size w)
 have H : (slices_Index_impl_Record_impl_Record.l0 k l0 (l0.length : Int) 0 a1_0 a1_1 a1_2 a1_3) = some r := h
 clear h
 have H' := Aside0.mk H
 clear H
 go_enter Tryz.func123, Tryz.ntmps123
 go_wp2_with (first | ((with_reducible refine gate_dst (N := 3) rfl ?_); refine bE 3 #[.string a1_0, .int .i64 a1_1, .int .i64 a1_2, .string a1_3] 93 ?_; intro gb396 hg w3 hbox hb; have BK396 := Aside0.mk (hbox); have GE396 := bG hg; replace HB := BS hb; clear hb hbox hg))
 repeat (go_quiet (first | ((with_reducible refine gate_dst (N := 3) rfl ?_); refine bE 3 #[.string a1_0, .int .i64 a1_1, .int .i64 a1_2, .string a1_3] 93 ?_; intro gb396 hg w3 hbox hb; have BK396 := Aside0.mk (hbox); have GE396 := bG hg; replace HB := BS hb; clear hb hbox hg)); try go_wp2_with (first | ((with_reducible refine gate_dst (N := 3) rfl ?_); refine bE 3 #[.string a1_0, .int .i64 a1_1, .int .i64 a1_2, .string a1_3] 93 ?_; intro gb396 hg w3 hbox hb; have BK396 := Aside0.mk (hbox); have GE396 := bG hg; replace HB := BS hb; clear hb hbox hg)))
 go_loopg [8] k (fun kq v8 w' => ∃ (x8_1 : Int), v8 = .int .i64 x8_1 ∧ Aside0 (slices_Index_impl_Record_impl_Record.l0 kq l0 (l0.length : Int) x8_1 a1_0 a1_1 a1_2 a1_3 = some r) ∧ Aside0 (kq ≤ k) ∧ Aside0 (w'.heap[gb396]? = some (.cells #[.string a1_0, .int .i64 a1_1, .int .i64 a1_2, .string a1_3] 93 (0, 0))) ∧ Aside0 (Below w.heap.size w w'))
 case atStart => exact ⟨(0), TF, H', ⟨Nat.le_refl _⟩, KW BK396, ⟨TB⟩⟩
 case round =>
  clear H'
  try clear c1
  try clear p2
  obtain ⟨x8_1, rfl, HA, HK1, BK396, HB⟩ := hrel
  cases gk with
  | zero => exact absurd HA.out (by simp [slices_Index_impl_Record_impl_Record.l0])
  | succ k1 =>
   have H := HA.out
   clear HA
   simp only [slices_Index_impl_Record_impl_Record.l0] at H
   by_cases c4 : x8_1 < (l0.length : Int)
   ·rw [if_pos c4] at H
    have c4b0 : decide (x8_1 < (l0.length : Int)) = true := decide_eq_true c4
    clear c4
    obtain ⟨c5, H⟩ := ifn H
    have c5b0 : decide (0 ≤ x8_1) = true := decide_eq_true c5
    clear c5
    obtain ⟨c6, H⟩ := ifn H
    have c6b0 : decide (x8_1 < (l0.length : Int)) = true := decide_eq_true c6
    clear c6
    by_cases c7 : (a1_0.toList == (((rd_TRecord l0 x8_1).f0).toList) && (a1_1 == ((rd_TRecord l0 x8_1).f1) && (a1_2 == ((rd_TRecord l0 x8_1).f2) && (a1_3.toList == (((rd_TRecord l0 x8_1).f3).toList))))) = true
    ·rw [if_pos c7] at H
     have c7b0 : (a1_0.toList == (((rd_TRecord l0 x8_1).f0).toList) && (a1_1 == ((rd_TRecord l0 x8_1).f1) && (a1_2 == ((rd_TRecord l0 x8_1).f2) && (a1_3.toList == (((rd_TRecord l0 x8_1).f3).toList))))) = true := c7
     (try (have c7b1 : decide (a1_0.toList = (((rd_TRecord l0 x8_1).f0).toList) && (a1_1 == ((rd_TRecord l0 x8_1).f1) && (a1_2 == ((rd_TRecord l0 x8_1).f2) && (a1_3.toList == (((rd_TRecord l0 x8_1).f3).toList))))) = true := by simpa using c7))
     (try (have c7b2 : (a1_0.toList == (((rd_TRecord l0 x8_1).f0).toList) && (a1_1 == ((rd_TRecord l0 x8_1).f1) && (a1_2 == ((rd_TRecord l0 x8_1).f2) && (a1_3.toList == (((rd_TRecord l0 x8_1).f3).toList))))) = true := by simpa using c7))
     clear c7
     obtain rfl := Option.some.inj H
     have hcz8 := cz4 BK396
     have p397 : 0 ≤ (x8_1 : Int) := TD
     have q397 : x8_1 < (l0.length : Int) := TD
     obtain ⟨ad397, e397, hx397_0, hx397_1, hx397_2, hx397_3⟩ := at_TRecord (Kd.C_below HR0.out HB.out) x8_1 p397 q397
     cases e397
     replace p397 := eq_true p397
     replace q397 := eq_true q397
     go_wp2
     repeat (go_quiet (fail); try go_wp2)
     go_ret
     exact ⟨TE, TB⟩
    ·rw [if_neg c7] at H
     have c7b0 : (a1_0.toList == (((rd_TRecord l0 x8_1).f0).toList) && (a1_1 == ((rd_TRecord l0 x8_1).f1) && (a1_2 == ((rd_TRecord l0 x8_1).f2) && (a1_3.toList == (((rd_TRecord l0 x8_1).f3).toList))))) = false := by simpa using c7
     (try (have c7b1 : decide (a1_0.toList = (((rd_TRecord l0 x8_1).f0).toList) && (a1_1 == ((rd_TRecord l0 x8_1).f1) && (a1_2 == ((rd_TRecord l0 x8_1).f2) && (a1_3.toList == (((rd_TRecord l0 x8_1).f3).toList))))) = false := by simpa using c7))
     (try (have c7b2 : (a1_0.toList == (((rd_TRecord l0 x8_1).f0).toList) && (a1_1 == ((rd_TRecord l0 x8_1).f1) && (a1_2 == ((rd_TRecord l0 x8_1).f2) && (a1_3.toList == (((rd_TRecord l0 x8_1).f3).toList))))) = false := by simpa using c7))
     (try (have c7b3 : ¬ (a1_0.toList = (((rd_TRecord l0 x8_1).f0).toList) && (a1_1 == ((rd_TRecord l0 x8_1).f1) && (a1_2 == ((rd_TRecord l0 x8_1).f2) && (a1_3.toList == (((rd_TRecord l0 x8_1).f3).toList))))) := by simpa using c7))
     clear c7
     have H' := Aside0.mk H
     clear H
     have hcz9 := cz4 BK396
     have p397 : 0 ≤ (x8_1 : Int) := TD
     have q397 : x8_1 < (l0.length : Int) := TD
     obtain ⟨ad397, e397, hx397_0, hx397_1, hx397_2, hx397_3⟩ := at_TRecord (Kd.C_below HR0.out HB.out) x8_1 p397 q397
     cases e397
     replace p397 := eq_true p397
     replace q397 := eq_true q397
     go_wp2
     repeat (go_quiet (fail); try go_wp2)
     go_roundg k1
     case measure => have := HK1.out; omega
     case rel => exact ⟨(wrap64 (x8_1 + 1)), TF, H', ⟨TM⟩, KW BK396, ⟨TB⟩⟩
   ·rw [if_neg c4] at H
    have c4b0 : decide (x8_1 < (l0.length : Int)) = false := decide_eq_false c4
    clear c4
    obtain rfl := Option.some.inj H
    go_wp2
    repeat (go_quiet (fail); try go_wp2)
    go_ret
    exact ⟨TE, TB⟩
end
section
/-! ### slices_Contains_impl_Record_impl_Record: function 68 -/
def slices_Contains_impl_Record_impl_Record.f (k : Nat) (l0 : List (S_Record)) (a1_0 : ByteArray) (a1_1 : Int) (a1_2 : Int) (a1_3 : ByteArray) : Option (Bool) := (slices_Index_impl_Record_impl_Record.f k l0 a1_0 a1_1 a1_2 a1_3).bind fun t399 => (some (decide (t399 ≥ 0)))
theorem slices_Contains_impl_Record_impl_Record.mono : ∀ a0 a1 a2 a3 a4 k, LeO (slices_Contains_impl_Record_impl_Record.f k a0 a1 a2 a3 a4) (slices_Contains_impl_Record_impl_Record.f (k + 1) a0 a1 a2 a3 a4) := by
 intro a0 a1 a2 a3 a4 k
 unfold slices_Contains_impl_Record_impl_Record.f
 repeat' first
   | (with_reducible exact slices_Index_impl_Record_impl_Record.mono _ _ _ _ _ _)
   | (with_reducible exact LeO.refl _)
   | (with_reducible exact LeO.none _)
   | (with_reducible refine LeO.ite ?_ ?_)
   | (with_reducible refine LeO.bind ?_ (fun _ => ?_))
   | exact slices_Index_impl_Record_impl_Record.mono _ _ _ _ _ _
   | exact LeO.none _
   | refine LeO.ite ?_ ?_
   | refine LeO.bind ?_ (fun _ => ?_)
theorem slices_Contains_impl_Record_impl_Record.calls (k : Nat) (A0 : Option Addr) (c0 : Nat) (l0 : List (S_Record)) (a1_0 : ByteArray) (a1_1 : Int) (a1_2 : Int) (a1_3 : ByteArray) (r : Bool) (w : World) (hr0 : Kd.C k_Record w A0 l0.length l0) (hc0 : l0.length ≤ c0) (h : slices_Contains_impl_Record_impl_Record.f k l0 a1_0 a1_1 a1_2 a1_3 = some r) :
  Calls Tryz.prog 68 #[.slice A0 l0.length c0, .agg #[.string a1_0, .int .i64 a1_1, .int .i64 a1_2, .string a1_3]] w fun e w' => e = .returned (.bool r) ∧ Below w.heap.size w w' := by
 have hu93 := Tryz.underlying93
 have HR0 := Aside0.mk hr0
 have HC0 := Aside0.mk hc0
 clear hr0 hc0
 have HB := Aside0.mk (Below.refl w.heap.size w)
 have H : ((slices_Index_impl_Record_impl_Record.f k l0 a1_0 a1_1 a1_2 a1_3).bind fun t399 => (some (decide (t399 ≥ 0)))) = some r := h
 clear h
 obtain ⟨t399, A3, H⟩ := bnd H
 obtain rfl := Option.some.inj H
 go_enter Tryz.func68, Tryz.ntmps68
 go_wp2_with (first | ((with_reducible refine gate_dst (N := 3) rfl ?_); refine bE 3 #[.string a1_0, .int .i64 a1_1, .int .i64 a1_2, .string a1_3] 93 ?_; intro gb398 hg w4 hbox hb; have BK398 := Aside0.mk (hbox); have GE398 := bG hg; replace HB := BS hb; clear hb hbox hg; have hcz5 := cz4 BK398) | ((with_reducible refine gate_callee (f := 123) rfl ?_); refine goesL_ (some 7) rfl rfl Tryz.func123 KR rfl #[.slice A0 l0.length c0, .agg #[.string a1_0, .int .i64 a1_1, .int .i64 a1_2, .string a1_3]] rfl TA ?_; (with_reducible refine (slices_Index_impl_Record_impl_Record.calls k _ _ l0 a1_0 a1_1 a1_2 a1_3 t399 _ ?side1 ?side2 A3.out).mono ?_); (case side1 => exact CW ((Kd.C_below HR0.out HB.out))); (case side2 => exact HC0.out); rintro e w6 ⟨rfl, hb⟩; refine ⟨_, rfl, ?_⟩; replace BK398 := KB BK398 hb; replace HB := BS hb; (try clear hb); (try clear hb2); (try clear hk); (try clear hi)))
 go_ret
 exact ⟨TE, TB⟩
end
section
/-! ### impl_GoodDiff_1: function 67 -/
def impl_GoodDiff_1.f (k : Nat) (a0_0 : ByteArray) (a0_1 : Int) (a0_2 : Int) (a0_3 : ByteArray) (a1_0 : Int) (a1_1 : Int) (l1_2 : List (S_Record)) (l1_3 : List (S_Record)) : Option (Bool) := (slices_Contains_impl_Record_impl_Record.f k l1_3 a0_0 a0_1 a0_2 a0_3).bind fun t401 => (some t401)
theorem impl_GoodDiff_1.mono : ∀ a0 a1 a2 a3 a4 a5 a6 a7 k, LeO (impl_GoodDiff_1.f k a0 a1 a2 a3 a4 a5 a6 a7) (impl_GoodDiff_1.f (k + 1) a0 a1 a2 a3 a4 a5 a6 a7) := by
 intro a0 a1 a2 a3 a4 a5 a6 a7 k
 unfold impl_GoodDiff_1.f
 repeat' first
   | (with_reducible exact slices_Contains_impl_Record_impl_Record.mono _ _ _ _ _ _)
   | (with_reducible exact LeO.refl _)
   | (with_reducible exact LeO.none _)
   | (with_reducible refine LeO.ite ?_ ?_)
   | (with_reducible refine LeO.bind ?_ (fun _ => ?_))
   | exact slices_Contains_impl_Record_impl_Record.mono _ _ _ _ _ _
   | exact LeO.none _
   | refine LeO.ite ?_ ?_
   | refine LeO.bind ?_ (fun _ => ?_)
theorem impl_GoodDiff_1.calls (k : Nat) (a0_0 : ByteArray) (a0_1 : Int) (a0_2 : Int) (a0_3 : ByteArray) (g1_ : Nat) (a1_0 : Int) (a1_1 : Int) (A1_2 : Option Addr) (c1_2 : Nat) (l1_2 : List (S_Record)) (A1_3 : Option Addr) (c1_3 : Nat) (l1_3 : List (S_Record)) (r : Bool) (w : World) (hr1_2 : Kd.C k_Record w A1_2 l1_2.length l1_2) (hc1_2 : l1_2.length ≤ c1_2) (hr1_3 : Kd.C k_Record w A1_3 l1_3.length l1_3) (hc1_3 : l1_3.length ≤ c1_3) (hkg1_ : w.heap[g1_]? = some (.cells #[.int .i64 a1_0, .int .i64 a1_1, .slice A1_2 l1_2.length c1_2, .slice A1_3 l1_3.length c1_3] 29 (0, 0))) (h : impl_GoodDiff_1.f k a0_0 a0_1 a0_2 a0_3 a1_0 a1_1 l1_2 l1_3 = some r) :
  Calls Tryz.prog 67 #[.agg #[.string a0_0, .int .i64 a0_1, .int .i64 a0_2, .string a0_3], .pointer (some ⟨g1_, 0, none⟩)] w fun e w' => e = .returned (.bool r) ∧ Below w.heap.size w w' := by
 have hu93 := Tryz.underlying93
 have HR1_2 := Aside0.mk hr1_2
 have HC1_2 := Aside0.mk hc1_2
 clear hr1_2 hc1_2
 have HR1_3 := Aside0.mk hr1_3
 have HC1_3 := Aside0.mk hc1_3
 clear hr1_3 hc1_3
 have BKrg1_ := Aside0.mk hkg1_
 clear hkg1_
 have HB := Aside0.mk (Below.refl w.heap.size w)
 have H : ((slices_Contains_impl_Record_impl_Record.f k l1_3 a0_0 a0_1 a0_2 a0_3).bind fun t401 => (some t401)) = some r := h
 clear h
 obtain ⟨t401, A3, H⟩ := bnd H
 obtain rfl := Option.some.inj H
 go_enter Tryz.func67, Tryz.ntmps67
 go_wp2_with (first | ((with_reducible refine gate_dst (N := 2) rfl ?_); refine bE 2 #[.string a0_0, .int .i64 a0_1, .int .i64 a0_2, .string a0_3] 93 ?_; intro gb400 hg w4 hbox hb; have BK400 := Aside0.mk (hbox); have GE400 := bG hg; replace HB := BS hb; have NB1_400 := bN BKrg1_ hg; have NB400_1 := bM BKrg1_ hg; replace BKrg1_ := KB BKrg1_ hb; clear hb hbox hg; have hnb5 := NB1_400.out; have hnc5 := NB400_1.out; have hcz6 := cz4 BKrg1_; have hcz7 := cz4 BK400) | ((with_reducible refine gate_callee (f := 68) rfl ?_); refine goesL_ (some 7) rfl rfl Tryz.func68 KR rfl #[.slice A1_3 l1_3.length c1_3, .agg #[.string a0_0, .int .i64 a0_1, .int .i64 a0_2, .string a0_3]] rfl TA ?_; (with_reducible refine (slices_Contains_impl_Record_impl_Record.calls k _ _ l1_3 a0_0 a0_1 a0_2 a0_3 t401 _ ?side1 ?side2 A3.out).mono ?_); (case side1 => exact CW ((Kd.C_below HR1_3.out HB.out))); (case side2 => exact HC1_3.out); rintro e w8 ⟨rfl, hb⟩; refine ⟨_, rfl, ?_⟩; replace BKrg1_ := KB BKrg1_ hb; replace BK400 := KB BK400 hb; replace HB := BS hb; (try clear hb); (try clear hb2); (try clear hk); (try clear hi)))
 go_ret
 exact ⟨TE, TB⟩
end
section
/-! ### slices_IndexFunc_impl_Record_impl_Record_GoodDiff_1: function 122 -/
def slices_IndexFunc_impl_Record_impl_Record_GoodDiff_1.l0 : Nat → List (S_Record) → Int → Int → Int → Int → List (S_Record) → List (S_Record) → Option (Int)
 | 0, _, _, _, _, _, _, _ => none
 | k + 1, x0, x7, x8, x59000, x59001, x59002, x59003 => if x8 < x7 then (if 0 ≤ x8 then (if x8 < (x0.length : Int) then ((impl_GoodDiff_1.f k ((rd_TRecord x0 x8).f0) ((rd_TRecord x0 x8).f1) ((rd_TRecord x0 x8).f2) ((rd_TRecord x0 x8).f3) x59000 x59001 x59002 x59003).bind fun t403 => (if t403 = true then (some x8) else (slices_IndexFunc_impl_Record_impl_Record_GoodDiff_1.l0 k x0 x7 (wrap64 (x8 + 1)) x59000 x59001 x59002 x59003))) else (none)) else (none)) else (some (-1))
def slices_IndexFunc_impl_Record_impl_Record_GoodDiff_1.f (k : Nat) (l0 : List (S_Record)) (a1_0 : Int) (a1_1 : Int) (l1_2 : List (S_Record)) (l1_3 : List (S_Record)) : Option (Int) := slices_IndexFunc_impl_Record_impl_Record_GoodDiff_1.l0 k l0 (l0.length : Int) 0 a1_0 a1_1 l1_2 l1_3
theorem slices_IndexFunc_impl_Record_impl_Record_GoodDiff_1.mono_l : ∀ k, (∀ y0 y1 y2 y3 y4 y5 y6, LeO (slices_IndexFunc_impl_Record_impl_Record_GoodDiff_1.l0 k y0 y1 y2 y3 y4 y5 y6) (slices_IndexFunc_impl_Record_impl_Record_GoodDiff_1.l0 (k + 1) y0 y1 y2 y3 y4 y5 y6))
 | 0 => fun _ _ _ _ _ _ _ r h => by simp [slices_IndexFunc_impl_Record_impl_Record_GoodDiff_1.l0] at h
 | k + 1 => by
  have ih0 := slices_IndexFunc_impl_Record_impl_Record_GoodDiff_1.mono_l k
  ·intro y0 y1 y2 y3 y4 y5 y6
   unfold slices_IndexFunc_impl_Record_impl_Record_GoodDiff_1.l0
   repeat' first
   | (with_reducible exact ih0 _ _ _ _ _ _ _)
   | (with_reducible exact impl_GoodDiff_1.mono _ _ _ _ _ _ _ _ _)
   | (with_reducible exact LeO.refl _)
   | (with_reducible exact LeO.none _)
   | (with_reducible refine LeO.ite ?_ ?_)
   | (with_reducible refine LeO.bind ?_ (fun _ => ?_))
   | exact ih0 _ _ _ _ _ _ _
   | exact impl_GoodDiff_1.mono _ _ _ _ _ _ _ _ _
   | exact LeO.none _
   | refine LeO.ite ?_ ?_
   | refine LeO.bind ?_ (fun _ => ?_)
theorem slices_IndexFunc_impl_Record_impl_Record_GoodDiff_1.mono : ∀ a0 a1 a2 a3 a4 k, LeO (slices_IndexFunc_impl_Record_impl_Record_GoodDiff_1.f k a0 a1 a2 a3 a4) (slices_IndexFunc_impl_Record_impl_Record_GoodDiff_1.f (k + 1) a0 a1 a2 a3 a4) := by
 intro a0 a1 a2 a3 a4 k
 have ih0 := slices_IndexFunc_impl_Record_impl_Record_GoodDiff_1.mono_l k
 unfold slices_IndexFunc_impl_Record_impl_Record_GoodDiff_1.f
 repeat' first
   | (with_reducible exact ih0 _ _ _ _ _ _ _)
   | (with_reducible exact impl_GoodDiff_1.mono _ _ _ _ _ _ _ _ _)
   | (with_reducible exact LeO.refl _)
   | (with_reducible exact LeO.none _)
   | (with_reducible refine LeO.ite ?_ ?_)
   | (with_reducible refine LeO.bind ?_ (fun _ => ?_))
   | exact ih0 _ _ _ _ _ _ _
   | exact impl_GoodDiff_1.mono _ _ _ _ _ _ _ _ _
   | exact LeO.none _
   | refine LeO.ite ?_ ?_
   | refine LeO.bind ?_ (fun _ => ?_)
theorem slices_IndexFunc_impl_Record_impl_Record_GoodDiff_1.calls (k : Nat) (A0 : Option Addr) (c0 : Nat) (l0 : List (S_Record)) (g1_0_ : Nat) (a1_0 : Int) (a1_1 : Int) (A1_2 : Option Addr) (c1_2 : Nat) (l1_2 : List (S_Record)) (A1_3 : Option Addr) (c1_3 : Nat) (l1_3 : List (S_Record)) (r : Int) (w : World) (hr0 : Kd.C k_Record w A0 l0.length l0) (hc0 : l0.length ≤ c0) (hr1_2 : Kd.C k_Record w A1_2 l1_2.length l1_2) (hc1_2 : l1_2.length ≤ c1_2) (hr1_3 : Kd.C k_Record w A1_3 l1_3.length l1_3) (hc1_3 : l1_3.length ≤ c1_3) (hkg1_0_ : w.heap[g1_0_]? = some (.cells #[.int .i64 a1_0, .int .i64 a1_1, .slice A1_2 l1_2.length c1_2, .slice A1_3 l1_3.length c1_3] 29 (0, 0))) (h : slices_IndexFunc_impl_Record_impl_Record_GoodDiff_1.f k l0 a1_0 a1_1 l1_2 l1_3 = some r) :
  Calls Tryz.prog 122 #[.slice A0 l0.length c0, .func (.func 67) #[] #[.pointer (some ⟨g1_0_, 0, none⟩)]] w fun e w' => e = .returned (.int .i64 r) ∧ Below w.heap.size w w' := by
 have hu93 := Tryz.underlying93
 have HR0 := Aside0.mk hr0
 have HC0 := Aside0.mk hc0
 clear hr0 hc0
 have HR1_2 := Aside0.mk hr1_2
 have HC1_2 := Aside0.mk hc1_2
 clear hr1_2 hc1_2
 have HR1_3 := Aside0.mk hr1_3
 have HC1_3 := Aside0.mk hc1_3
 clear hr1_3 hc1_3
 have BKrg1_0_ := Aside0.mk hkg1_0_
 clear hkg1_0_
 have HB := Aside0.mk (Below.refl w.heap.size w)
 have H : (slices_IndexFunc_impl_Record_impl_Record_GoodDiff_1.l0 k l0 (l0.length : Int) 0 a1_0 a1_1 l1_2 l1_3) = some r := h
 clear h
 have H' := Aside0.mk H
 clear H
 go_enter Tryz.func122, Tryz.ntmps122
 go_wp2
 go_loopg [8] k (fun kq v8 w' => ∃ (x8_1 : Int), v8 = .int .i64 x8_1 ∧ Aside0 (slices_IndexFunc_impl_Record_impl_Record_GoodDiff_1.l0 kq l0 (l0.length : Int) x8_1 a1_0 a1_1 l1_2 l1_3 = some r) ∧ Aside0 (kq ≤ k) ∧ Aside0 (w'.heap[g1_0_]? = some (.cells #[.int .i64 a1_0, .int .i64 a1_1, (.slice A1_2 l1_2.length c1_2), (.slice A1_3 l1_3.length c1_3)] 29 (0, 0))) ∧ Aside0 (Below w.heap.size w w'))
 case atStart => exact ⟨(0), TF, H', ⟨Nat.le_refl _⟩, KW BKrg1_0_, ⟨TB⟩⟩
 case round =>
  clear H'
  try clear c1
  try clear p2
  obtain ⟨x8_1, rfl, HA, HK1, BKrg1_0_, HB⟩ := hrel
  cases gk with
  | zero => exact absurd HA.out (by simp [slices_IndexFunc_impl_Record_impl_Record_GoodDiff_1.l0])
  | succ k1 =>
   have H := HA.out
   clear HA
   simp only [slices_IndexFunc_impl_Record_impl_Record_GoodDiff_1.l0] at H
   by_cases c3 : x8_1 < (l0.length : Int)
   ·rw [if_pos c3] at H
    have c3b0 : decide (x8_1 < (l0.length : Int)) = true := decide_eq_true c3
    clear c3
    obtain ⟨c4, H⟩ := ifn H
    have c4b0 : decide (0 ≤ x8_1) = true := decide_eq_true c4
    clear c4
    obtain ⟨c5, H⟩ := ifn H
    have c5b0 : decide (x8_1 < (l0.length : Int)) = true := decide_eq_true c5
    clear c5
    obtain ⟨t403, A6, H⟩ := bnd H
    by_cases c7 : t403 = true
    ·subst c7
     replace H := ift H
     obtain rfl := Option.some.inj H
     have p402 : 0 ≤ (x8_1 : Int) := TD
     have q402 : x8_1 < (l0.length : Int) := TD
     obtain ⟨ad402, e402, hx402_0, hx402_1, hx402_2, hx402_3⟩ := at_TRecord (Kd.C_below HR0.out HB.out) x8_1 p402 q402
     cases e402
     replace p402 := eq_true p402
     replace q402 := eq_true q402
     go_wp2_with (first | (go_at_call 67; (with_reducible refine (impl_GoodDiff_1.calls k1 ((rd_TRecord l0 x8_1).f0) ((rd_TRecord l0 x8_1).f1) ((rd_TRecord l0 x8_1).f2) ((rd_TRecord l0 x8_1).f3) g1_0_ a1_0 a1_1 A1_2 c1_2 l1_2 A1_3 c1_3 l1_3 true _ ?side1 ?side2 ?side3 ?side4 ?side5 A6.out).mono ?_); (case side1 => exact CW ((Kd.C_below HR1_2.out HB.out))); (case side2 => exact HC1_2.out); (case side3 => exact CW ((Kd.C_below HR1_3.out HB.out))); (case side4 => exact HC1_3.out); (case side5 => exact (KW BKrg1_0_).out); rintro e w8 ⟨rfl, hb⟩; replace BKrg1_0_ := KB BKrg1_0_ hb; replace HB := BS hb; (try clear hb); (try clear hb2); (try clear hk); (try clear hi)))
     go_ret
     exact ⟨TE, TB⟩
    ·replace c7 := Bool.eq_false_iff.mpr c7
     subst c7
     replace H := iff' H
     have H' := Aside0.mk H
     clear H
     have p402 : 0 ≤ (x8_1 : Int) := TD
     have q402 : x8_1 < (l0.length : Int) := TD
     obtain ⟨ad402, e402, hx402_0, hx402_1, hx402_2, hx402_3⟩ := at_TRecord (Kd.C_below HR0.out HB.out) x8_1 p402 q402
     cases e402
     replace p402 := eq_true p402
     replace q402 := eq_true q402
     go_wp2_with (first | (go_at_call 67; (with_reducible refine (impl_GoodDiff_1.calls k1 ((rd_TRecord l0 x8_1).f0) ((rd_TRecord l0 x8_1).f1) ((rd_TRecord l0 x8_1).f2) ((rd_TRecord l0 x8_1).f3) g1_0_ a1_0 a1_1 A1_2 c1_2 l1_2 A1_3 c1_3 l1_3 false _ ?side1 ?side2 ?side3 ?side4 ?side5 A6.out).mono ?_); (case side1 => exact CW ((Kd.C_below HR1_2.out HB.out))); (case side2 => exact HC1_2.out); (case side3 => exact CW ((Kd.C_below HR1_3.out HB.out))); (case side4 => exact HC1_3.out); (case side5 => exact (KW BKrg1_0_).out); rintro e w9 ⟨rfl, hb⟩; replace BKrg1_0_ := KB BKrg1_0_ hb; replace HB := BS hb; (try clear hb); (try clear hb2); (try clear hk); (try clear hi)))
     go_roundg k1
     case measure => have := HK1.out; omega
     case rel => exact ⟨(wrap64 (x8_1 + 1)), TF, H', ⟨TM⟩, KW BKrg1_0_, ⟨TB⟩⟩
   ·rw [if_neg c3] at H
    have c3b0 : decide (x8_1 < (l0.length : Int)) = false := decide_eq_false c3
    clear c3
    obtain rfl := Option.some.inj H
    go_wp2
    go_ret
    exact ⟨TE, TB⟩
end
section
/-! ### slices_ContainsFunc_impl_Record_impl_Record_GoodDiff_1: function 66 -/
def slices_ContainsFunc_impl_Record_impl_Record_GoodDiff_1.f (k : Nat) (l0 : List (S_Record)) (a1_0 : Int) (a1_1 : Int) (l1_2 : List (S_Record)) (l1_3 : List (S_Record)) : Option (Bool) := (slices_IndexFunc_impl_Record_impl_Record_GoodDiff_1.f k l0 a1_0 a1_1 l1_2 l1_3).bind fun t404 => (some (decide (t404 ≥ 0)))
theorem slices_ContainsFunc_impl_Record_impl_Record_GoodDiff_1.mono : ∀ a0 a1 a2 a3 a4 k, LeO (slices_ContainsFunc_impl_Record_impl_Record_GoodDiff_1.f k a0 a1 a2 a3 a4) (slices_ContainsFunc_impl_Record_impl_Record_GoodDiff_1.f (k + 1) a0 a1 a2 a3 a4) := by
 intro a0 a1 a2 a3 a4 k
 unfold slices_ContainsFunc_impl_Record_impl_Record_GoodDiff_1.f
 repeat' first
   | (with_reducible exact slices_IndexFunc_impl_Record_impl_Record_GoodDiff_1.mono _ _ _ _ _ _)
   | (with_reducible exact LeO.refl _)
   | (with_reducible exact LeO.none _)
   | (with_reducible refine LeO.ite ?_ ?_)
   | (with_reducible refine LeO.bind ?_ (fun _ => ?_))
   | exact slices_IndexFunc_impl_Record_impl_Record_GoodDiff_1.mono _ _ _ _ _ _
   | exact LeO.none _
   | refine LeO.ite ?_ ?_
   | refine LeO.bind ?_ (fun _ => ?_)
theorem slices_ContainsFunc_impl_Record_impl_Record_GoodDiff_1.calls (k : Nat) (A0 : Option Addr) (c0 : Nat) (l0 : List (S_Record)) (g1_0_ : Nat) (a1_0 : Int) (a1_1 : Int) (A1_2 : Option Addr) (c1_2 : Nat) (l1_2 : List (S_Record)) (A1_3 : Option Addr) (c1_3 : Nat) (l1_3 : List (S_Record)) (r : Bool) (w : World) (hr0 : Kd.C k_Record w A0 l0.length l0) (hc0 : l0.length ≤ c0) (hr1_2 : Kd.C k_Record w A1_2 l1_2.length l1_2) (hc1_2 : l1_2.length ≤ c1_2) (hr1_3 : Kd.C k_Record w A1_3 l1_3.length l1_3) (hc1_3 : l1_3.length ≤ c1_3) (hkg1_0_ : w.heap[g1_0_]? = some (.cells #[.int .i64 a1_0, .int .i64 a1_1, .slice A1_2 l1_2.length c1_2, .slice A1_3 l1_3.length c1_3] 29 (0, 0))) (h : slices_ContainsFunc_impl_Record_impl_Record_GoodDiff_1.f k l0 a1_0 a1_1 l1_2 l1_3 = some r) :
  Calls Tryz.prog 66 #[.slice A0 l0.length c0, .func (.func 67) #[] #[.pointer (some ⟨g1_0_, 0, none⟩)]] w fun e w' => e = .returned (.bool r) ∧ Below w.heap.size w w' := by
 have HR0 := Aside0.mk hr0
 have HC0 := Aside0.mk hc0
 clear hr0 hc0
 have HR1_2 := Aside0.mk hr1_2
 have HC1_2 := Aside0.mk hc1_2
 clear hr1_2 hc1_2
 have HR1_3 := Aside0.mk hr1_3
 have HC1_3 := Aside0.mk hc1_3
 clear hr1_3 hc1_3
 have BKrg1_0_ := Aside0.mk hkg1_0_
 clear hkg1_0_
 have HB := Aside0.mk (Below.refl w.heap.size w)
 have H : ((slices_IndexFunc_impl_Record_impl_Record_GoodDiff_1.f k l0 a1_0 a1_1 l1_2 l1_3).bind fun t404 => (some (decide (t404 ≥ 0)))) = some r := h
 clear h
 obtain ⟨t404, A3, H⟩ := bnd H
 obtain rfl := Option.some.inj H
 go_enter Tryz.func66, Tryz.ntmps66
 go_wp2_with (first | ((with_reducible refine gate_callee (f := 122) rfl ?_); refine goesL_ (some 7) rfl rfl Tryz.func122 KR rfl #[.slice A0 l0.length c0, .func (.func 67) #[] #[.pointer (some ⟨g1_0_, 0, none⟩)]] rfl TA ?_; (with_reducible refine (slices_IndexFunc_impl_Record_impl_Record_GoodDiff_1.calls k _ _ l0 g1_0_ a1_0 a1_1 A1_2 c1_2 l1_2 A1_3 c1_3 l1_3 t404 _ ?side1 ?side2 ?side3 ?side4 ?side5 ?side6 ?side7 A3.out).mono ?_); (case side1 => exact CW (HR0.out)); (case side2 => exact HC0.out); (case side3 => exact CW (HR1_2.out)); (case side4 => exact HC1_2.out); (case side5 => exact CW (HR1_3.out)); (case side6 => exact HC1_3.out); (case side7 => exact (KW BKrg1_0_).out); rintro e w4 ⟨rfl, hb⟩; refine ⟨_, rfl, ?_⟩; replace BKrg1_0_ := KB BKrg1_0_ hb; replace HB := BS hb; (try clear hb); (try clear hb2); (try clear hk); (try clear hi)))
 go_ret
 exact ⟨TE, TB⟩
end
section
/-! ### impl_GoodDiff: function 18 -/
def impl_GoodDiff.f (k : Nat) (a0_0 : Int) (a0_1 : Int) (l0_2 : List (S_Record)) (l0_3 : List (S_Record)) : Option (Bool) := (impl_isDiff.f k a0_0 a0_1 l0_2 l0_3).bind fun t406 => (if t406 = true then ((slices_ContainsFunc_impl_Record_impl_Record_GoodDiff_1.f k l0_2 a0_0 a0_1 l0_2 l0_3).bind fun t407 => (some (!t407))) else (some false))
theorem impl_GoodDiff.mono : ∀ a0 a1 a2 a3 k, LeO (impl_GoodDiff.f k a0 a1 a2 a3) (impl_GoodDiff.f (k + 1) a0 a1 a2 a3) := by
 intro a0 a1 a2 a3 k
 unfold impl_GoodDiff.f
 repeat' first
   | (with_reducible exact impl_isDiff.mono _ _ _ _ _)
   | (with_reducible exact slices_ContainsFunc_impl_Record_impl_Record_GoodDiff_1.mono _ _ _ _ _ _)
   | (with_reducible exact LeO.refl _)
   | (with_reducible exact LeO.none _)
   | (with_reducible refine LeO.ite ?_ ?_)
   | (with_reducible refine LeO.bind ?_ (fun _ => ?_))
   | exact impl_isDiff.mono _ _ _ _ _
   | exact slices_ContainsFunc_impl_Record_impl_Record_GoodDiff_1.mono _ _ _ _ _ _
   | exact LeO.none _
   | refine LeO.ite ?_ ?_
   | refine LeO.bind ?_ (fun _ => ?_)
theorem impl_GoodDiff.calls (k : Nat) (a0_0 : Int) (a0_1 : Int) (A0_2 : Option Addr) (c0_2 : Nat) (l0_2 : List (S_Record)) (A0_3 : Option Addr) (c0_3 : Nat) (l0_3 : List (S_Record)) (r : Bool) (w : World) (hr0_2 : Kd.C k_Record w A0_2 l0_2.length l0_2) (hc0_2 : l0_2.length ≤ c0_2) (hr0_3 : Kd.C k_Record w A0_3 l0_3.length l0_3) (hc0_3 : l0_3.length ≤ c0_3) (hG_ : Glob w) (h : impl_GoodDiff.f k a0_0 a0_1 l0_2 l0_3 = some r) :
  Calls Tryz.prog 18 #[.agg #[.int .i64 a0_0, .int .i64 a0_1, .slice A0_2 l0_2.length c0_2, .slice A0_3 l0_3.length c0_3]] w fun e w' => e = .returned (.bool r) ∧ Below w.heap.size w w' := by
 have hu29 := Tryz.underlying29
 have HR0_2 := Aside0.mk hr0_2
 have HC0_2 := Aside0.mk hc0_2
 clear hr0_2 hc0_2
 have HR0_3 := Aside0.mk hr0_3
 have HC0_3 := Aside0.mk hc0_3
 clear hr0_3 hc0_3
 have HGL := Aside0.mk hG_
 clear hG_
 have HB := Aside0.mk (Below.refl w.heap.size w)
 have H : ((impl_isDiff.f k a0_0 a0_1 l0_2 l0_3).bind fun t406 => (if t406 = true then ((slices_ContainsFunc_impl_Record_impl_Record_GoodDiff_1.f k l0_2 a0_0 a0_1 l0_2 l0_3).bind fun t407 => (some (!t407))) else (some false))) = some r := h
 clear h
 obtain ⟨t406, A2, H⟩ := bnd H
 by_cases c3 : t406 = true
 ·subst c3
  replace H := ift H
  obtain ⟨t407, A4, H⟩ := bnd H
  obtain rfl := Option.some.inj H
  go_enter Tryz.func18, Tryz.ntmps18
  go_wp2_with (first | ((with_reducible refine gate_dst (N := 1) rfl ?_); refine bE 1 #[.int .i64 a0_0, .int .i64 a0_1, .slice A0_2 l0_2.length c0_2, .slice A0_3 l0_3.length c0_3] 29 ?_; intro gb405 hg w5 hbox hb; have BK405 := Aside0.mk (hbox); have GE405 := bG hg; replace HB := BS hb; clear hb hbox hg; have hcz6 := cz4 BK405) | ((with_reducible refine gate_callee (f := 65) rfl ?_); refine goesL_ (some 4) rfl rfl Tryz.func65 KR rfl #[.agg #[.int .i64 a0_0, .int .i64 a0_1, .slice A0_2 l0_2.length c0_2, .slice A0_3 l0_3.length c0_3]] rfl TA ?_; (with_reducible refine (impl_isDiff.calls k a0_0 a0_1 _ _ l0_2 _ _ l0_3 true _ ?side1 ?side2 ?side3 ?side4 ?side5 A2.out).mono ?_); (case side1 => exact CW ((Kd.C_below HR0_2.out HB.out))); (case side2 => exact HC0_2.out); (case side3 => exact CW ((Kd.C_below HR0_3.out HB.out))); (case side4 => exact HC0_3.out); (case side5 => exact GW HGL); rintro e w7 ⟨rfl, hb⟩; refine ⟨_, rfl, ?_⟩; replace BK405 := KB BK405 hb; replace HB := BS hb; (try clear hb); (try clear hb2); (try clear hk); (try clear hi); have hcz8 := cz4 BK405) | (go_at_call 66; (with_reducible refine (slices_ContainsFunc_impl_Record_impl_Record_GoodDiff_1.calls k _ _ l0_2 gb405 a0_0 a0_1 A0_2 c0_2 l0_2 A0_3 c0_3 l0_3 t407 _ ?side1 ?side2 ?side3 ?side4 ?side5 ?side6 ?side7 A4.out).mono ?_); (case side1 => exact CW ((Kd.C_below HR0_2.out HB.out))); (case side2 => exact HC0_2.out); (case side3 => exact CW ((Kd.C_below HR0_2.out HB.out))); (case side4 => exact HC0_2.out); (case side5 => exact CW ((Kd.C_below HR0_3.out HB.out))); (case side6 => exact HC0_3.out); (case side7 => exact (KW BK405).out); rintro e w9 ⟨rfl, hb⟩; replace BK405 := KB BK405 hb; replace HB := BS hb; (try clear hb); (try clear hb2); (try clear hk); (try clear hi)))
  go_ret
  exact ⟨TE, TB⟩
 ·replace c3 := Bool.eq_false_iff.mpr c3
  subst c3
  replace H := iff' H
  obtain rfl := Option.some.inj H
  go_enter Tryz.func18, Tryz.ntmps18
  go_wp2_with (first | ((with_reducible refine gate_dst (N := 1) rfl ?_); refine bE 1 #[.int .i64 a0_0, .int .i64 a0_1, .slice A0_2 l0_2.length c0_2, .slice A0_3 l0_3.length c0_3] 29 ?_; intro gb405 hg w10 hbox hb; have BK405 := Aside0.mk (hbox); have GE405 := bG hg; replace HB := BS hb; clear hb hbox hg; have hcz11 := cz4 BK405) | ((with_reducible refine gate_callee (f := 65) rfl ?_); refine goesL_ (some 4) rfl rfl Tryz.func65 KR rfl #[.agg #[.int .i64 a0_0, .int .i64 a0_1, .slice A0_2 l0_2.length c0_2, .slice A0_3 l0_3.length c0_3]] rfl TA ?_; (with_reducible refine (impl_isDiff.calls k a0_0 a0_1 _ _ l0_2 _ _ l0_3 false _ ?side1 ?side2 ?side3 ?side4 ?side5 A2.out).mono ?_); (case side1 => exact CW ((Kd.C_below HR0_2.out HB.out))); (case side2 => exact HC0_2.out); (case side3 => exact CW ((Kd.C_below HR0_3.out HB.out))); (case side4 => exact HC0_3.out); (case side5 => exact GW HGL); rintro e w12 ⟨rfl, hb⟩; refine ⟨_, rfl, ?_⟩; replace BK405 := KB BK405 hb; replace HB := BS hb; (try clear hb); (try clear hb2); (try clear hk); (try clear hi)))
  go_ret
  exact ⟨TE, TB⟩
end
section
/-! ### laws_eqRecord: function 124 -/
def laws_eqRecord.f (a0_0 : ByteArray) (a0_1 : Int) (a0_2 : Int) (a0_3 : ByteArray) (a1_0 : ByteArray) (a1_1 : Int) (a1_2 : Int) (a1_3 : ByteArray) : Option (Bool) := if a0_0.toList = a1_0.toList then (if a0_1 = a1_1 then (if a0_2 = a1_2 then (if a0_3.toList = a1_3.toList then (some true) else (some false)) else (some false)) else (some false)) else (some false)
theorem laws_eqRecord.calls (a0_0 : ByteArray) (a0_1 : Int) (a0_2 : Int) (a0_3 : ByteArray) (a1_0 : ByteArray) (a1_1 : Int) (a1_2 : Int) (a1_3 : ByteArray) (r : Bool) (w : World) (h : laws_eqRecord.f a0_0 a0_1 a0_2 a0_3 a1_0 a1_1 a1_2 a1_3 = some r) :
  Calls Tryz.prog 124 #[.agg #[.string a0_0, .int .i64 a0_1, .int .i64 a0_2, .string a0_3], .agg #[.string a1_0, .int .i64 a1_1, .int .i64 a1_2, .string a1_3]] w fun e w' => e = .returned (.bool r) ∧ Below w.heap.size w w' := by
 have hu93 := Tryz.underlying93
 have HB := Aside0.mk (Below.refl w.heap.size w)
 have H : (if a0_0.toList = a1_0.toList then (if a0_1 = a1_1 then (if a0_2 = a1_2 then (if a0_3.toList = a1_3.toList then (some true) else (some false)) else (some false)) else (some false)) else (some false)) = some r := h
 clear h
 by_cases c3 : a0_0.toList = a1_0.toList
 ·rw [if_pos c3] at H
  have c3b0 : (a0_0.toList == a1_0.toList) = true := beq_iff_eq.mpr c3
  have c3b1 : (a0_0.toList != a1_0.toList) = false := bne_eq_false_iff_eq.mpr c3
  clear c3
  by_cases c4 : a0_1 = a1_1
  ·rw [if_pos c4] at H
   have c4b0 : (a0_1 == a1_1) = true := beq_iff_eq.mpr c4
   have c4b1 : (a0_1 != a1_1) = false := bne_eq_false_iff_eq.mpr c4
   clear c4
   by_cases c5 : a0_2 = a1_2
   ·rw [if_pos c5] at H
    have c5b0 : (a0_2 == a1_2) = true := beq_iff_eq.mpr c5
    have c5b1 : (a0_2 != a1_2) = false := bne_eq_false_iff_eq.mpr c5
    clear c5
    by_cases c6 : a0_3.toList = a1_3.toList
    ·rw [if_pos c6] at H
     have c6b0 : (a0_3.toList == a1_3.toList) = true := beq_iff_eq.mpr c6
     have c6b1 : (a0_3.toList != a1_3.toList) = false := bne_eq_false_iff_eq.mpr c6
     clear c6
     obtain rfl := Option.some.inj H
     go_enter Tryz.func124, Tryz.ntmps124
     go_wp2_with (first | ((with_reducible refine gate_dst (N := 2) rfl ?_); refine bE 2 #[.string a0_0, .int .i64 a0_1, .int .i64 a0_2, .string a0_3] 93 ?_; intro gb433 hg w7 hbox hb; have BK433 := Aside0.mk (hbox); have GE433 := bG hg; replace HB := BS hb; clear hb hbox hg) | ((with_reducible refine gate_dst (N := 3) rfl ?_); refine bE 3 #[.string a1_0, .int .i64 a1_1, .int .i64 a1_2, .string a1_3] 93 ?_; intro gb434 hg w8 hbox hb; have BK434 := Aside0.mk (hbox); have GE434 := bG hg; replace HB := BS hb; have NB433_434 := bN BK433 hg; have NB434_433 := bM BK433 hg; replace BK433 := KB BK433 hb; clear hb hbox hg; have hnb9 := NB433_434.out; have hnc9 := NB434_433.out; have hcz10 := cz4 BK433; have hcz11 := cz4 BK434))
     go_ret
     exact ⟨TE, TB⟩
    ·rw [if_neg c6] at H
     have c6b0 : (a0_3.toList == a1_3.toList) = false := beq_eq_false_iff_ne.mpr c6
     have c6b1 : (a0_3.toList != a1_3.toList) = true := bne_iff_ne.mpr c6
     obtain rfl := Option.some.inj H
     go_enter Tryz.func124, Tryz.ntmps124
     go_wp2_with (first | ((with_reducible refine gate_dst (N := 2) rfl ?_); refine bE 2 #[.string a0_0, .int .i64 a0_1, .int .i64 a0_2, .string a0_3] 93 ?_; intro gb433 hg w12 hbox hb; have BK433 := Aside0.mk (hbox); have GE433 := bG hg; replace HB := BS hb; clear hb hbox hg) | ((with_reducible refine gate_dst (N := 3) rfl ?_); refine bE 3 #[.string a1_0, .int .i64 a1_1, .int .i64 a1_2, .string a1_3] 93 ?_; intro gb434 hg w13 hbox hb; have BK434 := Aside0.mk (hbox); have GE434 := bG hg; replace HB := BS hb; have NB433_434 := bN BK433 hg; have NB434_433 := bM BK433 hg; replace BK433 := KB BK433 hb; clear hb hbox hg; have hnb14 := NB433_434.out; have hnc14 := NB434_433.out; have hcz15 := cz4 BK433; have hcz16 := cz4 BK434))
     go_ret
     exact ⟨TE, TB⟩
   ·rw [if_neg c5] at H
    have c5b0 : (a0_2 == a1_2) = false := beq_eq_false_iff_ne.mpr c5
    have c5b1 : (a0_2 != a1_2) = true := bne_iff_ne.mpr c5
    obtain rfl := Option.some.inj H
    go_enter Tryz.func124, Tryz.ntmps124
    go_wp2_with (first | ((with_reducible refine gate_dst (N := 2) rfl ?_); refine bE 2 #[.string a0_0, .int .i64 a0_1, .int .i64 a0_2, .string a0_3] 93 ?_; intro gb433 hg w17 hbox hb; have BK433 := Aside0.mk (hbox); have GE433 := bG hg; replace HB := BS hb; clear hb hbox hg) | ((with_reducible refine gate_dst (N := 3) rfl ?_); refine bE 3 #[.string a1_0, .int .i64 a1_1, .int .i64 a1_2, .string a1_3] 93 ?_; intro gb434 hg w18 hbox hb; have BK434 := Aside0.mk (hbox); have GE434 := bG hg; replace HB := BS hb; have NB433_434 := bN BK433 hg; have NB434_433 := bM BK433 hg; replace BK433 := KB BK433 hb; clear hb hbox hg; have hnb19 := NB433_434.out; have hnc19 := NB434_433.out; have hcz20 := cz4 BK433; have hcz21 := cz4 BK434))
    go_ret
    exact ⟨TE, TB⟩
  ·rw [if_neg c4] at H
   have c4b0 : (a0_1 == a1_1) = false := beq_eq_false_iff_ne.mpr c4
   have c4b1 : (a0_1 != a1_1) = true := bne_iff_ne.mpr c4
   obtain rfl := Option.some.inj H
   go_enter Tryz.func124, Tryz.ntmps124
   go_wp2_with (first | ((with_reducible refine gate_dst (N := 2) rfl ?_); refine bE 2 #[.string a0_0, .int .i64 a0_1, .int .i64 a0_2, .string a0_3] 93 ?_; intro gb433 hg w22 hbox hb; have BK433 := Aside0.mk (hbox); have GE433 := bG hg; replace HB := BS hb; clear hb hbox hg) | ((with_reducible refine gate_dst (N := 3) rfl ?_); refine bE 3 #[.string a1_0, .int .i64 a1_1, .int .i64 a1_2, .string a1_3] 93 ?_; intro gb434 hg w23 hbox hb; have BK434 := Aside0.mk (hbox); have GE434 := bG hg; replace HB := BS hb; have NB433_434 := bN BK433 hg; have NB434_433 := bM BK433 hg; replace BK433 := KB BK433 hb; clear hb hbox hg; have hnb24 := NB433_434.out; have hnc24 := NB434_433.out; have hcz25 := cz4 BK433; have hcz26 := cz4 BK434))
   go_ret
   exact ⟨TE, TB⟩
 ·rw [if_neg c3] at H
  have c3b0 : (a0_0.toList == a1_0.toList) = false := beq_eq_false_iff_ne.mpr c3
  have c3b1 : (a0_0.toList != a1_0.toList) = true := bne_iff_ne.mpr c3
  obtain rfl := Option.some.inj H
  go_enter Tryz.func124, Tryz.ntmps124
  go_wp2_with (first | ((with_reducible refine gate_dst (N := 2) rfl ?_); refine bE 2 #[.string a0_0, .int .i64 a0_1, .int .i64 a0_2, .string a0_3] 93 ?_; intro gb433 hg w27 hbox hb; have BK433 := Aside0.mk (hbox); have GE433 := bG hg; replace HB := BS hb; clear hb hbox hg) | ((with_reducible refine gate_dst (N := 3) rfl ?_); refine bE 3 #[.string a1_0, .int .i64 a1_1, .int .i64 a1_2, .string a1_3] 93 ?_; intro gb434 hg w28 hbox hb; have BK434 := Aside0.mk (hbox); have GE434 := bG hg; replace HB := BS hb; have NB433_434 := bN BK433 hg; have NB434_433 := bM BK433 hg; replace BK433 := KB BK433 hb; clear hb hbox hg; have hnb29 := NB433_434.out; have hnc29 := NB434_433.out; have hcz30 := cz4 BK433; have hcz31 := cz4 BK434))
  go_ret
  exact ⟨TE, TB⟩
end
section
/-! ### laws_eqRecordS: function 69 -/
def laws_eqRecordS.l0 : Nat → List (S_Record) → List (S_Record) → Int → Option (Bool)
 | 0, _, _, _ => none
 | k + 1, x0, x1, x5 => if x5 < (x0.length : Int) then (if 0 ≤ x5 then (if x5 < (x1.length : Int) then ((laws_eqRecord.f ((rd_TRecord x0 x5).f0) ((rd_TRecord x0 x5).f1) ((rd_TRecord x0 x5).f2) ((rd_TRecord x0 x5).f3) ((rd_TRecord x1 x5).f0) ((rd_TRecord x1 x5).f1) ((rd_TRecord x1 x5).f2) ((rd_TRecord x1 x5).f3)).bind fun t437 => (if t437 = true then (laws_eqRecordS.l0 k x0 x1 (wrap64 (x5 + 1))) else (some false))) else (none)) else (none)) else (some true)
def laws_eqRecordS.f (k : Nat) (l0 : List (S_Record)) (l1 : List (S_Record)) : Option (Bool) := if (l0.length : Int) = (l1.length : Int) then (laws_eqRecordS.l0 k l0 l1 0) else (some false)
theorem laws_eqRecordS.mono_l : ∀ k, (∀ y0 y1 y2, LeO (laws_eqRecordS.l0 k y0 y1 y2) (laws_eqRecordS.l0 (k + 1) y0 y1 y2))
 | 0 => fun _ _ _ r h => by simp [laws_eqRecordS.l0] at h
 | k + 1 => by
  have ih0 := laws_eqRecordS.mono_l k
  ·intro y0 y1 y2
   unfold laws_eqRecordS.l0
   repeat' first
   | (with_reducible exact ih0 _ _ _)
   | (with_reducible exact LeO.refl _)
   | (with_reducible exact LeO.none _)
   | (with_reducible refine LeO.ite ?_ ?_)
   | (with_reducible refine LeO.bind ?_ (fun _ => ?_))
   | exact ih0 _ _ _
   | exact LeO.none _
   | refine LeO.ite ?_ ?_
   | refine LeO.bind ?_ (fun _ => ?_)
theorem laws_eqRecordS.mono : ∀ a0 a1 k, LeO (laws_eqRecordS.f k a0 a1) (laws_eqRecordS.f (k + 1) a0 a1) := by
 intro a0 a1 k
 have ih0 := laws_eqRecordS.mono_l k
 unfold laws_eqRecordS.f
 repeat' first
   | (with_reducible exact ih0 _ _ _)
   | (with_reducible exact LeO.refl _)
   | (with_reducible exact LeO.none _)
   | (with_reducible refine LeO.ite ?_ ?_)
   | (with_reducible refine LeO.bind ?_ (fun _ => ?_))
   | exact ih0 _ _ _
   | exact LeO.none _
   | refine LeO.ite ?_ ?_
   | refine LeO.bind ?_ (fun _ => ?_)
def laws_eqRecordS.T6 : Bool × List (List Nat × List Nat) := (true, [([], []), ([], []), ([0, 1], [0, 1]), ([2], [2]), ([], []), ([], []), ([4, 5], [4, 5]), ([6], [6]), ([3, 7], [3, 7]), ([8], [8])])
def laws_eqRecordS.B6 : List Nat := [0, 0, 3, 7, 0, 0, 48, 112, 255, 511]
theorem laws_eqRecordS.tab6 : rtab .any (opsOf Tryz.f69 6) = laws_eqRecordS.T6 := by kernel_rfl
theorem laws_eqRecordS.bits6 : waitsOk laws_eqRecordS.T6.2 laws_eqRecordS.B6 = true := by kernel_rfl
theorem laws_eqRecordS.calls (k : Nat) (A0 : Option Addr) (c0 : Nat) (l0 : List (S_Record)) (A1 : Option Addr) (c1 : Nat) (l1 : List (S_Record)) (r : Bool) (w : World) (hr0 : Kd.C k_Record w A0 l0.length l0) (hc0 : l0.length ≤ c0) (hr1 : Kd.C k_Record w A1 l1.length l1) (hc1 : l1.length ≤ c1) (h : laws_eqRecordS.f k l0 l1 = some r) :
  Calls Tryz.prog 69 #[.slice A0 l0.length c0, .slice A1 l1.length c1] w fun e w' => e = .returned (.bool r) ∧ Below w.heap.size w w' := by
 have hu93 := Tryz.underlying93
 have HR0 := Aside0.mk hr0
 have HC0 := Aside0.mk hc0
 clear hr0 hc0
 have HR1 := Aside0.mk hr1
 have HC1 := Aside0.mk hc1
 clear hr1 hc1
 have HB := Aside0.mk (Below.refl w.heap.size w)
 have H : (if (l0.length : Int) = (l1.length : Int) then (laws_eqRecordS.l0 k l0 l1 0) else (some false)) = some r := h
 clear h
 by_cases c3 : (l0.length : Int) = (l1.length : Int)
 ·rw [if_pos c3] at H
  have c3b0 : ((l0.length : Int) == (l1.length : Int)) = true := beq_iff_eq.mpr c3
  have c3b1 : ((l0.length : Int) != (l1.length : Int)) = false := bne_eq_false_iff_eq.mpr c3
  have c3b2 : (l0.length == l1.length) = true := by first | simpa using c3 | (simp at c3 ⊢; omega)
  clear c3
  have H' := Aside0.mk H
  clear H
  go_enter Tryz.func69, Tryz.ntmps69
  go_wp2
  go_loopg [5] k (fun kq v5 w' => ∃ (x5_1 : Int), v5 = .int .i64 x5_1 ∧ Aside0 (laws_eqRecordS.l0 kq l0 l1 x5_1 = some r) ∧ Aside0 (kq ≤ k) ∧ Aside0 (Below w.heap.size w w'))
  case atStart => exact ⟨(0), TF, H', ⟨Nat.le_refl _⟩, ⟨TB⟩⟩
  case round =>
   clear H'
   try clear c1
   try clear p2
   try clear c3
   try clear c3b0
   try clear c3b1
   try clear c3b2
   obtain ⟨x5_1, rfl, HA, HK1, HB⟩ := hrel
   cases gk with
   | zero => exact absurd HA.out (by simp [laws_eqRecordS.l0])
   | succ k1 =>
    have H := HA.out
    clear HA
    simp only [laws_eqRecordS.l0] at H
    by_cases c4 : x5_1 < (l0.length : Int)
    ·rw [if_pos c4] at H
     have c4b0 : decide (x5_1 < (l0.length : Int)) = true := decide_eq_true c4
     clear c4
     obtain ⟨c5, H⟩ := ifn H
     have c5b0 : decide (0 ≤ x5_1) = true := decide_eq_true c5
     clear c5
     obtain ⟨c6, H⟩ := ifn H
     have c6b0 : decide (x5_1 < (l1.length : Int)) = true := decide_eq_true c6
     clear c6
     obtain ⟨t437, A7, H⟩ := bnd H
     by_cases c8 : t437 = true
     ·subst c8
      replace H := ift H
      have H' := Aside0.mk H
      clear H
      try go_wp2
      replace HB := Aside0.mk (below_drew1 HB.out)
      have p435 : 0 ≤ (x5_1 : Int) := TD
      have q435 : x5_1 < (l0.length : Int) := TD
      obtain ⟨ad435, e435, hx435_0, hx435_1, hx435_2, hx435_3⟩ := at_TRecord HR0.out x5_1 p435 q435
      have hw435_3 := hx435_3
      have hw435_2 := hx435_2
      have hw435_1 := hx435_1
      have hw435_0 := hx435_0
      cases e435
      replace hx435_0 := hBc HB hx435_0
      replace hx435_1 := hBc HB hx435_1
      replace hx435_2 := hBc HB hx435_2
      replace hx435_3 := hBc HB hx435_3
      replace p435 := eq_true p435
      replace q435 := eq_true q435
      have p436 : 0 ≤ (x5_1 : Int) := TD
      have q436 : x5_1 < (l1.length : Int) := TD
      obtain ⟨ad436, e436, hx436_0, hx436_1, hx436_2, hx436_3⟩ := at_TRecord HR1.out x5_1 p436 q436
      have hw436_3 := hx436_3
      have hw436_2 := hx436_2
      have hw436_1 := hx436_1
      have hw436_0 := hx436_0
      cases e436
      replace hx436_0 := hBc HB hx436_0
      replace hx436_1 := hBc HB hx436_1
      replace hx436_2 := hBc HB hx436_2
      replace hx436_3 := hBc HB hx436_3
      replace p436 := eq_true p436
      replace q436 := eq_true q436
      refine start_ (n := 10) (S := fun w' => w'.cell? (ad435.add ((x5_1).toNat * 4)) = some (.string ((rd_TRecord l0 x5_1).f0)) ∧ w'.cell? ⟨(ad435.add ((x5_1).toNat * 4)).block, (ad435.add ((x5_1).toNat * 4)).off + 1, none⟩ = some (.int .i64 ((rd_TRecord l0 x5_1).f1)) ∧ w'.cell? ⟨(ad435.add ((x5_1).toNat * 4)).block, (ad435.add ((x5_1).toNat * 4)).off + 2, none⟩ = some (.int .i64 ((rd_TRecord l0 x5_1).f2)) ∧ w'.cell? ⟨(ad435.add ((x5_1).toNat * 4)).block, (ad435.add ((x5_1).toNat * 4)).off + 3, none⟩ = some (.string ((rd_TRecord l0 x5_1).f3)) ∧ w'.cell? (ad436.add ((x5_1).toNat * 4)) = some (.string ((rd_TRecord l1 x5_1).f0)) ∧ w'.cell? ⟨(ad436.add ((x5_1).toNat * 4)).block, (ad436.add ((x5_1).toNat * 4)).off + 1, none⟩ = some (.int .i64 ((rd_TRecord l1 x5_1).f1)) ∧ w'.cell? ⟨(ad436.add ((x5_1).toNat * 4)).block, (ad436.add ((x5_1).toNat * 4)).off + 2, none⟩ = some (.int .i64 ((rd_TRecord l1 x5_1).f2)) ∧ w'.cell? ⟨(ad436.add ((x5_1).toNat * 4)).block, (ad436.add ((x5_1).toNat * 4)).off + 3, none⟩ = some (.string ((rd_TRecord l1 x5_1).f3))) (ds := []) #[false, false, false, false, false, false, false, false, false, false] KR rfl rfl ⟨((HB.out.cell (World.block_lt_of_cell? w _ hw435_0)).trans hw435_0), ((HB.out.cell (World.block_lt_of_cell? w _ hw435_1)).trans hw435_1), ((HB.out.cell (World.block_lt_of_cell? w _ hw435_2)).trans hw435_2), ((HB.out.cell (World.block_lt_of_cell? w _ hw435_3)).trans hw435_3), ((HB.out.cell (World.block_lt_of_cell? w _ hw436_0)).trans hw436_0), ((HB.out.cell (World.block_lt_of_cell? w _ hw436_1)).trans hw436_1), ((HB.out.cell (World.block_lt_of_cell? w _ hw436_2)).trans hw436_2), ((HB.out.cell (World.block_lt_of_cell? w _ hw436_3)).trans hw436_3)⟩ (fun hHeld => ?_); refine with_tabW laws_eqRecordS.tab6 laws_eqRecordS.bits6 (fun HT_ HW_ => ?_)
      generalize wr.drew = w9 at HB hx435_0 hx435_1 hx435_2 hx435_3 hx436_0 hx436_1 hx436_2 hx436_3 hHeld ⊢
      refine pA 0 17 (mL 10 1) HT_ rfl rfl ?_
      refine pA 1 18 (mL 10 3) HT_ rfl rfl ?_
      refine pA 2 19 (mL 10 7) HT_ rfl rfl ?_
      refine pA 4 21 (mL 10 23) HT_ rfl rfl ?_
      refine pA 5 22 (mL 10 55) HT_ rfl rfl ?_
      refine pA 6 23 (mL 10 119) HT_ rfl rfl ?_
      refine tA 3 20 (mL 10 127) HT_ HW_ hHeld rfl rfl (by rintro w' ⟨s0, s1, s2, s3, s4, s5, s6, s7⟩; go_simp; with_reducible rfl) ?_
      refine tA 7 24 (mL 10 255) HT_ HW_ hHeld rfl rfl (by rintro w' ⟨s0, s1, s2, s3, s4, s5, s6, s7⟩; go_simp; with_reducible rfl) ?_
      refine one_ (i := 8) (N := some 25) (mL 10 511) rfl rfl (one_of HT_.out KR) (by decide) (fun K hK => ?_)
      refine goes_ Tryz.func124 KR rfl #[.agg #[.string ((rd_TRecord l0 x5_1).f0), .int .i64 ((rd_TRecord l0 x5_1).f1), .int .i64 ((rd_TRecord l0 x5_1).f2), .string ((rd_TRecord l0 x5_1).f3)], .agg #[.string ((rd_TRecord l1 x5_1).f0), .int .i64 ((rd_TRecord l1 x5_1).f1), .int .i64 ((rd_TRecord l1 x5_1).f2), .string ((rd_TRecord l1 x5_1).f3)]] (by rfl) rfl rfl TA ?_
      with_reducible refine (laws_eqRecord.calls ((rd_TRecord l0 x5_1).f0) ((rd_TRecord l0 x5_1).f1) ((rd_TRecord l0 x5_1).f2) ((rd_TRecord l0 x5_1).f3) ((rd_TRecord l1 x5_1).f0) ((rd_TRecord l1 x5_1).f1) ((rd_TRecord l1 x5_1).f2) ((rd_TRecord l1 x5_1).f3) true _ A7.out).mono ?_
      rintro e w10 ⟨rfl, hb⟩
      refine ⟨_, rfl, ?_⟩
      replace HB := BS hb
      (try clear hb)
      (try clear hb2)
      (try clear hk)
      (try clear hi)
      refine hK.out _ _ ⟨((HB.out.cell (World.block_lt_of_cell? w _ hw435_0)).trans hw435_0), ((HB.out.cell (World.block_lt_of_cell? w _ hw435_1)).trans hw435_1), ((HB.out.cell (World.block_lt_of_cell? w _ hw435_2)).trans hw435_2), ((HB.out.cell (World.block_lt_of_cell? w _ hw435_3)).trans hw435_3), ((HB.out.cell (World.block_lt_of_cell? w _ hw436_0)).trans hw436_0), ((HB.out.cell (World.block_lt_of_cell? w _ hw436_1)).trans hw436_1), ((HB.out.cell (World.block_lt_of_cell? w _ hw436_2)).trans hw436_2), ((HB.out.cell (World.block_lt_of_cell? w _ hw436_3)).trans hw436_3)⟩ (fun hHeld => ?_)
      clear hK K
      refine nA ?_
      refine pA 9 26 (mL 10 1023) HT_ rfl rfl ?_
      refine done_ (done_of HT_.out KR) ?_
      try go_wp2
      go_roundg k1
      case measure => have := HK1.out; omega
      case rel => exact ⟨(wrap64 (x5_1 + 1)), TF, H', ⟨TM⟩, ⟨TB⟩⟩
     ·replace c8 := Bool.eq_false_iff.mpr c8
      subst c8
      replace H := iff' H
      obtain rfl := Option.some.inj H
      try go_wp2
      replace HB := Aside0.mk (below_drew1 HB.out)
      have p435 : 0 ≤ (x5_1 : Int) := TD
      have q435 : x5_1 < (l0.length : Int) := TD
      obtain ⟨ad435, e435, hx435_0, hx435_1, hx435_2, hx435_3⟩ := at_TRecord HR0.out x5_1 p435 q435
      have hw435_3 := hx435_3
      have hw435_2 := hx435_2
      have hw435_1 := hx435_1
      have hw435_0 := hx435_0
      cases e435
      replace hx435_0 := hBc HB hx435_0
      replace hx435_1 := hBc HB hx435_1
      replace hx435_2 := hBc HB hx435_2
      replace hx435_3 := hBc HB hx435_3
      replace p435 := eq_true p435
      replace q435 := eq_true q435
      have p436 : 0 ≤ (x5_1 : Int) := TD
      have q436 : x5_1 < (l1.length : Int) := TD
      obtain ⟨ad436, e436, hx436_0, hx436_1, hx436_2, hx436_3⟩ := at_TRecord HR1.out x5_1 p436 q436
      have hw436_3 := hx436_3
      have hw436_2 := hx436_2
      have hw436_1 := hx436_1
      have hw436_0 := hx436_0
      cases e436
      replace hx436_0 := hBc HB hx436_0
      replace hx436_1 := hBc HB hx436_1
      replace hx436_2 := hBc HB hx436_2
      replace hx436_3 := hBc HB hx436_3
      replace p436 := eq_true p436
      replace q436 := eq_true q436
      refine start_ (n := 10) (S := fun w' => w'.cell? (ad435.add ((x5_1).toNat * 4)) = some (.string ((rd_TRecord l0 x5_1).f0)) ∧ w'.cell? ⟨(ad435.add ((x5_1).toNat * 4)).block, (ad435.add ((x5_1).toNat * 4)).off + 1, none⟩ = some (.int .i64 ((rd_TRecord l0 x5_1).f1)) ∧ w'.cell? ⟨(ad435.add ((x5_1).toNat * 4)).block, (ad435.add ((x5_1).toNat * 4)).off + 2, none⟩ = some (.int .i64 ((rd_TRecord l0 x5_1).f2)) ∧ w'.cell? ⟨(ad435.add ((x5_1).toNat * 4)).block, (ad435.add ((x5_1).toNat * 4)).off + 3, none⟩ = some (.string ((rd_TRecord l0 x5_1).f3)) ∧ w'.cell? (ad436.add ((x5_1).toNat * 4)) = some (.string ((rd_TRecord l1 x5_1).f0)) ∧ w'.cell? ⟨(ad436.add ((x5_1).toNat * 4)).block, (ad436.add ((x5_1).toNat * 4)).off + 1, none⟩ = some (.int .i64 ((rd_TRecord l1 x5_1).f1)) ∧ w'.cell? ⟨(ad436.add ((x5_1).toNat * 4)).block, (ad436.add ((x5_1).toNat * 4)).off + 2, none⟩ = some (.int .i64 ((rd_TRecord l1 x5_1).f2)) ∧ w'.cell? ⟨(ad436.add ((x5_1).toNat * 4)).block, (ad436.add ((x5_1).toNat * 4)).off + 3, none⟩ = some (.string ((rd_TRecord l1 x5_1).f3))) (ds := []) #[false, false, false, false, false, false, false, false, false, false] KR rfl rfl ⟨((HB.out.cell (World.block_lt_of_cell? w _ hw435_0)).trans hw435_0), ((HB.out.cell (World.block_lt_of_cell? w _ hw435_1)).trans hw435_1), ((HB.out.cell (World.block_lt_of_cell? w _ hw435_2)).trans hw435_2), ((HB.out.cell (World.block_lt_of_cell? w _ hw435_3)).trans hw435_3), ((HB.out.cell (World.block_lt_of_cell? w _ hw436_0)).trans hw436_0), ((HB.out.cell (World.block_lt_of_cell? w _ hw436_1)).trans hw436_1), ((HB.out.cell (World.block_lt_of_cell? w _ hw436_2)).trans hw436_2), ((HB.out.cell (World.block_lt_of_cell? w _ hw436_3)).trans hw436_3)⟩ (fun hHeld => ?_); refine with_tabW laws_eqRecordS.tab6 laws_eqRecordS.bits6 (fun HT_ HW_ => ?_)
      generalize wr.drew = w11 at HB hx435_0 hx435_1 hx435_2 hx435_3 hx436_0 hx436_1 hx436_2 hx436_3 hHeld ⊢
      refine pA 0 17 (mL 10 1) HT_ rfl rfl ?_
      refine pA 1 18 (mL 10 3) HT_ rfl rfl ?_
      refine pA 2 19 (mL 10 7) HT_ rfl rfl ?_
      refine pA 4 21 (mL 10 23) HT_ rfl rfl ?_
      refine pA 5 22 (mL 10 55) HT_ rfl rfl ?_
      refine pA 6 23 (mL 10 119) HT_ rfl rfl ?_
      refine tA 3 20 (mL 10 127) HT_ HW_ hHeld rfl rfl (by rintro w' ⟨s0, s1, s2, s3, s4, s5, s6, s7⟩; go_simp; with_reducible rfl) ?_
      refine tA 7 24 (mL 10 255) HT_ HW_ hHeld rfl rfl (by rintro w' ⟨s0, s1, s2, s3, s4, s5, s6, s7⟩; go_simp; with_reducible rfl) ?_
      refine one_ (i := 8) (N := some 25) (mL 10 511) rfl rfl (one_of HT_.out KR) (by decide) (fun K hK => ?_)
      refine goes_ Tryz.func124 KR rfl #[.agg #[.string ((rd_TRecord l0 x5_1).f0), .int .i64 ((rd_TRecord l0 x5_1).f1), .int .i64 ((rd_TRecord l0 x5_1).f2), .string ((rd_TRecord l0 x5_1).f3)], .agg #[.string ((rd_TRecord l1 x5_1).f0), .int .i64 ((rd_TRecord l1 x5_1).f1), .int .i64 ((rd_TRecord l1 x5_1).f2), .string ((rd_TRecord l1 x5_1).f3)]] (by rfl) rfl rfl TA ?_
      with_reducible refine (laws_eqRecord.calls ((rd_TRecord l0 x5_1).f0) ((rd_TRecord l0 x5_1).f1) ((rd_TRecord l0 x5_1).f2) ((rd_TRecord l0 x5_1).f3) ((rd_TRecord l1 x5_1).f0) ((rd_TRecord l1 x5_1).f1) ((rd_TRecord l1 x5_1).f2) ((rd_TRecord l1 x5_1).f3) false _ A7.out).mono ?_
      rintro e w12 ⟨rfl, hb⟩
      refine ⟨_, rfl, ?_⟩
      replace HB := BS hb
      (try clear hb)
      (try clear hb2)
      (try clear hk)
      (try clear hi)
      refine hK.out _ _ ⟨((HB.out.cell (World.block_lt_of_cell? w _ hw435_0)).trans hw435_0), ((HB.out.cell (World.block_lt_of_cell? w _ hw435_1)).trans hw435_1), ((HB.out.cell (World.block_lt_of_cell? w _ hw435_2)).trans hw435_2), ((HB.out.cell (World.block_lt_of_cell? w _ hw435_3)).trans hw435_3), ((HB.out.cell (World.block_lt_of_cell? w _ hw436_0)).trans hw436_0), ((HB.out.cell (World.block_lt_of_cell? w _ hw436_1)).trans hw436_1), ((HB.out.cell (World.block_lt_of_cell? w _ hw436_2)).trans hw436_2), ((HB.out.cell (World.block_lt_of_cell? w _ hw436_3)).trans hw436_3)⟩ (fun hHeld => ?_)
      clear hK K
      refine nA ?_
      refine pA 9 26 (mL 10 1023) HT_ rfl rfl ?_
      refine done_ (done_of HT_.out KR) ?_
      try go_wp2
      go_ret
      exact ⟨TE, TB⟩
    ·rw [if_neg c4] at H
     have c4b0 : decide (x5_1 < (l0.length : Int)) = false := decide_eq_false c4
     clear c4
     obtain rfl := Option.some.inj H
     go_wp2
     go_ret
     exact ⟨TE, TB⟩
 ·rw [if_neg c3] at H
  have c3b0 : ((l0.length : Int) == (l1.length : Int)) = false := beq_eq_false_iff_ne.mpr c3
  have c3b1 : ((l0.length : Int) != (l1.length : Int)) = true := bne_iff_ne.mpr c3
  have c3b2 : (l0.length == l1.length) = false := by first | simpa using c3 | (simp at c3 ⊢; omega)
  obtain rfl := Option.some.inj H
  go_enter Tryz.func69, Tryz.ntmps69
  go_wp2
  go_ret
  exact ⟨TE, TB⟩
end
section
/-! ### laws_eqDiff: function 19 -/
def laws_eqDiff.f (k : Nat) (a0_0 : Int) (a0_1 : Int) (l0_2 : List (S_Record)) (l0_3 : List (S_Record)) (a1_0 : Int) (a1_1 : Int) (l1_2 : List (S_Record)) (l1_3 : List (S_Record)) : Option (Bool) := if a0_0 = a1_0 then (if a0_1 = a1_1 then ((laws_eqRecordS.f k l0_2 l1_2).bind fun t440 => (if t440 = true then ((laws_eqRecordS.f k l0_3 l1_3).bind fun t441 => (if t441 = true then (some true) else (some false))) else (some false))) else (some false)) else (some false)
theorem laws_eqDiff.mono : ∀ a0 a1 a2 a3 a4 a5 a6 a7 k, LeO (laws_eqDiff.f k a0 a1 a2 a3 a4 a5 a6 a7) (laws_eqDiff.f (k + 1) a0 a1 a2 a3 a4 a5 a6 a7) := by
 intro a0 a1 a2 a3 a4 a5 a6 a7 k
 unfold laws_eqDiff.f
 repeat' first
   | (with_reducible exact laws_eqRecordS.mono _ _ _)
   | (with_reducible exact LeO.refl _)
   | (with_reducible exact LeO.none _)
   | (with_reducible refine LeO.ite ?_ ?_)
   | (with_reducible refine LeO.bind ?_ (fun _ => ?_))
   | exact laws_eqRecordS.mono _ _ _
   | exact LeO.none _
   | refine LeO.ite ?_ ?_
   | refine LeO.bind ?_ (fun _ => ?_)
theorem laws_eqDiff.calls (k : Nat) (a0_0 : Int) (a0_1 : Int) (A0_2 : Option Addr) (c0_2 : Nat) (l0_2 : List (S_Record)) (A0_3 : Option Addr) (c0_3 : Nat) (l0_3 : List (S_Record)) (a1_0 : Int) (a1_1 : Int) (A1_2 : Option Addr) (c1_2 : Nat) (l1_2 : List (S_Record)) (A1_3 : Option Addr) (c1_3 : Nat) (l1_3 : List (S_Record)) (r : Bool) (w : World) (hr0_2 : Kd.C k_Record w A0_2 l0_2.length l0_2) (hc0_2 : l0_2.length ≤ c0_2) (hr0_3 : Kd.C k_Record w A0_3 l0_3.length l0_3) (hc0_3 : l0_3.length ≤ c0_3) (hr1_2 : Kd.C k_Record w A1_2 l1_2.length l1_2) (hc1_2 : l1_2.length ≤ c1_2) (hr1_3 : Kd.C k_Record w A1_3 l1_3.length l1_3) (hc1_3 : l1_3.length ≤ c1_3) (h : laws_eqDiff.f k a0_0 a0_1 l0_2 l0_3 a1_0 a1_1 l1_2 l1_3 = some r) :
  Calls Tryz.prog 19 #[.agg #[.int .i64 a0_0, .int .i64 a0_1, .slice A0_2 l0_2.length c0_2, .slice A0_3 l0_3.length c0_3], .agg #[.int .i64 a1_0, .int .i64 a1_1, .slice A1_2 l1_2.length c1_2, .slice A1_3 l1_3.length c1_3]] w fun e w' => e = .returned (.bool r) ∧ Below w.heap.size w w' := by
 have hu29 := Tryz.underlying29
 have HR0_2 := Aside0.mk hr0_2
 have HC0_2 := Aside0.mk hc0_2
 clear hr0_2 hc0_2
 have HR0_3 := Aside0.mk hr0_3
 have HC0_3 := Aside0.mk hc0_3
 clear hr0_3 hc0_3
 have HR1_2 := Aside0.mk hr1_2
 have HC1_2 := Aside0.mk hc1_2
 clear hr1_2 hc1_2
 have HR1_3 := Aside0.mk hr1_3
 have HC1_3 := Aside0.mk hc1_3
 clear hr1_3 hc1_3
 have HB := Aside0.mk (Below.refl w.heap.size w)
 have H : (if a0_0 = a1_0 then (if a0_1 = a1_1 then ((laws_eqRecordS.f k l0_2 l1_2).bind fun t440 => (if t440 = true then ((laws_eqRecordS.f k l0_3 l1_3).bind fun t441 => (if t441 = true then (some true) else (some false))) else (some false))) else (some false)) else (some false)) = some r := h
 clear h
 by_cases c3 : a0_0 = a1_0
 ·rw [if_pos c3] at H
  have c3b0 : (a0_0 == a1_0) = true := beq_iff_eq.mpr c3
  have c3b1 : (a0_0 != a1_0) = false := bne_eq_false_iff_eq.mpr c3
  clear c3
  by_cases c4 : a0_1 = a1_1
  ·rw [if_pos c4] at H
   have c4b0 : (a0_1 == a1_1) = true := beq_iff_eq.mpr c4
   have c4b1 : (a0_1 != a1_1) = false := bne_eq_false_iff_eq.mpr c4
   clear c4
   obtain ⟨t440, A5, H⟩ := bnd H
   by_cases c6 : t440 = true
   ·subst c6
    replace H := ift H
    obtain ⟨t441, A7, H⟩ := bnd H
    by_cases c8 : t441 = true
    ·subst c8
     replace H := ift H
     obtain rfl := Option.some.inj H
     go_enter Tryz.func19, Tryz.ntmps19
     go_wp2_with (first | ((with_reducible refine gate_dst (N := 2) rfl ?_); refine bE 2 #[.int .i64 a0_0, .int .i64 a0_1, .slice A0_2 l0_2.length c0_2, .slice A0_3 l0_3.length c0_3] 29 ?_; intro gb438 hg w9 hbox hb; have BK438 := Aside0.mk (hbox); have GE438 := bG hg; replace HB := BS hb; clear hb hbox hg) | ((with_reducible refine gate_dst (N := 3) rfl ?_); refine bE 3 #[.int .i64 a1_0, .int .i64 a1_1, .slice A1_2 l1_2.length c1_2, .slice A1_3 l1_3.length c1_3] 29 ?_; intro gb439 hg w10 hbox hb; have BK439 := Aside0.mk (hbox); have GE439 := bG hg; replace HB := BS hb; have NB438_439 := bN BK438 hg; have NB439_438 := bM BK438 hg; replace BK438 := KB BK438 hb; clear hb hbox hg; have hnb11 := NB438_439.out; have hnc11 := NB439_438.out; have hcz12 := cz4 BK438; have hcz13 := cz4 BK439) | ((with_reducible refine gate_callee (f := 69) rfl ?_); refine goesL_ (some 19) rfl rfl Tryz.func69 KR rfl #[.slice A0_2 l0_2.length c0_2, .slice A1_2 l1_2.length c1_2] rfl TA ?_; (with_reducible refine (laws_eqRecordS.calls k _ _ l0_2 _ _ l1_2 true _ ?side1 ?side2 ?side3 ?side4 A5.out).mono ?_); (case side1 => exact CW ((Kd.C_below HR0_2.out HB.out))); (case side2 => exact HC0_2.out); (case side3 => exact CW ((Kd.C_below HR1_2.out HB.out))); (case side4 => exact HC1_2.out); rintro e w14 ⟨rfl, hb⟩; refine ⟨_, rfl, ?_⟩; replace BK438 := KB BK438 hb; replace BK439 := KB BK439 hb; replace HB := BS hb; (try clear hb); (try clear hb2); (try clear hk); (try clear hi); have hcz15 := cz4 BK438; have hcz16 := cz4 BK439) | ((with_reducible refine gate_callee (f := 69) rfl ?_); refine goesL_ (some 25) rfl rfl Tryz.func69 KR rfl #[.slice A0_3 l0_3.length c0_3, .slice A1_3 l1_3.length c1_3] rfl TA ?_; (with_reducible refine (laws_eqRecordS.calls k _ _ l0_3 _ _ l1_3 true _ ?side1 ?side2 ?side3 ?side4 A7.out).mono ?_); (case side1 => exact CW ((Kd.C_below HR0_3.out HB.out))); (case side2 => exact HC0_3.out); (case side3 => exact CW ((Kd.C_below HR1_3.out HB.out))); (case side4 => exact HC1_3.out); rintro e w17 ⟨rfl, hb⟩; refine ⟨_, rfl, ?_⟩; replace BK438 := KB BK438 hb; replace BK439 := KB BK439 hb; replace HB := BS hb; (try clear hb); (try clear hb2); (try clear hk); (try clear hi)))
     go_ret
     exact ⟨TE, TB⟩
    ·replace c8 := Bool.eq_false_iff.mpr c8
     subst c8
     replace H := iff' H
     obtain rfl := Option.some.inj H
     go_enter Tryz.func19, Tryz.ntmps19
     go_wp2_with (first | ((with_reducible refine gate_dst (N := 2) rfl ?_); refine bE 2 #[.int .i64 a0_0, .int .i64 a0_1, .slice A0_2 l0_2.length c0_2, .slice A0_3 l0_3.length c0_3] 29 ?_; intro gb438 hg w18 hbox hb; have BK438 := Aside0.mk (hbox); have GE438 := bG hg; replace HB := BS hb; clear hb hbox hg) | ((with_reducible refine gate_dst (N := 3) rfl ?_); refine bE 3 #[.int .i64 a1_0, .int .i64 a1_1, .slice A1_2 l1_2.length c1_2, .slice A1_3 l1_3.length c1_3] 29 ?_; intro gb439 hg w19 hbox hb; have BK439 := Aside0.mk (hbox); have GE439 := bG hg; replace HB := BS hb; have NB438_439 := bN BK438 hg; have NB439_438 := bM BK438 hg; replace BK438 := KB BK438 hb; clear hb hbox hg; have hnb20 := NB438_439.out; have hnc20 := NB439_438.out; have hcz21 := cz4 BK438; have hcz22 := cz4 BK439) | ((with_reducible refine gate_callee (f := 69) rfl ?_); refine goesL_ (some 19) rfl rfl Tryz.func69 KR rfl #[.slice A0_2 l0_2.length c0_2, .slice A1_2 l1_2.length c1_2] rfl TA ?_; (with_reducible refine (laws_eqRecordS.calls k _ _ l0_2 _ _ l1_2 true _ ?side1 ?side2 ?side3 ?side4 A5.out).mono ?_); (case side1 => exact CW ((Kd.C_below HR0_2.out HB.out))); (case side2 => exact HC0_2.out); (case side3 => exact CW ((Kd.C_below HR1_2.out HB.out))); (case side4 => exact HC1_2.out); rintro e w23 ⟨rfl, hb⟩; refine ⟨_, rfl, ?_⟩; replace BK438 := KB BK438 hb; replace BK439 := KB BK439 hb; replace HB := BS hb; (try clear hb); (try clear hb2); (try clear hk); (try clear hi); have hcz24 := cz4 BK438; have hcz25 := cz4 BK439) | ((with_reducible refine gate_callee (f := 69) rfl ?_); refine goesL_ (some 25) rfl rfl Tryz.func69 KR rfl #[.slice A0_3 l0_3.length c0_3, .slice A1_3 l1_3.length c1_3] rfl TA ?_; (with_reducible refine (laws_eqRecordS.calls k _ _ l0_3 _ _ l1_3 false _ ?side1 ?side2 ?side3 ?side4 A7.out).mono ?_); (case side1 => exact CW ((Kd.C_below HR0_3.out HB.out))); (case side2 => exact HC0_3.out); (case side3 => exact CW ((Kd.C_below HR1_3.out HB.out))); (case side4 => exact HC1_3.out); rintro e w26 ⟨rfl, hb⟩; refine ⟨_, rfl, ?_⟩; replace BK438 := KB BK438 hb; replace BK439 := KB BK439 hb; replace HB := BS hb; (try clear hb); (try clear hb2); (try clear hk); (try clear hi)))
     go_ret
     exact ⟨TE, TB⟩
   ·replace c6 := Bool.eq_false_iff.mpr c6
    subst c6
    replace H := iff' H
    obtain rfl := Option.some.inj H
    go_enter Tryz.func19, Tryz.ntmps19
    go_wp2_with (first | ((with_reducible refine gate_dst (N := 2) rfl ?_); refine bE 2 #[.int .i64 a0_0, .int .i64 a0_1, .slice A0_2 l0_2.length c0_2, .slice A0_3 l0_3.length c0_3] 29 ?_; intro gb438 hg w27 hbox hb; have BK438 := Aside0.mk (hbox); have GE438 := bG hg; replace HB := BS hb; clear hb hbox hg) | ((with_reducible refine gate_dst (N := 3) rfl ?_); refine bE 3 #[.int .i64 a1_0, .int .i64 a1_1, .slice A1_2 l1_2.length c1_2, .slice A1_3 l1_3.length c1_3] 29 ?_; intro gb439 hg w28 hbox hb; have BK439 := Aside0.mk (hbox); have GE439 := bG hg; replace HB := BS hb; have NB438_439 := bN BK438 hg; have NB439_438 := bM BK438 hg; replace BK438 := KB BK438 hb; clear hb hbox hg; have hnb29 := NB438_439.out; have hnc29 := NB439_438.out; have hcz30 := cz4 BK438; have hcz31 := cz4 BK439) | ((with_reducible refine gate_callee (f := 69) rfl ?_); refine goesL_ (some 19) rfl rfl Tryz.func69 KR rfl #[.slice A0_2 l0_2.length c0_2, .slice A1_2 l1_2.length c1_2] rfl TA ?_; (with_reducible refine (laws_eqRecordS.calls k _ _ l0_2 _ _ l1_2 false _ ?side1 ?side2 ?side3 ?side4 A5.out).mono ?_); (case side1 => exact CW ((Kd.C_below HR0_2.out HB.out))); (case side2 => exact HC0_2.out); (case side3 => exact CW ((Kd.C_below HR1_2.out HB.out))); (case side4 => exact HC1_2.out); rintro e w32 ⟨rfl, hb⟩; refine ⟨_, rfl, ?_⟩; replace BK438 := KB BK438 hb; replace BK439 := KB BK439 hb; replace HB := BS hb; (try clear hb); (try clear hb2); (try clear hk); (try clear hi)))
    go_ret
    exact ⟨TE, TB⟩
  ·rw [if_neg c4] at H
   have c4b0 : (a0_1 == a1_1) = false := beq_eq_false_iff_ne.mpr c4
   have c4b1 : (a0_1 != a1_1) = true := bne_iff_ne.mpr c4
   obtain rfl := Option.some.inj H
   go_enter Tryz.func19, Tryz.ntmps19
   go_wp2_with (first | ((with_reducible refine gate_dst (N := 2) rfl ?_); refine bE 2 #[.int .i64 a0_0, .int .i64 a0_1, .slice A0_2 l0_2.length c0_2, .slice A0_3 l0_3.length c0_3] 29 ?_; intro gb438 hg w33 hbox hb; have BK438 := Aside0.mk (hbox); have GE438 := bG hg; replace HB := BS hb; clear hb hbox hg) | ((with_reducible refine gate_dst (N := 3) rfl ?_); refine bE 3 #[.int .i64 a1_0, .int .i64 a1_1, .slice A1_2 l1_2.length c1_2, .slice A1_3 l1_3.length c1_3] 29 ?_; intro gb439 hg w34 hbox hb; have BK439 := Aside0.mk (hbox); have GE439 := bG hg; replace HB := BS hb; have NB438_439 := bN BK438 hg; have NB439_438 := bM BK438 hg; replace BK438 := KB BK438 hb; clear hb hbox hg; have hnb35 := NB438_439.out; have hnc35 := NB439_438.out; have hcz36 := cz4 BK438; have hcz37 := cz4 BK439))
   go_ret
   exact ⟨TE, TB⟩
 ·rw [if_neg c3] at H
  have c3b0 : (a0_0 == a1_0) = false := beq_eq_false_iff_ne.mpr c3
  have c3b1 : (a0_0 != a1_0) = true := bne_iff_ne.mpr c3
  obtain rfl := Option.some.inj H
  go_enter Tryz.func19, Tryz.ntmps19
  go_wp2_with (first | ((with_reducible refine gate_dst (N := 2) rfl ?_); refine bE 2 #[.int .i64 a0_0, .int .i64 a0_1, .slice A0_2 l0_2.length c0_2, .slice A0_3 l0_3.length c0_3] 29 ?_; intro gb438 hg w38 hbox hb; have BK438 := Aside0.mk (hbox); have GE438 := bG hg; replace HB := BS hb; clear hb hbox hg) | ((with_reducible refine gate_dst (N := 3) rfl ?_); refine bE 3 #[.int .i64 a1_0, .int .i64 a1_1, .slice A1_2 l1_2.length c1_2, .slice A1_3 l1_3.length c1_3] 29 ?_; intro gb439 hg w39 hbox hb; have BK439 := Aside0.mk (hbox); have GE439 := bG hg; replace HB := BS hb; have NB438_439 := bN BK438 hg; have NB439_438 := bM BK438 hg; replace BK438 := KB BK438 hb; clear hb hbox hg; have hnb40 := NB438_439.out; have hnc40 := NB439_438.out; have hcz41 := cz4 BK438; have hcz42 := cz4 BK439))
  go_ret
  exact ⟨TE, TB⟩
end
section
/-! ### laws_FnExactGoodDiff: function 3 -/
def laws_FnExactGoodDiff.f (k : Nat) (a0_0 : Int) (a0_1 : Int) (l0_2 : List (S_LRecord)) (l0_3 : List (S_LRecord)) : Option (Bool) := (laws_szDiff.f k a0_0 a0_1 l0_2 l0_3 1048576).bind fun t1083 => (if t1083 < 0 then (some true) else ((laws_toDiff.f k a0_0 a0_1 l0_2 l0_3).bind fun bt1084 => ((spec_GoodDiff.f k bt1084.1 bt1084.2.1 bt1084.2.2.1 bt1084.2.2.2).bind fun t1092 => ((laws_toDiff.f k a0_0 a0_1 l0_2 l0_3).bind fun bt1093 => ((impl_GoodDiff.f k bt1093.1 bt1093.2.1 bt1093.2.2.1 bt1093.2.2.2).bind fun t1102 => (if (t1102 != t1092) = true then (some false) else ((laws_toDiff.f k a0_0 a0_1 l0_2 l0_3).bind fun bt1103 => ((laws_eqDiff.f k bt1093.1 bt1093.2.1 bt1093.2.2.1 bt1093.2.2.2 bt1103.1 bt1103.2.1 bt1103.2.2.1 bt1103.2.2.2).bind fun t1111 => (if t1111 = true then (some true) else (some false))))))))))
theorem laws_FnExactGoodDiff.mono : ∀ a0 a1 a2 a3 k, LeO (laws_FnExactGoodDiff.f k a0 a1 a2 a3) (laws_FnExactGoodDiff.f (k + 1) a0 a1 a2 a3) := by
 intro a0 a1 a2 a3 k
 unfold laws_FnExactGoodDiff.f
 repeat' first
   | (with_reducible exact impl_GoodDiff.mono _ _ _ _ _)
   | (with_reducible exact laws_eqDiff.mono _ _ _ _ _ _ _ _ _)
   | (with_reducible exact laws_szDiff.mono _ _ _ _ _ _)
   | (with_reducible exact laws_toDiff.mono _ _ _ _ _)
   | (with_reducible exact spec_GoodDiff.mono _ _ _ _ _)
   | (with_reducible exact LeO.refl _)
   | (with_reducible exact LeO.none _)
   | (with_reducible refine LeO.ite ?_ ?_)
   | (with_reducible refine LeO.bind ?_ (fun _ => ?_))
   | exact impl_GoodDiff.mono _ _ _ _ _
   | exact laws_eqDiff.mono _ _ _ _ _ _ _ _ _
   | exact laws_szDiff.mono _ _ _ _ _ _
   | exact laws_toDiff.mono _ _ _ _ _
   | exact spec_GoodDiff.mono _ _ _ _ _
   | exact LeO.none _
   | refine LeO.ite ?_ ?_
   | refine LeO.bind ?_ (fun _ => ?_)
theorem laws_FnExactGoodDiff.calls (k : Nat) (a0_0 : Int) (a0_1 : Int) (A0_2 : Option Addr) (c0_2 : Nat) (l0_2 : List (S_LRecord)) (A0_3 : Option Addr) (c0_3 : Nat) (l0_3 : List (S_LRecord)) (r : Bool) (w : World) (hr0_2 : Kd.C k_LRecord w A0_2 l0_2.length l0_2) (hc0_2 : l0_2.length ≤ c0_2) (hr0_3 : Kd.C k_LRecord w A0_3 l0_3.length l0_3) (hc0_3 : l0_3.length ≤ c0_3) (hG_ : Glob w) (h : laws_FnExactGoodDiff.f k a0_0 a0_1 l0_2 l0_3 = some r) :
  Calls Tryz.prog 3 #[.agg #[.int .i64 a0_0, .int .i64 a0_1, .slice A0_2 l0_2.length c0_2, .slice A0_3 l0_3.length c0_3]] w fun e w' => e = .returned (.bool r) ∧ Below w.heap.size w w' := by
 have hu24 := Tryz.underlying24
 have hu29 := Tryz.underlying29
 have HR0_2 := Aside0.mk hr0_2
 have HC0_2 := Aside0.mk hc0_2
 clear hr0_2 hc0_2
 have HR0_3 := Aside0.mk hr0_3
 have HC0_3 := Aside0.mk hc0_3
 clear hr0_3 hc0_3
 have HGL := Aside0.mk hG_
 clear hG_
 have HB := Aside0.mk (Below.refl w.heap.size w)
 have H : ((laws_szDiff.f k a0_0 a0_1 l0_2 l0_3 1048576).bind fun t1083 => (if t1083 < 0 then (some true) else ((laws_toDiff.f k a0_0 a0_1 l0_2 l0_3).bind fun bt1084 => ((spec_GoodDiff.f k bt1084.1 bt1084.2.1 bt1084.2.2.1 bt1084.2.2.2).bind fun t1092 => ((laws_toDiff.f k a0_0 a0_1 l0_2 l0_3).bind fun bt1093 => ((impl_GoodDiff.f k bt1093.1 bt1093.2.1 bt1093.2.2.1 bt1093.2.2.2).bind fun t1102 => (if (t1102 != t1092) = true then (some false) else ((laws_toDiff.f k a0_0 a0_1 l0_2 l0_3).bind fun bt1103 => ((laws_eqDiff.f k bt1093.1 bt1093.2.1 bt1093.2.2.1 bt1093.2.2.2 bt1103.1 bt1103.2.1 bt1103.2.2.1 bt1103.2.2.2).bind fun t1111 => (if t1111 = true then (some true) else (some false))))))))))) = some r := h
 clear h
 obtain ⟨t1083, A2, H⟩ := bnd H
 by_cases c3 : t1083 < 0
 ·rw [if_pos c3] at H
  have c3b0 : decide (t1083 < 0) = true := decide_eq_true c3
  clear c3
  obtain rfl := Option.some.inj H
  go_enter Tryz.func3, Tryz.ntmps3
  go_wp2_with (first | ((with_reducible refine gate_dst (N := 1) rfl ?_); refine bE 1 #[.int .i64 a0_0, .int .i64 a0_1, .slice A0_2 l0_2.length c0_2, .slice A0_3 l0_3.length c0_3] 24 ?_; intro gb1082 hg w4 hbox hb; have BK1082 := Aside0.mk (hbox); have GE1082 := bG hg; replace HB := BS hb; clear hb hbox hg; have hcz5 := cz4 BK1082) | ((with_reducible refine gate_callee (f := 15) rfl ?_); refine goesL_ (some 9) rfl rfl Tryz.func15 KR rfl #[.agg #[.int .i64 a0_0, .int .i64 a0_1, .slice A0_2 l0_2.length c0_2, .slice A0_3 l0_3.length c0_3], .int .i64 1048576] rfl TA ?_; (with_reducible refine (laws_szDiff.calls k a0_0 a0_1 _ _ l0_2 _ _ l0_3 1048576 t1083 _ ?side1 ?side2 ?side3 ?side4 A2.out).mono ?_); (case side1 => exact CW ((Kd.C_below HR0_2.out HB.out))); (case side2 => exact HC0_2.out); (case side3 => exact CW ((Kd.C_below HR0_3.out HB.out))); (case side4 => exact HC0_3.out); rintro e w6 ⟨rfl, hb⟩; refine ⟨_, rfl, ?_⟩; replace BK1082 := KB BK1082 hb; replace HB := BS hb; (try clear hb); (try clear hb2); (try clear hk); (try clear hi)))
  go_ret
  exact ⟨TE, TB⟩
 ·rw [if_neg c3] at H
  have c3b0 : decide (t1083 < 0) = false := decide_eq_false c3
  clear c3
  obtain ⟨⟨t1084, t1085, t1086, t1089⟩, A7, H⟩ := bnd H
  try dsimp only at H
  obtain ⟨t1092, A8, H⟩ := bnd H
  obtain ⟨⟨t1093, t1094, t1095, t1098⟩, A9, H⟩ := bnd H
  try dsimp only at H
  obtain ⟨t1102, A10, H⟩ := bnd H
  by_cases c11 : (t1102 != t1092) = true
  ·rw [if_pos c11] at H
   have c11b0 : (t1102 != t1092) = true := c11
   (try (have c11b1 : decide (t1102 = t1092) = false := by simpa using c11))
   (try (have c11b2 : (t1102 == t1092) = false := by simpa using c11))
   (try (have c11b3 : ¬ (t1102 = t1092) := by simpa using c11))
   clear c11
   obtain rfl := Option.some.inj H
   go_enter Tryz.func3, Tryz.ntmps3
   go_wp2_with (first | ((with_reducible refine gate_dst (N := 1) rfl ?_); refine bE 1 #[.int .i64 a0_0, .int .i64 a0_1, .slice A0_2 l0_2.length c0_2, .slice A0_3 l0_3.length c0_3] 24 ?_; intro gb1082 hg w12 hbox hb; have BK1082 := Aside0.mk (hbox); have GE1082 := bG hg; replace HB := BS hb; clear hb hbox hg; have hcz13 := cz4 BK1082) | ((with_reducible refine gate_callee (f := 15) rfl ?_); refine goesL_ (some 9) rfl rfl Tryz.func15 KR rfl #[.agg #[.int .i64 a0_0, .int .i64 a0_1, .slice A0_2 l0_2.length c0_2, .slice A0_3 l0_3.length c0_3], .int .i64 1048576] rfl TA ?_; (with_reducible refine (laws_szDiff.calls k a0_0 a0_1 _ _ l0_2 _ _ l0_3 1048576 t1083 _ ?side1 ?side2 ?side3 ?side4 A2.out).mono ?_); (case side1 => exact CW ((Kd.C_below HR0_2.out HB.out))); (case side2 => exact HC0_2.out); (case side3 => exact CW ((Kd.C_below HR0_3.out HB.out))); (case side4 => exact HC0_3.out); rintro e w14 ⟨rfl, hb⟩; refine ⟨_, rfl, ?_⟩; replace BK1082 := KB BK1082 hb; replace HB := BS hb; (try clear hb); (try clear hb2); (try clear hk); (try clear hi); have hcz15 := cz4 BK1082) | ((with_reducible refine gate_callee (f := 17) rfl ?_); refine goesL_ (some 13) rfl rfl Tryz.func17 KR rfl #[.agg #[.int .i64 a0_0, .int .i64 a0_1, .slice A0_2 l0_2.length c0_2, .slice A0_3 l0_3.length c0_3]] rfl TA ?_; (with_reducible refine (laws_toDiff.calls k a0_0 a0_1 _ _ l0_2 _ _ l0_3 t1084 t1085 t1086 t1089 _ ?side1 ?side2 ?side3 ?side4 A7.out).mono ?_); (case side1 => exact CW ((Kd.C_below HR0_2.out HB.out))); (case side2 => exact HC0_2.out); (case side3 => exact CW ((Kd.C_below HR0_3.out HB.out))); (case side4 => exact HC0_3.out); rintro e w16 ⟨v1087, v1090, rfl, ho0, ho1, hb⟩; refine ⟨_, rfl, ?_⟩; have HO1088 := RL ho0; have HO1091 := RL ho1; replace BK1082 := KB BK1082 hb; replace HB := BS hb; (try clear hb); (try clear hb2); (try clear hk); (try clear hi); (try clear ho0); (try clear ho1); obtain ⟨Ao17, co17, eo17⟩ := Kd.R_slice HO1088.out; subst eo17; obtain ⟨Ao18, co18, eo18⟩ := Kd.R_slice HO1091.out; subst eo18) | ((with_reducible refine gate_callee (f := 16) rfl ?_); refine goesL_ (some 14) rfl rfl Tryz.func16 KR rfl #[.agg #[.int .i64 t1084, .int .i64 t1085, .slice Ao17 t1086.length co17, .slice Ao18 t1089.length co18]] rfl TA ?_; (with_reducible refine (spec_GoodDiff.calls k t1084 t1085 _ _ t1086 _ _ t1089 t1092 _ ?side1 ?side2 ?side3 ?side4 A8.out).mono ?_); (case side1 => exact CW ((Kd.R_reads' HO1088.out).2.2)); (case side2 => exact (Kd.R_reads' HO1088.out).2.1); (case side3 => exact CW ((Kd.R_reads' HO1091.out).2.2)); (case side4 => exact (Kd.R_reads' HO1091.out).2.1); rintro e w19 ⟨rfl, hb⟩; refine ⟨_, rfl, ?_⟩; replace HO1088 := RB HO1088 hb; replace HO1091 := RB HO1091 hb; replace BK1082 := KB BK1082 hb; replace HB := BS hb; (try clear hb); (try clear hb2); (try clear hk); (try clear hi); have hcz20 := cz4 BK1082) | ((with_reducible refine gate_callee (f := 17) rfl ?_); refine goesL_ (some 16) rfl rfl Tryz.func17 KR rfl #[.agg #[.int .i64 a0_0, .int .i64 a0_1, .slice A0_2 l0_2.length c0_2, .slice A0_3 l0_3.length c0_3]] rfl TA ?_; (with_reducible refine (laws_toDiff.calls k a0_0 a0_1 _ _ l0_2 _ _ l0_3 t1093 t1094 t1095 t1098 _ ?side1 ?side2 ?side3 ?side4 A9.out).mono ?_); (case side1 => exact CW ((Kd.C_below HR0_2.out HB.out))); (case side2 => exact HC0_2.out); (case side3 => exact CW ((Kd.C_below HR0_3.out HB.out))); (case side4 => exact HC0_3.out); rintro e w21 ⟨v1096, v1099, rfl, ho0, ho1, hb⟩; refine ⟨_, rfl, ?_⟩; have HO1097 := Aside0.mk (Kd.R_lower (Kd.R_new' (Kd.R_new' ho0 (Kd.R_lt (RW HO1088).out)) (Kd.R_lt (RW HO1091).out)) (below_size TB)); have HO1100 := Aside0.mk (Kd.R_lower (Kd.R_new' (Kd.R_new' ho1 (Kd.R_lt (RW HO1088).out)) (Kd.R_lt (RW HO1091).out)) (below_size TB)); replace HO1088 := Aside0.mk (Kd.R_mono (Kd.R_told (Kd.R_told (Kd.R_old (RW HO1088).out hb) (Kd.R_base ho0)) (Kd.R_base ho1)) (fun _ h_ => h_.1)); replace HO1091 := Aside0.mk (Kd.R_mono (Kd.R_told (Kd.R_told (Kd.R_old (RW HO1091).out hb) (Kd.R_base ho0)) (Kd.R_base ho1)) (fun _ h_ => h_.1)); replace BK1082 := KB BK1082 hb; replace HB := BS hb; (try clear hb); (try clear hb2); (try clear hk); (try clear hi); (try clear ho0); (try clear ho1)) | ((with_reducible refine gate_dst (N := 5) rfl ?_); refine bE 5 #[.int .i64 0, .int .i64 0, .slice none 0 0, .slice none 0 0] 29 ?_; intro gb1101 hg w22 hbox hb; replace HO1088 := RB HO1088 hb; replace HO1091 := RB HO1091 hb; replace HO1097 := RB HO1097 hb; replace HO1100 := RB HO1100 hb; have BK1101 := Aside0.mk (hbox); have GE1101 := bG hg; replace HB := BS hb; have NB1082_1101 := bN BK1082 hg; have NB1101_1082 := bM BK1082 hg; replace BK1082 := KB BK1082 hb; clear hb hbox hg; have hnb23 := NB1101_1082.out; have hnc23 := NB1082_1101.out; have hcz24 := cz4 BK1101; obtain ⟨Ao25, co25, eo25⟩ := Kd.R_slice HO1097.out; subst eo25; obtain ⟨Ao26, co26, eo26⟩ := Kd.R_slice HO1100.out; subst eo26) | ((with_reducible refine gate_callee (f := 18) rfl ?_); refine goesL_ (some 18) rfl rfl Tryz.func18 KR rfl #[.agg #[.int .i64 t1093, .int .i64 t1094, .slice Ao25 t1095.length co25, .slice Ao26 t1098.length co26]] rfl TA ?_; (with_reducible refine (impl_GoodDiff.calls k t1093 t1094 _ _ t1095 _ _ t1098 t1102 _ ?side1 ?side2 ?side3 ?side4 ?side5 A10.out).mono ?_); (case side1 => refine (Kd.R_reads' (e := 93) (base := w.heap.size) (ok := fun k_ => ((some k_ ≠ (.slice Ao26 t1098.length co26 : Value).ownBlock ∧ some k_ ≠ (.slice Ao17 t1086.length co17 : Value).ownBlock) ∧ some k_ ≠ (.slice Ao18 t1089.length co18 : Value).ownBlock)) (n := t1095.length) (c := co25) ?_).2.2; exact (by (with_reducible repeat (first | apply Kd.R_alloc | apply Kd.R_drewN | apply Kd.R_drew)); exact (Kd.R_mono (Kd.R_far (p := ⟨gb1101, 3, none⟩) (Kd.R_far (p := ⟨gb1101, 2, none⟩) (Kd.R_far (p := ⟨gb1101, 1, none⟩) (Kd.R_far (p := ⟨gb1101, 0, none⟩) (Kd.R_types HO1097.out BK1101.out (by decide)) (fun _ hk => hk.2) (.int .i64 t1093)) (fun _ hk => hk.2) (.int .i64 t1094)) (fun _ hk => hk.2) (.slice Ao25 t1095.length co25)) (fun _ hk => hk.2) (.slice Ao26 t1098.length co26)) (fun _ h_ => h_.1)))); (case side2 => exact (Kd.R_reads' HO1097.out).2.1); (case side3 => refine (Kd.R_reads' (e := 93) (base := w.heap.size) (ok := fun k_ => ((some k_ ≠ (.slice Ao25 t1095.length co25 : Value).ownBlock ∧ some k_ ≠ (.slice Ao17 t1086.length co17 : Value).ownBlock) ∧ some k_ ≠ (.slice Ao18 t1089.length co18 : Value).ownBlock)) (n := t1098.length) (c := co26) ?_).2.2; exact (by (with_reducible repeat (first | apply Kd.R_alloc | apply Kd.R_drewN | apply Kd.R_drew)); exact (Kd.R_mono (Kd.R_far (p := ⟨gb1101, 3, none⟩) (Kd.R_far (p := ⟨gb1101, 2, none⟩) (Kd.R_far (p := ⟨gb1101, 1, none⟩) (Kd.R_far (p := ⟨gb1101, 0, none⟩) (Kd.R_types HO1100.out BK1101.out (by decide)) (fun _ hk => hk.2) (.int .i64 t1093)) (fun _ hk => hk.2) (.int .i64 t1094)) (fun _ hk => hk.2) (.slice Ao25 t1095.length co25)) (fun _ hk => hk.2) (.slice Ao26 t1098.length co26)) (fun _ h_ => h_.1)))); (case side4 => exact (Kd.R_reads' HO1100.out).2.1); (case side5 => exact GW HGL); rintro e w27 ⟨rfl, hb⟩; refine ⟨_, rfl, ?_⟩; replace HO1088 := Aside0.mk (Kd.R_below (by (with_reducible repeat (first | apply Kd.R_alloc | apply Kd.R_drewN | apply Kd.R_drew)); exact (Kd.R_mono (Kd.R_far (p := ⟨gb1101, 3, none⟩) (Kd.R_far (p := ⟨gb1101, 2, none⟩) (Kd.R_far (p := ⟨gb1101, 1, none⟩) (Kd.R_far (p := ⟨gb1101, 0, none⟩) (Kd.R_types HO1088.out BK1101.out (by decide)) (fun _ hk => hk.2) (.int .i64 t1093)) (fun _ hk => hk.2) (.int .i64 t1094)) (fun _ hk => hk.2) (.slice Ao25 t1095.length co25)) (fun _ hk => hk.2) (.slice Ao26 t1098.length co26)) (fun _ h_ => h_.1))) hb); replace HO1091 := Aside0.mk (Kd.R_below (by (with_reducible repeat (first | apply Kd.R_alloc | apply Kd.R_drewN | apply Kd.R_drew)); exact (Kd.R_mono (Kd.R_far (p := ⟨gb1101, 3, none⟩) (Kd.R_far (p := ⟨gb1101, 2, none⟩) (Kd.R_far (p := ⟨gb1101, 1, none⟩) (Kd.R_far (p := ⟨gb1101, 0, none⟩) (Kd.R_types HO1091.out BK1101.out (by decide)) (fun _ hk => hk.2) (.int .i64 t1093)) (fun _ hk => hk.2) (.int .i64 t1094)) (fun _ hk => hk.2) (.slice Ao25 t1095.length co25)) (fun _ hk => hk.2) (.slice Ao26 t1098.length co26)) (fun _ h_ => h_.1))) hb); replace HO1097 := Aside0.mk (Kd.R_below (by (with_reducible repeat (first | apply Kd.R_alloc | apply Kd.R_drewN | apply Kd.R_drew)); exact (Kd.R_mono (Kd.R_far (p := ⟨gb1101, 3, none⟩) (Kd.R_far (p := ⟨gb1101, 2, none⟩) (Kd.R_far (p := ⟨gb1101, 1, none⟩) (Kd.R_far (p := ⟨gb1101, 0, none⟩) (Kd.R_types HO1097.out BK1101.out (by decide)) (fun _ hk => hk.2) (.int .i64 t1093)) (fun _ hk => hk.2) (.int .i64 t1094)) (fun _ hk => hk.2) (.slice Ao25 t1095.length co25)) (fun _ hk => hk.2) (.slice Ao26 t1098.length co26)) (fun _ h_ => h_.1))) hb); replace HO1100 := Aside0.mk (Kd.R_below (by (with_reducible repeat (first | apply Kd.R_alloc | apply Kd.R_drewN | apply Kd.R_drew)); exact (Kd.R_mono (Kd.R_far (p := ⟨gb1101, 3, none⟩) (Kd.R_far (p := ⟨gb1101, 2, none⟩) (Kd.R_far (p := ⟨gb1101, 1, none⟩) (Kd.R_far (p := ⟨gb1101, 0, none⟩) (Kd.R_types HO1100.out BK1101.out (by decide)) (fun _ hk => hk.2) (.int .i64 t1093)) (fun _ hk => hk.2) (.int .i64 t1094)) (fun _ hk => hk.2) (.slice Ao25 t1095.length co25)) (fun _ hk => hk.2) (.slice Ao26 t1098.length co26)) (fun _ h_ => h_.1))) hb); replace BK1082 := Aside0.mk (blk_below (g := gb1082) (o := .cells #[.int .i64 a0_0, .int .i64 a0_1, .slice A0_2 l0_2.length c0_2, .slice A0_3 l0_3.length c0_3] 24 (0, 0)) (by (with_reducible repeat (first | refine blk_drewN ?_ _ | refine blk_drew ?_ | refine blk_alloc ?_ _)); refine blk_far ?_ NB1082_1101.out _; (with_reducible repeat (first | refine blk_drewN ?_ _ | refine blk_drew ?_ | refine blk_alloc ?_ _)); refine blk_far ?_ NB1082_1101.out _; (with_reducible repeat (first | refine blk_drewN ?_ _ | refine blk_drew ?_ | refine blk_alloc ?_ _)); refine blk_far ?_ NB1082_1101.out _; (with_reducible repeat (first | refine blk_drewN ?_ _ | refine blk_drew ?_ | refine blk_alloc ?_ _)); refine blk_far ?_ NB1082_1101.out _; (with_reducible repeat (first | refine blk_drewN ?_ _ | refine blk_drew ?_ | refine blk_alloc ?_ _)); exact BK1082.out) hb); replace BK1101 := Aside0.mk (blk_below (g := gb1101) (o := .cells #[.int .i64 t1093, .int .i64 t1094, .slice Ao25 t1095.length co25, .slice Ao26 t1098.length co26] 29 (0, 0)) (by (with_reducible repeat (first | refine blk_drewN ?_ _ | refine blk_drew ?_ | refine blk_alloc ?_ _)); refine blk_put (cs := #[.int .i64 t1093, .int .i64 t1094, .slice Ao25 t1095.length co25, .slice none 0 0]) ?_ 3 _ rfl; (with_reducible repeat (first | refine blk_drewN ?_ _ | refine blk_drew ?_ | refine blk_alloc ?_ _)); refine blk_put (cs := #[.int .i64 t1093, .int .i64 t1094, .slice none 0 0, .slice none 0 0]) ?_ 2 _ rfl; (with_reducible repeat (first | refine blk_drewN ?_ _ | refine blk_drew ?_ | refine blk_alloc ?_ _)); refine blk_put (cs := #[.int .i64 t1093, .int .i64 0, .slice none 0 0, .slice none 0 0]) ?_ 1 _ rfl; (with_reducible repeat (first | refine blk_drewN ?_ _ | refine blk_drew ?_ | refine blk_alloc ?_ _)); refine blk_put (cs := #[.int .i64 0, .int .i64 0, .slice none 0 0, .slice none 0 0]) ?_ 0 _ rfl; (with_reducible repeat (first | refine blk_drewN ?_ _ | refine blk_drew ?_ | refine blk_alloc ?_ _)); exact BK1101.out) hb); replace HB := BS hb; (try clear hb); (try clear hb2); (try clear hk); (try clear hi)))
   go_ret
   exact ⟨TE, TB⟩
  ·rw [if_neg c11] at H
   have c11b0 : (t1102 != t1092) = false := by simpa using c11
   (try (have c11b1 : decide (t1102 = t1092) = true := by simpa using c11))
   (try (have c11b2 : (t1102 == t1092) = true := by simpa using c11))
   clear c11
   obtain ⟨⟨t1103, t1104, t1105, t1108⟩, A28, H⟩ := bnd H
   try dsimp only at H
   obtain ⟨t1111, A29, H⟩ := bnd H
   by_cases c30 : t1111 = true
   ·subst c30
    replace H := ift H
    obtain rfl := Option.some.inj H
    go_enter Tryz.func3, Tryz.ntmps3
    try go_wp2_with (first | ((with_reducible refine gate_dst (N := 1) rfl ?_); refine bE 1 #[.int .i64 a0_0, .int .i64 a0_1, .slice A0_2 l0_2.length c0_2, .slice A0_3 l0_3.length c0_3] 24 ?_; intro gb1082 hg w31 hbox hb; have BK1082 := Aside0.mk (hbox); have GE1082 := bG hg; replace HB := BS hb; clear hb hbox hg; have hcz32 := cz4 BK1082) | ((with_reducible refine gate_callee (f := 15) rfl ?_); refine goesL_ (some 9) rfl rfl Tryz.func15 KR rfl #[.agg #[.int .i64 a0_0, .int .i64 a0_1, .slice A0_2 l0_2.length c0_2, .slice A0_3 l0_3.length c0_3], .int .i64 1048576] rfl TA ?_; (with_reducible refine (laws_szDiff.calls k a0_0 a0_1 _ _ l0_2 _ _ l0_3 1048576 t1083 _ ?side1 ?side2 ?side3 ?side4 A2.out).mono ?_); (case side1 => exact CW ((Kd.C_below HR0_2.out HB.out))); (case side2 => exact HC0_2.out); (case side3 => exact CW ((Kd.C_below HR0_3.out HB.out))); (case side4 => exact HC0_3.out); rintro e w33 ⟨rfl, hb⟩; refine ⟨_, rfl, ?_⟩; replace BK1082 := KB BK1082 hb; replace HB := BS hb; (try clear hb); (try clear hb2); (try clear hk); (try clear hi); have hcz34 := cz4 BK1082) | ((with_reducible refine gate_callee (f := 17) rfl ?_); refine goesL_ (some 13) rfl rfl Tryz.func17 KR rfl #[.agg #[.int .i64 a0_0, .int .i64 a0_1, .slice A0_2 l0_2.length c0_2, .slice A0_3 l0_3.length c0_3]] rfl TA ?_; (with_reducible refine (laws_toDiff.calls k a0_0 a0_1 _ _ l0_2 _ _ l0_3 t1084 t1085 t1086 t1089 _ ?side1 ?side2 ?side3 ?side4 A7.out).mono ?_); (case side1 => exact CW ((Kd.C_below HR0_2.out HB.out))); (case side2 => exact HC0_2.out); (case side3 => exact CW ((Kd.C_below HR0_3.out HB.out))); (case side4 => exact HC0_3.out); rintro e w35 ⟨v1087, v1090, rfl, ho0, ho1, hb⟩; refine ⟨_, rfl, ?_⟩; have HO1088 := RL ho0; have HO1091 := RL ho1; replace BK1082 := KB BK1082 hb; replace HB := BS hb; (try clear hb); (try clear hb2); (try clear hk); (try clear hi); (try clear ho0); (try clear ho1); obtain ⟨Ao36, co36, eo36⟩ := Kd.R_slice HO1088.out; subst eo36; obtain ⟨Ao37, co37, eo37⟩ := Kd.R_slice HO1091.out; subst eo37) | ((with_reducible refine gate_callee (f := 16) rfl ?_); refine goesL_ (some 14) rfl rfl Tryz.func16 KR rfl #[.agg #[.int .i64 t1084, .int .i64 t1085, .slice Ao36 t1086.length co36, .slice Ao37 t1089.length co37]] rfl TA ?_; (with_reducible refine (spec_GoodDiff.calls k t1084 t1085 _ _ t1086 _ _ t1089 t1092 _ ?side1 ?side2 ?side3 ?side4 A8.out).mono ?_); (case side1 => exact CW ((Kd.R_reads' HO1088.out).2.2)); (case side2 => exact (Kd.R_reads' HO1088.out).2.1); (case side3 => exact CW ((Kd.R_reads' HO1091.out).2.2)); (case side4 => exact (Kd.R_reads' HO1091.out).2.1); rintro e w38 ⟨rfl, hb⟩; refine ⟨_, rfl, ?_⟩; replace HO1088 := RB HO1088 hb; replace HO1091 := RB HO1091 hb; replace BK1082 := KB BK1082 hb; replace HB := BS hb; (try clear hb); (try clear hb2); (try clear hk); (try clear hi); have hcz39 := cz4 BK1082) | ((with_reducible refine gate_callee (f := 17) rfl ?_); refine goesL_ (some 16) rfl rfl Tryz.func17 KR rfl #[.agg #[.int .i64 a0_0, .int .i64 a0_1, .slice A0_2 l0_2.length c0_2, .slice A0_3 l0_3.length c0_3]] rfl TA ?_; (with_reducible refine (laws_toDiff.calls k a0_0 a0_1 _ _ l0_2 _ _ l0_3 t1093 t1094 t1095 t1098 _ ?side1 ?side2 ?side3 ?side4 A9.out).mono ?_); (case side1 => exact CW ((Kd.C_below HR0_2.out HB.out))); (case side2 => exact HC0_2.out); (case side3 => exact CW ((Kd.C_below HR0_3.out HB.out))); (case side4 => exact HC0_3.out); rintro e w40 ⟨v1096, v1099, rfl, ho0, ho1, hb⟩; refine ⟨_, rfl, ?_⟩; have HO1097 := Aside0.mk (Kd.R_lower (Kd.R_new' (Kd.R_new' ho0 (Kd.R_lt (RW HO1088).out)) (Kd.R_lt (RW HO1091).out)) (below_size TB)); have HO1100 := Aside0.mk (Kd.R_lower (Kd.R_new' (Kd.R_new' ho1 (Kd.R_lt (RW HO1088).out)) (Kd.R_lt (RW HO1091).out)) (below_size TB)); replace HO1088 := Aside0.mk (Kd.R_mono (Kd.R_told (Kd.R_told (Kd.R_old (RW HO1088).out hb) (Kd.R_base ho0)) (Kd.R_base ho1)) (fun _ h_ => h_.1)); replace HO1091 := Aside0.mk (Kd.R_mono (Kd.R_told (Kd.R_told (Kd.R_old (RW HO1091).out hb) (Kd.R_base ho0)) (Kd.R_base ho1)) (fun _ h_ => h_.1)); replace BK1082 := KB BK1082 hb; replace HB := BS hb; (try clear hb); (try clear hb2); (try clear hk); (try clear hi); (try clear ho0); (try clear ho1)) | ((with_reducible refine gate_dst (N := 5) rfl ?_); refine bE 5 #[.int .i64 0, .int .i64 0, .slice none 0 0, .slice none 0 0] 29 ?_; intro gb1101 hg w41 hbox hb; replace HO1088 := RB HO1088 hb; replace HO1091 := RB HO1091 hb; replace HO1097 := RB HO1097 hb; replace HO1100 := RB HO1100 hb; have BK1101 := Aside0.mk (hbox); have GE1101 := bG hg; replace HB := BS hb; have NB1082_1101 := bN BK1082 hg; have NB1101_1082 := bM BK1082 hg; replace BK1082 := KB BK1082 hb; clear hb hbox hg; have hnb42 := NB1101_1082.out; have hnc42 := NB1082_1101.out; have hcz43 := cz4 BK1101; obtain ⟨Ao44, co44, eo44⟩ := Kd.R_slice HO1097.out; subst eo44; obtain ⟨Ao45, co45, eo45⟩ := Kd.R_slice HO1100.out; subst eo45) | ((with_reducible refine gate_callee (f := 18) rfl ?_); refine goesL_ (some 18) rfl rfl Tryz.func18 KR rfl #[.agg #[.int .i64 t1093, .int .i64 t1094, .slice Ao44 t1095.length co44, .slice Ao45 t1098.length co45]] rfl TA ?_; (with_reducible refine (impl_GoodDiff.calls k t1093 t1094 _ _ t1095 _ _ t1098 t1102 _ ?side1 ?side2 ?side3 ?side4 ?side5 A10.out).mono ?_); (case side1 => refine (Kd.R_reads' (e := 93) (base := w.heap.size) (ok := fun k_ => ((some k_ ≠ (.slice Ao45 t1098.length co45 : Value).ownBlock ∧ some k_ ≠ (.slice Ao36 t1086.length co36 : Value).ownBlock) ∧ some k_ ≠ (.slice Ao37 t1089.length co37 : Value).ownBlock)) (n := t1095.length) (c := co44) ?_).2.2; exact (by (with_reducible repeat (first | apply Kd.R_alloc | apply Kd.R_drewN | apply Kd.R_drew)); exact (Kd.R_mono (Kd.R_far (p := ⟨gb1101, 3, none⟩) (Kd.R_far (p := ⟨gb1101, 2, none⟩) (Kd.R_far (p := ⟨gb1101, 1, none⟩) (Kd.R_far (p := ⟨gb1101, 0, none⟩) (Kd.R_types HO1097.out BK1101.out (by decide)) (fun _ hk => hk.2) (.int .i64 t1093)) (fun _ hk => hk.2) (.int .i64 t1094)) (fun _ hk => hk.2) (.slice Ao44 t1095.length co44)) (fun _ hk => hk.2) (.slice Ao45 t1098.length co45)) (fun _ h_ => h_.1)))); (case side2 => exact (Kd.R_reads' HO1097.out).2.1); (case side3 => refine (Kd.R_reads' (e := 93) (base := w.heap.size) (ok := fun k_ => ((some k_ ≠ (.slice Ao44 t1095.length co44 : Value).ownBlock ∧ some k_ ≠ (.slice Ao36 t1086.length co36 : Value).ownBlock) ∧ some k_ ≠ (.slice Ao37 t1089.length co37 : Value).ownBlock)) (n := t1098.length) (c := co45) ?_).2.2; exact (by (with_reducible repeat (first | apply Kd.R_alloc | apply Kd.R_drewN | apply Kd.R_drew)); exact (Kd.R_mono (Kd.R_far (p := ⟨gb1101, 3, none⟩) (Kd.R_far (p := ⟨gb1101, 2, none⟩) (Kd.R_far (p := ⟨gb1101, 1, none⟩) (Kd.R_far (p := ⟨gb1101, 0, none⟩) (Kd.R_types HO1100.out BK1101.out (by decide)) (fun _ hk => hk.2) (.int .i64 t1093)) (fun _ hk => hk.2) (.int .i64 t1094)) (fun _ hk => hk.2) (.slice Ao44 t1095.length co44)) (fun _ hk => hk.2) (.slice Ao45 t1098.length co45)) (fun _ h_ => h_.1)))); (case side4 => exact (Kd.R_reads' HO1100.out).2.1); (case side5 => exact GW HGL); rintro e w46 ⟨rfl, hb⟩; refine ⟨_, rfl, ?_⟩; replace HO1088 := Aside0.mk (Kd.R_below (by (with_reducible repeat (first | apply Kd.R_alloc | apply Kd.R_drewN | apply Kd.R_drew)); exact (Kd.R_mono (Kd.R_far (p := ⟨gb1101, 3, none⟩) (Kd.R_far (p := ⟨gb1101, 2, none⟩) (Kd.R_far (p := ⟨gb1101, 1, none⟩) (Kd.R_far (p := ⟨gb1101, 0, none⟩) (Kd.R_types HO1088.out BK1101.out (by decide)) (fun _ hk => hk.2) (.int .i64 t1093)) (fun _ hk => hk.2) (.int .i64 t1094)) (fun _ hk => hk.2) (.slice Ao44 t1095.length co44)) (fun _ hk => hk.2) (.slice Ao45 t1098.length co45)) (fun _ h_ => h_.1))) hb); replace HO1091 := Aside0.mk (Kd.R_below (by (with_reducible repeat (first | apply Kd.R_alloc | apply Kd.R_drewN | apply Kd.R_drew)); exact (Kd.R_mono (Kd.R_far (p := ⟨gb1101, 3, none⟩) (Kd.R_far (p := ⟨gb1101, 2, none⟩) (Kd.R_far (p := ⟨gb1101, 1, none⟩) (Kd.R_far (p := ⟨gb1101, 0, none⟩) (Kd.R_types HO1091.out BK1101.out (by decide)) (fun _ hk => hk.2) (.int .i64 t1093)) (fun _ hk => hk.2) (.int .i64 t1094)) (fun _ hk => hk.2) (.slice Ao44 t1095.length co44)) (fun _ hk => hk.2) (.slice Ao45 t1098.length co45)) (fun _ h_ => h_.1))) hb); replace HO1097 := Aside0.mk (Kd.R_below (by (with_reducible repeat (first | apply Kd.R_alloc | apply Kd.R_drewN | apply Kd.R_drew)); exact (Kd.R_mono (Kd.R_far (p := ⟨gb1101, 3, none⟩) (Kd.R_far (p := ⟨gb1101, 2, none⟩) (Kd.R_far (p := ⟨gb1101, 1, none⟩) (Kd.R_far (p := ⟨gb1101, 0, none⟩) (Kd.R_types HO1097.out BK1101.out (by decide)) (fun _ hk => hk.2) (.int .i64 t1093)) (fun _ hk => hk.2) (.int .i64 t1094)) (fun _ hk => hk.2) (.slice Ao44 t1095.length co44)) (fun _ hk => hk.2) (.slice Ao45 t1098.length co45)) (fun _ h_ => h_.1))) hb); replace HO1100 := Aside0.mk (Kd.R_below (by (with_reducible repeat (first | apply Kd.R_alloc | apply Kd.R_drewN | apply Kd.R_drew)); exact (Kd.R_mono (Kd.R_far (p := ⟨gb1101, 3, none⟩) (Kd.R_far (p := ⟨gb1101, 2, none⟩) (Kd.R_far (p := ⟨gb1101, 1, none⟩) (Kd.R_far (p := ⟨gb1101, 0, none⟩) (Kd.R_types HO1100.out BK1101.out (by decide)) (fun _ hk => hk.2) (.int .i64 t1093)) (fun _ hk => hk.2) (.int .i64 t1094)) (fun _ hk => hk.2) (.slice Ao44 t1095.length co44)) (fun _ hk => hk.2) (.slice Ao45 t1098.length co45)) (fun _ h_ => h_.1))) hb); replace BK1082 := Aside0.mk (blk_below (g := gb1082) (o := .cells #[.int .i64 a0_0, .int .i64 a0_1, .slice A0_2 l0_2.length c0_2, .slice A0_3 l0_3.length c0_3] 24 (0, 0)) (by (with_reducible repeat (first | refine blk_drewN ?_ _ | refine blk_drew ?_ | refine blk_alloc ?_ _)); refine blk_far ?_ NB1082_1101.out _; (with_reducible repeat (first | refine blk_drewN ?_ _ | refine blk_drew ?_ | refine blk_alloc ?_ _)); refine blk_far ?_ NB1082_1101.out _; (with_reducible repeat (first | refine blk_drewN ?_ _ | refine blk_drew ?_ | refine blk_alloc ?_ _)); refine blk_far ?_ NB1082_1101.out _; (with_reducible repeat (first | refine blk_drewN ?_ _ | refine blk_drew ?_ | refine blk_alloc ?_ _)); refine blk_far ?_ NB1082_1101.out _; (with_reducible repeat (first | refine blk_drewN ?_ _ | refine blk_drew ?_ | refine blk_alloc ?_ _)); exact BK1082.out) hb); replace BK1101 := Aside0.mk (blk_below (g := gb1101) (o := .cells #[.int .i64 t1093, .int .i64 t1094, .slice Ao44 t1095.length co44, .slice Ao45 t1098.length co45] 29 (0, 0)) (by (with_reducible repeat (first | refine blk_drewN ?_ _ | refine blk_drew ?_ | refine blk_alloc ?_ _)); refine blk_put (cs := #[.int .i64 t1093, .int .i64 t1094, .slice Ao44 t1095.length co44, .slice none 0 0]) ?_ 3 _ rfl; (with_reducible repeat (first | refine blk_drewN ?_ _ | refine blk_drew ?_ | refine blk_alloc ?_ _)); refine blk_put (cs := #[.int .i64 t1093, .int .i64 t1094, .slice none 0 0, .slice none 0 0]) ?_ 2 _ rfl; (with_reducible repeat (first | refine blk_drewN ?_ _ | refine blk_drew ?_ | refine blk_alloc ?_ _)); refine blk_put (cs := #[.int .i64 t1093, .int .i64 0, .slice none 0 0, .slice none 0 0]) ?_ 1 _ rfl; (with_reducible repeat (first | refine blk_drewN ?_ _ | refine blk_drew ?_ | refine blk_alloc ?_ _)); refine blk_put (cs := #[.int .i64 0, .int .i64 0, .slice none 0 0, .slice none 0 0]) ?_ 0 _ rfl; (with_reducible repeat (first | refine blk_drewN ?_ _ | refine blk_drew ?_ | refine blk_alloc ?_ _)); exact BK1101.out) hb); replace HB := BS hb; (try clear hb); (try clear hb2); (try clear hk); (try clear hi)))
    replace HO1088 := Aside0.mk (Kd.R_drew HO1088.out)
    replace HO1091 := Aside0.mk (Kd.R_drew HO1091.out)
    replace HO1097 := Aside0.mk (Kd.R_drew HO1097.out)
    replace HO1100 := Aside0.mk (Kd.R_drew HO1100.out)
    replace BK1082 := Aside0.mk (blk_drew BK1082.out)
    replace BK1101 := Aside0.mk (blk_drew BK1101.out)
    replace HB := Aside0.mk (below_drew1 HB.out)
    refine start_ (n := 5) (S := fun w' => w'.cell? ⟨gb1101, 0, none⟩ = some (.int .i64 t1093) ∧ w'.cell? ⟨gb1101, 1, none⟩ = some (.int .i64 t1094) ∧ w'.cell? ⟨gb1101, 2, none⟩ = some (.slice Ao44 t1095.length co44) ∧ w'.cell? ⟨gb1101, 3, none⟩ = some (.slice Ao45 t1098.length co45) ∧ w'.cell? ⟨gb1082, 0, none⟩ = some (.int .i64 a0_0) ∧ w'.cell? ⟨gb1082, 1, none⟩ = some (.int .i64 a0_1) ∧ w'.cell? ⟨gb1082, 2, none⟩ = some (.slice A0_2 l0_2.length c0_2) ∧ w'.cell? ⟨gb1082, 3, none⟩ = some (.slice A0_3 l0_3.length c0_3)) (ds := []) #[false, false, false, false, false] KR rfl rfl ⟨bc 0 BK1101, bc 1 BK1101, bc 2 BK1101, bc 3 BK1101, bc 0 BK1082, bc 1 BK1082, bc 2 BK1082, bc 3 BK1082⟩ (fun hHeld => ?_)
    generalize w46.drew = w47 at HO1088 HO1091 HO1097 HO1100 BK1082 BK1101 HB hHeld ⊢
    refine take_ (i := 0) (N := some 22) (v := ?_) (a' := ?_) #[true, false, false, false, false] rfl rfl KR (fun _ _ _ h => h) (Or.inl ⟨by rfl, ?_⟩) hHeld ?_ ?_
    rotate_left
    ·rintro w' ⟨s0, s1, s2, s3, s4, s5, s6, s7⟩
     go_simp
     with_reducible rfl
    rotate_left
    ·simp only [Act.put, List.setIfInBounds_toArray, List.set_cons_zero, List.set_cons_succ, i64_w, i32_w]
     rfl
    refine take_ (i := 1) (N := some 23) (v := ?_) (a' := ?_) #[true, true, false, false, false] rfl rfl KR (fun _ _ _ h => h) (Or.inl ⟨by rfl, ?_⟩) hHeld ?_ ?_
    rotate_left
    ·rintro w' ⟨s0, s1, s2, s3, s4, s5, s6, s7⟩
     go_simp
     with_reducible rfl
    rotate_left
    ·simp only [Act.put, List.setIfInBounds_toArray, List.set_cons_zero, List.set_cons_succ, i64_w, i32_w]
     rfl
    refine one_ (i := 2) (N := some 24) (mL 5 7) rfl rfl KR (by decide) (fun K hK => ?_)
    refine goes_ Tryz.func17 KR rfl #[.agg #[.int .i64 a0_0, .int .i64 a0_1, .slice A0_2 l0_2.length c0_2, .slice A0_3 l0_3.length c0_3]] (by rfl) rfl rfl TA ?_
    with_reducible refine (laws_toDiff.calls k a0_0 a0_1 _ _ l0_2 _ _ l0_3 t1103 t1104 t1105 t1108 _ ?side1 ?side2 ?side3 ?side4 A28.out).mono ?_
    (case side1 => exact CW ((Kd.C_below HR0_2.out HB.out)))
    (case side2 => exact HC0_2.out)
    (case side3 => exact CW ((Kd.C_below HR0_3.out HB.out)))
    (case side4 => exact HC0_3.out)
    rintro e w48 ⟨v1106, v1109, rfl, ho0, ho1, hb⟩
    refine ⟨_, rfl, ?_⟩
    have HO1107 := Aside0.mk (Kd.R_lower (Kd.R_new' (Kd.R_new' (Kd.R_new' (Kd.R_new' ho0 (Kd.R_lt (RW HO1088).out)) (Kd.R_lt (RW HO1091).out)) (Kd.R_lt (RW HO1097).out)) (Kd.R_lt (RW HO1100).out)) (below_size TB))
    have HO1110 := Aside0.mk (Kd.R_lower (Kd.R_new' (Kd.R_new' (Kd.R_new' (Kd.R_new' ho1 (Kd.R_lt (RW HO1088).out)) (Kd.R_lt (RW HO1091).out)) (Kd.R_lt (RW HO1097).out)) (Kd.R_lt (RW HO1100).out)) (below_size TB))
    replace HO1088 := Aside0.mk (Kd.R_mono (Kd.R_told (Kd.R_told (Kd.R_old (RW HO1088).out hb) (Kd.R_base ho0)) (Kd.R_base ho1)) (fun _ h_ => h_.1))
    replace HO1091 := Aside0.mk (Kd.R_mono (Kd.R_told (Kd.R_told (Kd.R_old (RW HO1091).out hb) (Kd.R_base ho0)) (Kd.R_base ho1)) (fun _ h_ => h_.1))
    replace HO1097 := Aside0.mk (Kd.R_mono (Kd.R_told (Kd.R_told (Kd.R_old (RW HO1097).out hb) (Kd.R_base ho0)) (Kd.R_base ho1)) (fun _ h_ => h_.1))
    replace HO1100 := Aside0.mk (Kd.R_mono (Kd.R_told (Kd.R_told (Kd.R_old (RW HO1100).out hb) (Kd.R_base ho0)) (Kd.R_base ho1)) (fun _ h_ => h_.1))
    replace BK1082 := KB BK1082 hb
    replace BK1101 := KB BK1101 hb
    replace HB := BS hb
    (try clear hb)
    (try clear hb2)
    (try clear hk)
    (try clear hi)
    (try clear ho0)
    (try clear ho1)
    obtain ⟨Ao49, co49, eo49⟩ := Kd.R_slice HO1107.out
    (first | subst eo49 | (injection eo49 with f1_ f2_ f3_; have f4_ := f1_.symm; have f5_ := f3_.symm; clear f1_ f2_ f3_; subst f4_; subst f5_))
    obtain ⟨Ao50, co50, eo50⟩ := Kd.R_slice HO1110.out
    (first | subst eo50 | (injection eo50 with f1_ f2_ f3_; have f4_ := f1_.symm; have f5_ := f3_.symm; clear f1_ f2_ f3_; subst f4_; subst f5_))
    refine hK.out _ _ ⟨bc 0 BK1101, bc 1 BK1101, bc 2 BK1101, bc 3 BK1101, bc 0 BK1082, bc 1 BK1082, bc 2 BK1082, bc 3 BK1082⟩ (fun hHeld => ?_)
    clear hK K
    refine nA ?_
    refine one_ (i := 3) (N := some 25) (mL 5 15) rfl rfl KR (by decide) (fun K hK => ?_)
    refine goes_ Tryz.func19 KR rfl #[.agg #[.int .i64 t1093, .int .i64 t1094, .slice Ao44 t1095.length co44, .slice Ao45 t1098.length co45], .agg #[.int .i64 t1103, .int .i64 t1104, .slice Ao49 t1105.length co49, .slice Ao50 t1108.length co50]] (by rfl) rfl rfl TA ?_
    with_reducible refine (laws_eqDiff.calls k t1093 t1094 _ _ t1095 _ _ t1098 t1103 t1104 _ _ t1105 _ _ t1108 true _ ?side1 ?side2 ?side3 ?side4 ?side5 ?side6 ?side7 ?side8 A29.out).mono ?_
    (case side1 => exact CW ((Kd.R_reads' HO1097.out).2.2))
    (case side2 => exact (Kd.R_reads' HO1097.out).2.1)
    (case side3 => exact CW ((Kd.R_reads' HO1100.out).2.2))
    (case side4 => exact (Kd.R_reads' HO1100.out).2.1)
    (case side5 => exact CW ((Kd.R_reads' HO1107.out).2.2))
    (case side6 => exact (Kd.R_reads' HO1107.out).2.1)
    (case side7 => exact CW ((Kd.R_reads' HO1110.out).2.2))
    (case side8 => exact (Kd.R_reads' HO1110.out).2.1)
    rintro e w51 ⟨rfl, hb⟩
    refine ⟨_, rfl, ?_⟩
    replace HO1088 := RB HO1088 hb
    replace HO1091 := RB HO1091 hb
    replace HO1097 := RB HO1097 hb
    replace HO1100 := RB HO1100 hb
    replace HO1107 := RB HO1107 hb
    replace HO1110 := RB HO1110 hb
    replace BK1082 := KB BK1082 hb
    replace BK1101 := KB BK1101 hb
    replace HB := BS hb
    (try clear hb)
    (try clear hb2)
    (try clear hk)
    (try clear hi)
    refine hK.out _ _ ⟨bc 0 BK1101, bc 1 BK1101, bc 2 BK1101, bc 3 BK1101, bc 0 BK1082, bc 1 BK1082, bc 2 BK1082, bc 3 BK1082⟩ (fun hHeld => ?_)
    clear hK K
    refine nA ?_
    refine pure_ (i := 4) (N := some 26) (v := ?_) (a' := ?_) #[true, true, true, true, true] rfl rfl KR (fun _ _ _ h => h) (Or.inl ⟨by rfl, ?_⟩) ?_ ?_
    rotate_left
    ·intro w'
     go_simp
     with_reducible rfl
    rotate_left
    ·simp only [Act.put, List.setIfInBounds_toArray, List.set_cons_zero, List.set_cons_succ, i64_w, i32_w]
     rfl
    refine done_ KR ?_
    try go_wp2
    go_ret
    exact ⟨TE, TB⟩
   ·replace c30 := Bool.eq_false_iff.mpr c30
    subst c30
    replace H := iff' H
    obtain rfl := Option.some.inj H
    go_enter Tryz.func3, Tryz.ntmps3
    try go_wp2_with (first | ((with_reducible refine gate_dst (N := 1) rfl ?_); refine bE 1 #[.int .i64 a0_0, .int .i64 a0_1, .slice A0_2 l0_2.length c0_2, .slice A0_3 l0_3.length c0_3] 24 ?_; intro gb1082 hg w52 hbox hb; have BK1082 := Aside0.mk (hbox); have GE1082 := bG hg; replace HB := BS hb; clear hb hbox hg; have hcz53 := cz4 BK1082) | ((with_reducible refine gate_callee (f := 15) rfl ?_); refine goesL_ (some 9) rfl rfl Tryz.func15 KR rfl #[.agg #[.int .i64 a0_0, .int .i64 a0_1, .slice A0_2 l0_2.length c0_2, .slice A0_3 l0_3.length c0_3], .int .i64 1048576] rfl TA ?_; (with_reducible refine (laws_szDiff.calls k a0_0 a0_1 _ _ l0_2 _ _ l0_3 1048576 t1083 _ ?side1 ?side2 ?side3 ?side4 A2.out).mono ?_); (case side1 => exact CW ((Kd.C_below HR0_2.out HB.out))); (case side2 => exact HC0_2.out); (case side3 => exact CW ((Kd.C_below HR0_3.out HB.out))); (case side4 => exact HC0_3.out); rintro e w54 ⟨rfl, hb⟩; refine ⟨_, rfl, ?_⟩; replace BK1082 := KB BK1082 hb; replace HB := BS hb; (try clear hb); (try clear hb2); (try clear hk); (try clear hi); have hcz55 := cz4 BK1082) | ((with_reducible refine gate_callee (f := 17) rfl ?_); refine goesL_ (some 13) rfl rfl Tryz.func17 KR rfl #[.agg #[.int .i64 a0_0, .int .i64 a0_1, .slice A0_2 l0_2.length c0_2, .slice A0_3 l0_3.length c0_3]] rfl TA ?_; (with_reducible refine (laws_toDiff.calls k a0_0 a0_1 _ _ l0_2 _ _ l0_3 t1084 t1085 t1086 t1089 _ ?side1 ?side2 ?side3 ?side4 A7.out).mono ?_); (case side1 => exact CW ((Kd.C_below HR0_2.out HB.out))); (case side2 => exact HC0_2.out); (case side3 => exact CW ((Kd.C_below HR0_3.out HB.out))); (case side4 => exact HC0_3.out); rintro e w56 ⟨v1087, v1090, rfl, ho0, ho1, hb⟩; refine ⟨_, rfl, ?_⟩; have HO1088 := RL ho0; have HO1091 := RL ho1; replace BK1082 := KB BK1082 hb; replace HB := BS hb; (try clear hb); (try clear hb2); (try clear hk); (try clear hi); (try clear ho0); (try clear ho1); obtain ⟨Ao57, co57, eo57⟩ := Kd.R_slice HO1088.out; subst eo57; obtain ⟨Ao58, co58, eo58⟩ := Kd.R_slice HO1091.out; subst eo58) | ((with_reducible refine gate_callee (f := 16) rfl ?_); refine goesL_ (some 14) rfl rfl Tryz.func16 KR rfl #[.agg #[.int .i64 t1084, .int .i64 t1085, .slice Ao57 t1086.length co57, .slice Ao58 t1089.length co58]] rfl TA ?_; (with_reducible refine (spec_GoodDiff.calls k t1084 t1085 _ _ t1086 _ _ t1089 t1092 _ ?side1 ?side2 ?side3 ?side4 A8.out).mono ?_); (case side1 => exact CW ((Kd.R_reads' HO1088.out).2.2)); (case side2 => exact (Kd.R_reads' HO1088.out).2.1); (case side3 => exact CW ((Kd.R_reads' HO1091.out).2.2)); (case side4 => exact (Kd.R_reads' HO1091.out).2.1); rintro e w59 ⟨rfl, hb⟩; refine ⟨_, rfl, ?_⟩; replace HO1088 := RB HO1088 hb; replace HO1091 := RB HO1091 hb; replace BK1082 := KB BK1082 hb; replace HB := BS hb; (try clear hb); (try clear hb2); (try clear hk); (try clear hi); have hcz60 := cz4 BK1082) | ((with_reducible refine gate_callee (f := 17) rfl ?_); refine goesL_ (some 16) rfl rfl Tryz.func17 KR rfl #[.agg #[.int .i64 a0_0, .int .i64 a0_1, .slice A0_2 l0_2.length c0_2, .slice A0_3 l0_3.length c0_3]] rfl TA ?_; (with_reducible refine (laws_toDiff.calls k a0_0 a0_1 _ _ l0_2 _ _ l0_3 t1093 t1094 t1095 t1098 _ ?side1 ?side2 ?side3 ?side4 A9.out).mono ?_); (case side1 => exact CW ((Kd.C_below HR0_2.out HB.out))); (case side2 => exact HC0_2.out); (case side3 => exact CW ((Kd.C_below HR0_3.out HB.out))); (case side4 => exact HC0_3.out); rintro e w61 ⟨v1096, v1099, rfl, ho0, ho1, hb⟩; refine ⟨_, rfl, ?_⟩; have HO1097 := Aside0.mk (Kd.R_lower (Kd.R_new' (Kd.R_new' ho0 (Kd.R_lt (RW HO1088).out)) (Kd.R_lt (RW HO1091).out)) (below_size TB)); have HO1100 := Aside0.mk (Kd.R_lower (Kd.R_new' (Kd.R_new' ho1 (Kd.R_lt (RW HO1088).out)) (Kd.R_lt (RW HO1091).out)) (below_size TB)); replace HO1088 := Aside0.mk (Kd.R_mono (Kd.R_told (Kd.R_told (Kd.R_old (RW HO1088).out hb) (Kd.R_base ho0)) (Kd.R_base ho1)) (fun _ h_ => h_.1)); replace HO1091 := Aside0.mk (Kd.R_mono (Kd.R_told (Kd.R_told (Kd.R_old (RW HO1091).out hb) (Kd.R_base ho0)) (Kd.R_base ho1)) (fun _ h_ => h_.1)); replace BK1082 := KB BK1082 hb; replace HB := BS hb; (try clear hb); (try clear hb2); (try clear hk); (try clear hi); (try clear ho0); (try clear ho1)) | ((with_reducible refine gate_dst (N := 5) rfl ?_); refine bE 5 #[.int .i64 0, .int .i64 0, .slice none 0 0, .slice none 0 0] 29 ?_; intro gb1101 hg w62 hbox hb; replace HO1088 := RB HO1088 hb; replace HO1091 := RB HO1091 hb; replace HO1097 := RB HO1097 hb; replace HO1100 := RB HO1100 hb; have BK1101 := Aside0.mk (hbox); have GE1101 := bG hg; replace HB := BS hb; have NB1082_1101 := bN BK1082 hg; have NB1101_1082 := bM BK1082 hg; replace BK1082 := KB BK1082 hb; clear hb hbox hg; have hnb63 := NB1101_1082.out; have hnc63 := NB1082_1101.out; have hcz64 := cz4 BK1101; obtain ⟨Ao65, co65, eo65⟩ := Kd.R_slice HO1097.out; subst eo65; obtain ⟨Ao66, co66, eo66⟩ := Kd.R_slice HO1100.out; subst eo66) | ((with_reducible refine gate_callee (f := 18) rfl ?_); refine goesL_ (some 18) rfl rfl Tryz.func18 KR rfl #[.agg #[.int .i64 t1093, .int .i64 t1094, .slice Ao65 t1095.length co65, .slice Ao66 t1098.length co66]] rfl TA ?_; (with_reducible refine (impl_GoodDiff.calls k t1093 t1094 _ _ t1095 _ _ t1098 t1102 _ ?side1 ?side2 ?side3 ?side4 ?side5 A10.out).mono ?_); (case side1 => refine (Kd.R_reads' (e := 93) (base := w.heap.size) (ok := fun k_ => ((some k_ ≠ (.slice Ao66 t1098.length co66 : Value).ownBlock ∧ some k_ ≠ (.slice Ao57 t1086.length co57 : Value).ownBlock) ∧ some k_ ≠ (.slice Ao58 t1089.length co58 : Value).ownBlock)) (n := t1095.length) (c := co65) ?_).2.2; exact (by (with_reducible repeat (first | apply Kd.R_alloc | apply Kd.R_drewN | apply Kd.R_drew)); exact (Kd.R_mono (Kd.R_far (p := ⟨gb1101, 3, none⟩) (Kd.R_far (p := ⟨gb1101, 2, none⟩) (Kd.R_far (p := ⟨gb1101, 1, none⟩) (Kd.R_far (p := ⟨gb1101, 0, none⟩) (Kd.R_types HO1097.out BK1101.out (by decide)) (fun _ hk => hk.2) (.int .i64 t1093)) (fun _ hk => hk.2) (.int .i64 t1094)) (fun _ hk => hk.2) (.slice Ao65 t1095.length co65)) (fun _ hk => hk.2) (.slice Ao66 t1098.length co66)) (fun _ h_ => h_.1)))); (case side2 => exact (Kd.R_reads' HO1097.out).2.1); (case side3 => refine (Kd.R_reads' (e := 93) (base := w.heap.size) (ok := fun k_ => ((some k_ ≠ (.slice Ao65 t1095.length co65 : Value).ownBlock ∧ some k_ ≠ (.slice Ao57 t1086.length co57 : Value).ownBlock) ∧ some k_ ≠ (.slice Ao58 t1089.length co58 : Value).ownBlock)) (n := t1098.length) (c := co66) ?_).2.2; exact (by (with_reducible repeat (first | apply Kd.R_alloc | apply Kd.R_drewN | apply Kd.R_drew)); exact (Kd.R_mono (Kd.R_far (p := ⟨gb1101, 3, none⟩) (Kd.R_far (p := ⟨gb1101, 2, none⟩) (Kd.R_far (p := ⟨gb1101, 1, none⟩) (Kd.R_far (p := ⟨gb1101, 0, none⟩) (Kd.R_types HO1100.out BK1101.out (by decide)) (fun _ hk => hk.2) (.int .i64 t1093)) (fun _ hk => hk.2) (.int .i64 t1094)) (fun _ hk => hk.2) (.slice Ao65 t1095.length co65)) (fun _ hk => hk.2) (.slice Ao66 t1098.length co66)) (fun _ h_ => h_.1)))); (case side4 => exact (Kd.R_reads' HO1100.out).2.1); (case side5 => exact GW HGL); rintro e w67 ⟨rfl, hb⟩; refine ⟨_, rfl, ?_⟩; replace HO1088 := Aside0.mk (Kd.R_below (by (with_reducible repeat (first | apply Kd.R_alloc | apply Kd.R_drewN | apply Kd.R_drew)); exact (Kd.R_mono (Kd.R_far (p := ⟨gb1101, 3, none⟩) (Kd.R_far (p := ⟨gb1101, 2, none⟩) (Kd.R_far (p := ⟨gb1101, 1, none⟩) (Kd.R_far (p := ⟨gb1101, 0, none⟩) (Kd.R_types HO1088.out BK1101.out (by decide)) (fun _ hk => hk.2) (.int .i64 t1093)) (fun _ hk => hk.2) (.int .i64 t1094)) (fun _ hk => hk.2) (.slice Ao65 t1095.length co65)) (fun _ hk => hk.2) (.slice Ao66 t1098.length co66)) (fun _ h_ => h_.1))) hb); replace HO1091 := Aside0.mk (Kd.R_below (by (with_reducible repeat (first | apply Kd.R_alloc | apply Kd.R_drewN | apply Kd.R_drew)); exact (Kd.R_mono (Kd.R_far (p := ⟨gb1101, 3, none⟩) (Kd.R_far (p := ⟨gb1101, 2, none⟩) (Kd.R_far (p := ⟨gb1101, 1, none⟩) (Kd.R_far (p := ⟨gb1101, 0, none⟩) (Kd.R_types HO1091.out BK1101.out (by decide)) (fun _ hk => hk.2) (.int .i64 t1093)) (fun _ hk => hk.2) (.int .i64 t1094)) (fun _ hk => hk.2) (.slice Ao65 t1095.length co65)) (fun _ hk => hk.2) (.slice Ao66 t1098.length co66)) (fun _ h_ => h_.1))) hb); replace HO1097 := Aside0.mk (Kd.R_below (by (with_reducible repeat (first | apply Kd.R_alloc | apply Kd.R_drewN | apply Kd.R_drew)); exact (Kd.R_mono (Kd.R_far (p := ⟨gb1101, 3, none⟩) (Kd.R_far (p := ⟨gb1101, 2, none⟩) (Kd.R_far (p := ⟨gb1101, 1, none⟩) (Kd.R_far (p := ⟨gb1101, 0, none⟩) (Kd.R_types HO1097.out BK1101.out (by decide)) (fun _ hk => hk.2) (.int .i64 t1093)) (fun _ hk => hk.2) (.int .i64 t1094)) (fun _ hk => hk.2) (.slice Ao65 t1095.length co65)) (fun _ hk => hk.2) (.slice Ao66 t1098.length co66)) (fun _ h_ => h_.1))) hb); replace HO1100 := Aside0.mk (Kd.R_below (by (with_reducible repeat (first | apply Kd.R_alloc | apply Kd.R_drewN | apply Kd.R_drew)); exact (Kd.R_mono (Kd.R_far (p := ⟨gb1101, 3, none⟩) (Kd.R_far (p := ⟨gb1101, 2, none⟩) (Kd.R_far (p := ⟨gb1101, 1, none⟩) (Kd.R_far (p := ⟨gb1101, 0, none⟩) (Kd.R_types HO1100.out BK1101.out (by decide)) (fun _ hk => hk.2) (.int .i64 t1093)) (fun _ hk => hk.2) (.int .i64 t1094)) (fun _ hk => hk.2) (.slice Ao65 t1095.length co65)) (fun _ hk => hk.2) (.slice Ao66 t1098.length co66)) (fun _ h_ => h_.1))) hb); replace BK1082 := Aside0.mk (blk_below (g := gb1082) (o := .cells #[.int .i64 a0_0, .int .i64 a0_1, .slice A0_2 l0_2.length c0_2, .slice A0_3 l0_3.length c0_3] 24 (0, 0)) (by (with_reducible repeat (first | refine blk_drewN ?_ _ | refine blk_drew ?_ | refine blk_alloc ?_ _)); refine blk_far ?_ NB1082_1101.out _; (with_reducible repeat (first | refine blk_drewN ?_ _ | refine blk_drew ?_ | refine blk_alloc ?_ _)); refine blk_far ?_ NB1082_1101.out _; (with_reducible repeat (first | refine blk_drewN ?_ _ | refine blk_drew ?_ | refine blk_alloc ?_ _)); refine blk_far ?_ NB1082_1101.out _; (with_reducible repeat (first | refine blk_drewN ?_ _ | refine blk_drew ?_ | refine blk_alloc ?_ _)); refine blk_far ?_ NB1082_1101.out _; (with_reducible repeat (first | refine blk_drewN ?_ _ | refine blk_drew ?_ | refine blk_alloc ?_ _)); exact BK1082.out) hb); replace BK1101 := Aside0.mk (blk_below (g := gb1101) (o := .cells #[.int .i64 t1093, .int .i64 t1094, .slice Ao65 t1095.length co65, .slice Ao66 t1098.length co66] 29 (0, 0)) (by (with_reducible repeat (first | refine blk_drewN ?_ _ | refine blk_drew ?_ | refine blk_alloc ?_ _)); refine blk_put (cs := #[.int .i64 t1093, .int .i64 t1094, .slice Ao65 t1095.length co65, .slice none 0 0]) ?_ 3 _ rfl; (with_reducible repeat (first | refine blk_drewN ?_ _ | refine blk_drew ?_ | refine blk_alloc ?_ _)); refine blk_put (cs := #[.int .i64 t1093, .int .i64 t1094, .slice none 0 0, .slice none 0 0]) ?_ 2 _ rfl; (with_reducible repeat (first | refine blk_drewN ?_ _ | refine blk_drew ?_ | refine blk_alloc ?_ _)); refine blk_put (cs := #[.int .i64 t1093, .int .i64 0, .slice none 0 0, .slice none 0 0]) ?_ 1 _ rfl; (with_reducible repeat (first | refine blk_drewN ?_ _ | refine blk_drew ?_ | refine blk_alloc ?_ _)); refine blk_put (cs := #[.int .i64 0, .int .i64 0, .slice none 0 0, .slice none 0 0]) ?_ 0 _ rfl; (with_reducible repeat (first | refine blk_drewN ?_ _ | refine blk_drew ?_ | refine blk_alloc ?_ _)); exact BK1101.out) hb); replace HB := BS hb; (try clear hb); (try clear hb2); (try clear hk); (try clear hi)))
    replace HO1088 := Aside0.mk (Kd.R_drew HO1088.out)
    replace HO1091 := Aside0.mk (Kd.R_drew HO1091.out)
    replace HO1097 := Aside0.mk (Kd.R_drew HO1097.out)
    replace HO1100 := Aside0.mk (Kd.R_drew HO1100.out)
    replace BK1082 := Aside0.mk (blk_drew BK1082.out)
    replace BK1101 := Aside0.mk (blk_drew BK1101.out)
    replace HB := Aside0.mk (below_drew1 HB.out)
    refine start_ (n := 5) (S := fun w' => w'.cell? ⟨gb1101, 0, none⟩ = some (.int .i64 t1093) ∧ w'.cell? ⟨gb1101, 1, none⟩ = some (.int .i64 t1094) ∧ w'.cell? ⟨gb1101, 2, none⟩ = some (.slice Ao65 t1095.length co65) ∧ w'.cell? ⟨gb1101, 3, none⟩ = some (.slice Ao66 t1098.length co66) ∧ w'.cell? ⟨gb1082, 0, none⟩ = some (.int .i64 a0_0) ∧ w'.cell? ⟨gb1082, 1, none⟩ = some (.int .i64 a0_1) ∧ w'.cell? ⟨gb1082, 2, none⟩ = some (.slice A0_2 l0_2.length c0_2) ∧ w'.cell? ⟨gb1082, 3, none⟩ = some (.slice A0_3 l0_3.length c0_3)) (ds := []) #[false, false, false, false, false] KR rfl rfl ⟨bc 0 BK1101, bc 1 BK1101, bc 2 BK1101, bc 3 BK1101, bc 0 BK1082, bc 1 BK1082, bc 2 BK1082, bc 3 BK1082⟩ (fun hHeld => ?_)
    generalize w67.drew = w68 at HO1088 HO1091 HO1097 HO1100 BK1082 BK1101 HB hHeld ⊢
    refine take_ (i := 0) (N := some 22) (v := ?_) (a' := ?_) #[true, false, false, false, false] rfl rfl KR (fun _ _ _ h => h) (Or.inl ⟨by rfl, ?_⟩) hHeld ?_ ?_
    rotate_left
    ·rintro w' ⟨s0, s1, s2, s3, s4, s5, s6, s7⟩
     go_simp
     with_reducible rfl
    rotate_left
    ·simp only [Act.put, List.setIfInBounds_toArray, List.set_cons_zero, List.set_cons_succ, i64_w, i32_w]
     rfl
    refine take_ (i := 1) (N := some 23) (v := ?_) (a' := ?_) #[true, true, false, false, false] rfl rfl KR (fun _ _ _ h => h) (Or.inl ⟨by rfl, ?_⟩) hHeld ?_ ?_
    rotate_left
    ·rintro w' ⟨s0, s1, s2, s3, s4, s5, s6, s7⟩
     go_simp
     with_reducible rfl
    rotate_left
    ·simp only [Act.put, List.setIfInBounds_toArray, List.set_cons_zero, List.set_cons_succ, i64_w, i32_w]
     rfl
    refine one_ (i := 2) (N := some 24) (mL 5 7) rfl rfl KR (by decide) (fun K hK => ?_)
    refine goes_ Tryz.func17 KR rfl #[.agg #[.int .i64 a0_0, .int .i64 a0_1, .slice A0_2 l0_2.length c0_2, .slice A0_3 l0_3.length c0_3]] (by rfl) rfl rfl TA ?_
    with_reducible refine (laws_toDiff.calls k a0_0 a0_1 _ _ l0_2 _ _ l0_3 t1103 t1104 t1105 t1108 _ ?side1 ?side2 ?side3 ?side4 A28.out).mono ?_
    (case side1 => exact CW ((Kd.C_below HR0_2.out HB.out)))
    (case side2 => exact HC0_2.out)
    (case side3 => exact CW ((Kd.C_below HR0_3.out HB.out)))
    (case side4 => exact HC0_3.out)
    rintro e w69 ⟨v1106, v1109, rfl, ho0, ho1, hb⟩
    refine ⟨_, rfl, ?_⟩
    have HO1107 := Aside0.mk (Kd.R_lower (Kd.R_new' (Kd.R_new' (Kd.R_new' (Kd.R_new' ho0 (Kd.R_lt (RW HO1088).out)) (Kd.R_lt (RW HO1091).out)) (Kd.R_lt (RW HO1097).out)) (Kd.R_lt (RW HO1100).out)) (below_size TB))
    have HO1110 := Aside0.mk (Kd.R_lower (Kd.R_new' (Kd.R_new' (Kd.R_new' (Kd.R_new' ho1 (Kd.R_lt (RW HO1088).out)) (Kd.R_lt (RW HO1091).out)) (Kd.R_lt (RW HO1097).out)) (Kd.R_lt (RW HO1100).out)) (below_size TB))
    replace HO1088 := Aside0.mk (Kd.R_mono (Kd.R_told (Kd.R_told (Kd.R_old (RW HO1088).out hb) (Kd.R_base ho0)) (Kd.R_base ho1)) (fun _ h_ => h_.1))
    replace HO1091 := Aside0.mk (Kd.R_mono (Kd.R_told (Kd.R_told (Kd.R_old (RW HO1091).out hb) (Kd.R_base ho0)) (Kd.R_base ho1)) (fun _ h_ => h_.1))
    replace HO1097 := Aside0.mk (Kd.R_mono (Kd.R_told (Kd.R_told (Kd.R_old (RW HO1097).out hb) (Kd.R_base ho0)) (Kd.R_base ho1)) (fun _ h_ => h_.1))
    replace HO1100 := Aside0.mk (Kd.R_mono (Kd.R_told (Kd.R_told (Kd.R_old (RW HO1100).out hb) (Kd.R_base ho0)) (Kd.R_base ho1)) (fun _ h_ => h_.1))
    replace BK1082 := KB BK1082 hb
    replace BK1101 := KB BK1101 hb
    replace HB := BS hb
    (try clear hb)
    (try clear hb2)
    (try clear hk)
    (try clear hi)
    (try clear ho0)
    (try clear ho1)
    obtain ⟨Ao70, co70, eo70⟩ := Kd.R_slice HO1107.out
    (first | subst eo70 | (injection eo70 with f1_ f2_ f3_; have f4_ := f1_.symm; have f5_ := f3_.symm; clear f1_ f2_ f3_; subst f4_; subst f5_))
    obtain ⟨Ao71, co71, eo71⟩ := Kd.R_slice HO1110.out
    (first | subst eo71 | (injection eo71 with f1_ f2_ f3_; have f4_ := f1_.symm; have f5_ := f3_.symm; clear f1_ f2_ f3_; subst f4_; subst f5_))
    refine hK.out _ _ ⟨bc 0 BK1101, bc 1 BK1101, bc 2 BK1101, bc 3 BK1101, bc 0 BK1082, bc 1 BK1082, bc 2 BK1082, bc 3 BK1082⟩ (fun hHeld => ?_)
    clear hK K
    refine nA ?_
    refine one_ (i := 3) (N := some 25) (mL 5 15) rfl rfl KR (by decide) (fun K hK => ?_)
    refine goes_ Tryz.func19 KR rfl #[.agg #[.int .i64 t1093, .int .i64 t1094, .slice Ao65 t1095.length co65, .slice Ao66 t1098.length co66], .agg #[.int .i64 t1103, .int .i64 t1104, .slice Ao70 t1105.length co70, .slice Ao71 t1108.length co71]] (by rfl) rfl rfl TA ?_
    with_reducible refine (laws_eqDiff.calls k t1093 t1094 _ _ t1095 _ _ t1098 t1103 t1104 _ _ t1105 _ _ t1108 false _ ?side1 ?side2 ?side3 ?side4 ?side5 ?side6 ?side7 ?side8 A29.out).mono ?_
    (case side1 => exact CW ((Kd.R_reads' HO1097.out).2.2))
    (case side2 => exact (Kd.R_reads' HO1097.out).2.1)
    (case side3 => exact CW ((Kd.R_reads' HO1100.out).2.2))
    (case side4 => exact (Kd.R_reads' HO1100.out).2.1)
    (case side5 => exact CW ((Kd.R_reads' HO1107.out).2.2))
    (case side6 => exact (Kd.R_reads' HO1107.out).2.1)
    (case side7 => exact CW ((Kd.R_reads' HO1110.out).2.2))
    (case side8 => exact (Kd.R_reads' HO1110.out).2.1)
    rintro e w72 ⟨rfl, hb⟩
    refine ⟨_, rfl, ?_⟩
    replace HO1088 := RB HO1088 hb
    replace HO1091 := RB HO1091 hb
    replace HO1097 := RB HO1097 hb
    replace HO1100 := RB HO1100 hb
    replace HO1107 := RB HO1107 hb
    replace HO1110 := RB HO1110 hb
    replace BK1082 := KB BK1082 hb
    replace BK1101 := KB BK1101 hb
    replace HB := BS hb
    (try clear hb)
    (try clear hb2)
    (try clear hk)
    (try clear hi)
    refine hK.out _ _ ⟨bc 0 BK1101, bc 1 BK1101, bc 2 BK1101, bc 3 BK1101, bc 0 BK1082, bc 1 BK1082, bc 2 BK1082, bc 3 BK1082⟩ (fun hHeld => ?_)
    clear hK K
    refine nA ?_
    refine pure_ (i := 4) (N := some 26) (v := ?_) (a' := ?_) #[true, true, true, true, true] rfl rfl KR (fun _ _ _ h => h) (Or.inl ⟨by rfl, ?_⟩) ?_ ?_
    rotate_left
    ·intro w'
     go_simp
     with_reducible rfl
    rotate_left
    ·simp only [Act.put, List.setIfInBounds_toArray, List.set_cons_zero, List.set_cons_succ, i64_w, i32_w]
     rfl
    refine done_ KR ?_
    try go_wp2
    go_ret
    exact ⟨TE, TB⟩

/-- THE ONE PURE STATEMENT of laws_FnExactGoodDiff. -/
def laws_FnExactGoodDiff.Pure : Prop := ∀ (a0_0 : Int) (a0_1 : Int) (l0_2 : List (S_LRecord)) (l0_3 : List (S_LRecord)), ((Lit.int .i64 a0_0).wf = true) → ((Lit.int .i64 a0_1).wf = true) → (l0_2.length ≤ maxLen ∧ ∀ x_ ∈ l0_2, WF_LRecord x_) → (l0_3.length ≤ maxLen ∧ ∀ x_ ∈ l0_3, WF_LRecord x_) → ∃ k, laws_FnExactGoodDiff.f k a0_0 a0_1 l0_2 l0_3 = some true
end
end Go.Proofs.YthohohfmdieohaaGreatDoor.Pp
