/- The functions that the law reaches, one Lean function and its proof for each; written by wip/pp of this workplace, joined by claimit.py. -/
import Derived.Test.YthckpgglghfiiaaDoorProg
import Derived.Below
import Derived.Deep.Draws
import Derived.Deep.AppendLies
import Derived.Maps.AppendAt
import Derived.OwnWalk
import Derived.Laws.BytesArg
import Derived.Laws.MakeOwn
import Derived.Laws.OwnMore
import Derived.Deep.OwnRows
import Derived.Tactics
import Derived.Lib.ConvBytes
import Derived.Laws.Slices
import Derived.WalkKit
import Derived.KernelRfl
import Derived.RowKit3
import Derived.Deep.LoopGhost
import Derived.Deep.QuietTactic
import Derived.BigQuiet
import Derived.WideLaws
import Derived.Deep.DeepCutAuto
import Derived.Deep.CutBlock
import Derived.Deep.RegionHeld3
import Derived.Laws.Rows
import Derived.Lib.AppendStr
import Derived.ArgAppend
import Derived.Laws.IdiomCopy
import Derived.OrdersHeld
import Derived.Laws.BitsLemmas
import Derived.RowKit
import Derived.Test.YthckpgglghfiiaaDoorZXWords
import Derived.Test.YthckpgglghfiiaaDoorXShelf
import Derived.Test.YthckpgglghfiiaaDoorVWords
import Derived.Test.YthckpgglghfiiaaDoorVLast
import Derived.Test.YthckpgglghfiiaaDoorVTab
import Derived.Test.YthckpgglghfiiaaDoorVFour
import Derived.Test.YthckpgglghfiiaaDoorVQPut
import Derived.Test.YthckpgglghfiiaaDoorVApart
import Derived.Test.YthckpgglghfiiaaDoorVArr
import Derived.Test.YthckpgglghfiiaaDoorVZeros
import Derived.Test.YthckpgglghfiiaaDoorVFoot
import Derived.Test.YthckpgglghfiiaaDoorVKept
import Derived.Test.YthckpgglghfiiaaDoorVShare
import Derived.Test.YthckpgglghfiiaaDoorVN
import Derived.Test.YthckpgglghfiiaaDoorVFootNe
import Derived.Test.YthckpgglghfiiaaDoorVAt
import Derived.Test.YthckpgglghfiiaaDoorVEqStruct
import Derived.Test.YthckpgglghfiiaaDoorVRepsOne
import Derived.Test.YthckpgglghfiiaaDoorVInv
import Derived.Test.YthckpgglghfiiaaDoorVInvWords
import Derived.Test.YthckpgglghfiiaaDoorVGuard
import Derived.Test.YthckpgglghfiiaaDoorVNEv
import Derived.Test.YthckpgglghfiiaaDoorVMore
import Derived.Test.YthckpgglghfiiaaDoorJFnExactNewHealth0
import Derived.Test.YthckpgglghfiiaaDoorJFnExactNewHealth1
import Derived.Test.YthckpgglghfiiaaDoorJFnExactNewHealth2
namespace Go.Proofs.YthckpgglghfiiaaDoor.Pp
open Go.RowKit Go.Proofs.YthckpgglghfiiaaDoorW.PrintWords Go.Proofs.YthckpgglghfiiaaDoorW.PrintLast Go.Proofs.YthckpgglghfiiaaDoorW.PrintMore
attribute [local go_sem] max2_int min2_int max_two min_two max_three min_three max_four min_four   -- for this text's walks alone
set_option linter.unusedVariables false
set_option linter.unusedSimpArgs false

section
/-! ### laws_FnExactNewHealth: function 7 -/
mutual
def laws_FnExactNewHealth.j0 : Nat → Int → Int → List ByteArray → Bool → List ByteArray → Bool → Bool → Int → Int → List (S_Host) → Int → Int → List (S_Host) → Option (Bool)
  | 0, _, _, _, _, _, _, _, _, _, _, _, _, _ => none
  | k + 1, x0, x1, x2, x9, x10, x12, x48, x670000, x670001, x670002, x680000, x680001, x680002 => if x48 = true then (some false) else ((laws_toStringS.f k x2).bind fun t681 => ((laws_eqStringS.f k x10 t681).bind fun t684 => (if t684 = true then ((laws_markStringS.f k x10 1).bind fun bt685 => (if bt685.1 < 0 then (laws_FnExactNewHealth.j1 k x0 x1 x2 x9 true x670000 x670001 x670002 x680000 x680001 x680002) else ((laws_eqHealth.f k x680000 x680001 x680002 x670000 x670001 x670002).bind fun t687 => (if t687 = true then (laws_FnExactNewHealth.j1 k x0 x1 x2 x9 (x12 != x9) x670000 x670001 x670002 x680000 x680001 x680002) else (laws_FnExactNewHealth.j1 k x0 x1 x2 x9 true x670000 x670001 x670002 x680000 x680001 x680002))))) else (some false))))
def laws_FnExactNewHealth.j1 : Nat → Int → Int → List ByteArray → Bool → Bool → Int → Int → List (S_Host) → Int → Int → List (S_Host) → Option (Bool)
  | 0, _, _, _, _, _, _, _, _, _, _, _ => none
  | k + 1, x0, x1, x2, x9, x69, x670000, x670001, x670002, x680000, x680001, x680002 => if x69 = true then (some false) else ((laws_markHealth.f k x680000 x680001 x680002 1).bind fun bt688 => ((laws_heldHealth.f k x680000 x680001 bt688.2 1).bind fun t690 => (if t690 < 0 then (some false) else (if t690 = bt688.1 then ((laws_toStringS.f k x2).bind fun t691 => ((impl_NewHealth.f k x0 x1 t691).bind fun bt694 => ((laws_eqHealth.f k bt694.1 bt694.2.1 bt694.2.2.1 x670000 x670001 x670002).bind fun t701 => (if t701 = true then (laws_FnExactNewHealth.j2 k bt688.1 (bt694.2.2.2 != x9) x680000 x680001 bt688.2) else (laws_FnExactNewHealth.j2 k bt688.1 true x680000 x680001 bt688.2))))) else (some false)))))
def laws_FnExactNewHealth.j2 : Nat → Int → Bool → Int → Int → List (S_Host) → Option (Bool)
  | 0, _, _, _, _, _ => none
  | k + 1, x14, x97, x680000, x680001, x680002 => if x97 = true then (some false) else ((laws_heldHealth.f k x680000 x680001 x680002 1).bind fun t702 => (if t702 < 0 then (some false) else (if t702 = x14 then (some true) else (some false))))
end
def laws_FnExactNewHealth.f (k : Nat) (a0 : Int) (a1 : Int) (l2 : List ByteArray) : Option (Bool) := (laws_szStringS.f k l2 1048576).bind fun t659 => (if t659 < 0 then (some true) else ((laws_toStringS.f k l2).bind fun t660 => ((spec_NewHealth.f k a0 a1 t660).bind fun bt663 => ((laws_toStringS.f k l2).bind fun t670 => ((impl_NewHealth.f k a0 a1 t670).bind fun bt673 => ((laws_eqHealth.f k bt673.1 bt673.2.1 bt673.2.2.1 bt663.1 bt663.2.1 bt663.2.2.1).bind fun t680 => (if t680 = true then (laws_FnExactNewHealth.j0 k a0 a1 l2 bt663.2.2.2 t670 bt673.2.2.2 (bt673.2.2.2 != bt663.2.2.2) bt663.1 bt663.2.1 bt663.2.2.1 bt673.1 bt673.2.1 bt673.2.2.1) else (laws_FnExactNewHealth.j0 k a0 a1 l2 bt663.2.2.2 t670 bt673.2.2.2 true bt663.1 bt663.2.1 bt663.2.2.1 bt673.1 bt673.2.1 bt673.2.2.1))))))))
theorem laws_FnExactNewHealth.mono_l : ∀ k, (∀ y0 y1 y2 y3 y4 y5 y6 y7 y8 y9 y10 y11 y12, LeO (laws_FnExactNewHealth.j0 k y0 y1 y2 y3 y4 y5 y6 y7 y8 y9 y10 y11 y12) (laws_FnExactNewHealth.j0 (k + 1) y0 y1 y2 y3 y4 y5 y6 y7 y8 y9 y10 y11 y12)) ∧ (∀ y0 y1 y2 y3 y4 y5 y6 y7 y8 y9 y10, LeO (laws_FnExactNewHealth.j1 k y0 y1 y2 y3 y4 y5 y6 y7 y8 y9 y10) (laws_FnExactNewHealth.j1 (k + 1) y0 y1 y2 y3 y4 y5 y6 y7 y8 y9 y10)) ∧ (∀ y0 y1 y2 y3 y4, LeO (laws_FnExactNewHealth.j2 k y0 y1 y2 y3 y4) (laws_FnExactNewHealth.j2 (k + 1) y0 y1 y2 y3 y4))
  | 0 => ⟨fun _ _ _ _ _ _ _ _ _ _ _ _ _ r h => by simp [laws_FnExactNewHealth.j0] at h, fun _ _ _ _ _ _ _ _ _ _ _ r h => by simp [laws_FnExactNewHealth.j1] at h, fun _ _ _ _ _ r h => by simp [laws_FnExactNewHealth.j2] at h⟩
  | k + 1 => by
    obtain ⟨ih0, ih1, ih2⟩ := laws_FnExactNewHealth.mono_l k
    refine ⟨?_, ?_, ?_⟩
    · intro y0 y1 y2 y3 y4 y5 y6 y7 y8 y9 y10 y11 y12
      unfold laws_FnExactNewHealth.j0
      repeat' first
      | (with_reducible exact ih0 _ _ _ _ _ _ _ _ _ _ _ _ _)
      | (with_reducible exact ih1 _ _ _ _ _ _ _ _ _ _ _)
      | (with_reducible exact ih2 _ _ _ _ _)
      | (with_reducible exact impl_NewHealth.mono _ _ _ _)
      | (with_reducible exact laws_eqHealth.mono _ _ _ _ _ _ _)
      | (with_reducible exact laws_eqStringS.mono _ _ _)
      | (with_reducible exact laws_heldHealth.mono _ _ _ _ _)
      | (with_reducible exact laws_markHealth.mono _ _ _ _ _)
      | (with_reducible exact laws_markStringS.mono _ _ _)
      | (with_reducible exact laws_szStringS.mono _ _ _)
      | (with_reducible exact laws_toStringS.mono _ _)
      | (with_reducible exact spec_NewHealth.mono _ _ _ _)
      | (with_reducible exact LeO.refl _)
      | (with_reducible exact LeO.none _)
      | (with_reducible refine LeO.ite ?_ ?_)
      | (with_reducible refine LeO.bind ?_ (fun _ => ?_))
      | exact ih0 _ _ _ _ _ _ _ _ _ _ _ _ _
      | exact ih1 _ _ _ _ _ _ _ _ _ _ _
      | exact ih2 _ _ _ _ _
      | exact impl_NewHealth.mono _ _ _ _
      | exact laws_eqHealth.mono _ _ _ _ _ _ _
      | exact laws_eqStringS.mono _ _ _
      | exact laws_heldHealth.mono _ _ _ _ _
      | exact laws_markHealth.mono _ _ _ _ _
      | exact laws_markStringS.mono _ _ _
      | exact laws_szStringS.mono _ _ _
      | exact laws_toStringS.mono _ _
      | exact spec_NewHealth.mono _ _ _ _
      | exact LeO.none _
      | refine LeO.ite ?_ ?_
      | refine LeO.bind ?_ (fun _ => ?_)
    · intro y0 y1 y2 y3 y4 y5 y6 y7 y8 y9 y10
      unfold laws_FnExactNewHealth.j1
      repeat' first
      | (with_reducible exact ih0 _ _ _ _ _ _ _ _ _ _ _ _ _)
      | (with_reducible exact ih1 _ _ _ _ _ _ _ _ _ _ _)
      | (with_reducible exact ih2 _ _ _ _ _)
      | (with_reducible exact impl_NewHealth.mono _ _ _ _)
      | (with_reducible exact laws_eqHealth.mono _ _ _ _ _ _ _)
      | (with_reducible exact laws_eqStringS.mono _ _ _)
      | (with_reducible exact laws_heldHealth.mono _ _ _ _ _)
      | (with_reducible exact laws_markHealth.mono _ _ _ _ _)
      | (with_reducible exact laws_markStringS.mono _ _ _)
      | (with_reducible exact laws_szStringS.mono _ _ _)
      | (with_reducible exact laws_toStringS.mono _ _)
      | (with_reducible exact spec_NewHealth.mono _ _ _ _)
      | (with_reducible exact LeO.refl _)
      | (with_reducible exact LeO.none _)
      | (with_reducible refine LeO.ite ?_ ?_)
      | (with_reducible refine LeO.bind ?_ (fun _ => ?_))
      | exact ih0 _ _ _ _ _ _ _ _ _ _ _ _ _
      | exact ih1 _ _ _ _ _ _ _ _ _ _ _
      | exact ih2 _ _ _ _ _
      | exact impl_NewHealth.mono _ _ _ _
      | exact laws_eqHealth.mono _ _ _ _ _ _ _
      | exact laws_eqStringS.mono _ _ _
      | exact laws_heldHealth.mono _ _ _ _ _
      | exact laws_markHealth.mono _ _ _ _ _
      | exact laws_markStringS.mono _ _ _
      | exact laws_szStringS.mono _ _ _
      | exact laws_toStringS.mono _ _
      | exact spec_NewHealth.mono _ _ _ _
      | exact LeO.none _
      | refine LeO.ite ?_ ?_
      | refine LeO.bind ?_ (fun _ => ?_)
    · intro y0 y1 y2 y3 y4
      unfold laws_FnExactNewHealth.j2
      repeat' first
      | (with_reducible exact ih0 _ _ _ _ _ _ _ _ _ _ _ _ _)
      | (with_reducible exact ih1 _ _ _ _ _ _ _ _ _ _ _)
      | (with_reducible exact ih2 _ _ _ _ _)
      | (with_reducible exact impl_NewHealth.mono _ _ _ _)
      | (with_reducible exact laws_eqHealth.mono _ _ _ _ _ _ _)
      | (with_reducible exact laws_eqStringS.mono _ _ _)
      | (with_reducible exact laws_heldHealth.mono _ _ _ _ _)
      | (with_reducible exact laws_markHealth.mono _ _ _ _ _)
      | (with_reducible exact laws_markStringS.mono _ _ _)
      | (with_reducible exact laws_szStringS.mono _ _ _)
      | (with_reducible exact laws_toStringS.mono _ _)
      | (with_reducible exact spec_NewHealth.mono _ _ _ _)
      | (with_reducible exact LeO.refl _)
      | (with_reducible exact LeO.none _)
      | (with_reducible refine LeO.ite ?_ ?_)
      | (with_reducible refine LeO.bind ?_ (fun _ => ?_))
      | exact ih0 _ _ _ _ _ _ _ _ _ _ _ _ _
      | exact ih1 _ _ _ _ _ _ _ _ _ _ _
      | exact ih2 _ _ _ _ _
      | exact impl_NewHealth.mono _ _ _ _
      | exact laws_eqHealth.mono _ _ _ _ _ _ _
      | exact laws_eqStringS.mono _ _ _
      | exact laws_heldHealth.mono _ _ _ _ _
      | exact laws_markHealth.mono _ _ _ _ _
      | exact laws_markStringS.mono _ _ _
      | exact laws_szStringS.mono _ _ _
      | exact laws_toStringS.mono _ _
      | exact spec_NewHealth.mono _ _ _ _
      | exact LeO.none _
      | refine LeO.ite ?_ ?_
      | refine LeO.bind ?_ (fun _ => ?_)
theorem laws_FnExactNewHealth.mono : ∀ a0 a1 a2 k, LeO (laws_FnExactNewHealth.f k a0 a1 a2) (laws_FnExactNewHealth.f (k + 1) a0 a1 a2) := by
  intro a0 a1 a2 k
  obtain ⟨ih0, ih1, ih2⟩ := laws_FnExactNewHealth.mono_l k
  unfold laws_FnExactNewHealth.f
  repeat' first
      | (with_reducible exact ih0 _ _ _ _ _ _ _ _ _ _ _ _ _)
      | (with_reducible exact ih1 _ _ _ _ _ _ _ _ _ _ _)
      | (with_reducible exact ih2 _ _ _ _ _)
      | (with_reducible exact impl_NewHealth.mono _ _ _ _)
      | (with_reducible exact laws_eqHealth.mono _ _ _ _ _ _ _)
      | (with_reducible exact laws_eqStringS.mono _ _ _)
      | (with_reducible exact laws_heldHealth.mono _ _ _ _ _)
      | (with_reducible exact laws_markHealth.mono _ _ _ _ _)
      | (with_reducible exact laws_markStringS.mono _ _ _)
      | (with_reducible exact laws_szStringS.mono _ _ _)
      | (with_reducible exact laws_toStringS.mono _ _)
      | (with_reducible exact spec_NewHealth.mono _ _ _ _)
      | (with_reducible exact LeO.refl _)
      | (with_reducible exact LeO.none _)
      | (with_reducible refine LeO.ite ?_ ?_)
      | (with_reducible refine LeO.bind ?_ (fun _ => ?_))
      | exact ih0 _ _ _ _ _ _ _ _ _ _ _ _ _
      | exact ih1 _ _ _ _ _ _ _ _ _ _ _
      | exact ih2 _ _ _ _ _
      | exact impl_NewHealth.mono _ _ _ _
      | exact laws_eqHealth.mono _ _ _ _ _ _ _
      | exact laws_eqStringS.mono _ _ _
      | exact laws_heldHealth.mono _ _ _ _ _
      | exact laws_markHealth.mono _ _ _ _ _
      | exact laws_markStringS.mono _ _ _
      | exact laws_szStringS.mono _ _ _
      | exact laws_toStringS.mono _ _
      | exact spec_NewHealth.mono _ _ _ _
      | exact LeO.none _
      | refine LeO.ite ?_ ?_
      | refine LeO.bind ?_ (fun _ => ?_)
set_option maxHeartbeats 8000000 in
set_option maxRecDepth 100000 in
theorem laws_FnExactNewHealth.calls (k : Nat) (a0 : Int) (a1 : Int) (A2 : Option Addr) (c2 : Nat) (l2 : List ByteArray) (r : Bool) (w : World) (hr2 : Kd.C Kd.string w A2 l2.length l2) (hc2 : l2.length ≤ c2) (h : laws_FnExactNewHealth.f k a0 a1 l2 = some r) :
    Calls Tryd.prog 7 #[.int .i64 a0, .int .i64 a1, .slice A2 l2.length c2] w fun e w' => e = .returned (.bool r) ∧ Below w.heap.size w w' := by
  have hu29 := Tryd.underlying29
  have HR2 := Aside0.mk hr2
  have HC2 := Aside0.mk hc2
  clear hr2 hc2
  have HB := Aside0.mk (Below.refl w.heap.size w)
  have H : ((laws_szStringS.f k l2 1048576).bind fun t659 => (if t659 < 0 then (some true) else ((laws_toStringS.f k l2).bind fun t660 => ((spec_NewHealth.f k a0 a1 t660).bind fun bt663 => ((laws_toStringS.f k l2).bind fun t670 => ((impl_NewHealth.f k a0 a1 t670).bind fun bt673 => ((laws_eqHealth.f k bt673.1 bt673.2.1 bt673.2.2.1 bt663.1 bt663.2.1 bt663.2.2.1).bind fun t680 => (if t680 = true then (laws_FnExactNewHealth.j0 k a0 a1 l2 bt663.2.2.2 t670 bt673.2.2.2 (bt673.2.2.2 != bt663.2.2.2) bt663.1 bt663.2.1 bt663.2.2.1 bt673.1 bt673.2.1 bt673.2.2.1) else (laws_FnExactNewHealth.j0 k a0 a1 l2 bt663.2.2.2 t670 bt673.2.2.2 true bt663.1 bt663.2.1 bt663.2.2.1 bt673.1 bt673.2.1 bt673.2.2.1))))))))) = some r := h
  clear h
  replace H := Option.bind_eq_some_iff.mp H
  obtain ⟨t659, A40, H⟩ := H
  replace H : (if t659 < 0 then (some true) else ((laws_toStringS.f k l2).bind fun t660 => ((spec_NewHealth.f k a0 a1 t660).bind fun bt663 => ((laws_toStringS.f k l2).bind fun t670 => ((impl_NewHealth.f k a0 a1 t670).bind fun bt673 => ((laws_eqHealth.f k bt673.1 bt673.2.1 bt673.2.2.1 bt663.1 bt663.2.1 bt663.2.2.1).bind fun t680 => (if t680 = true then (laws_FnExactNewHealth.j0 k a0 a1 l2 bt663.2.2.2 t670 bt673.2.2.2 (bt673.2.2.2 != bt663.2.2.2) bt663.1 bt663.2.1 bt663.2.2.1 bt673.1 bt673.2.1 bt673.2.2.1) else (laws_FnExactNewHealth.j0 k a0 a1 l2 bt663.2.2.2 t670 bt673.2.2.2 true bt663.1 bt663.2.1 bt663.2.2.1 bt673.1 bt673.2.1 bt673.2.2.1)))))))) = some r := H
  have A4 := Aside0.mk A40
  clear A40
  by_cases c5 : t659 < 0
  · rw [if_pos c5] at H
    have c5b0 : decide (t659 < 0) = true := decide_eq_true c5
    clear c5
    obtain rfl := Option.some.inj H
    go_enter Tryd.func7, Tryd.ntmps7
    go_wp2_with (first | ((with_reducible refine gate_callee (f := 27) rfl ?_); refine goesL_ (some 20) rfl rfl Tryd.func27 (by kernel_rfl) rfl #[.slice A2 l2.length c2, .int .i64 1048576] rfl (by (try simp only [List.map_toArray, List.map_cons, List.map_nil]); first | done | rfl | (simp only [List.length_drop, List.length_take]; rfl)) ?_; (with_reducible refine (laws_szStringS.calls k _ _ l2 1048576 t659 _ ?side1 ?side2 A4.out).mono ?_); (case side1 => repeat (first | exact HR2.out | (with_reducible refine Kd.C_alloc ?_ _) | (with_reducible refine Kd.C_drewN ?_ _) | (with_reducible refine Kd.C_drew ?_))); (case side2 => exact HC2.out); rintro e w' ⟨rfl, ⟨nd, rfl⟩⟩; refine ⟨_, rfl, ?_⟩))
    go_ret
    exact ⟨by first | rfl | (simp [errW_none, errW_some] <;> rfl) | (simp [*, errW_none, errW_some] <;> rfl), by repeat (first | (with_reducible first | exact HB.out | apply below_alloc | apply pw_below_drewN | apply below_drew1) | exact HB.out)⟩
  · rw [if_neg c5] at H
    have c5b0 : decide (t659 < 0) = false := decide_eq_false c5
    clear c5
    replace H := Option.bind_eq_some_iff.mp H
    obtain ⟨t660, A60, H⟩ := H
    replace H : ((spec_NewHealth.f k a0 a1 t660).bind fun bt663 => ((laws_toStringS.f k l2).bind fun t670 => ((impl_NewHealth.f k a0 a1 t670).bind fun bt673 => ((laws_eqHealth.f k bt673.1 bt673.2.1 bt673.2.2.1 bt663.1 bt663.2.1 bt663.2.2.1).bind fun t680 => (if t680 = true then (laws_FnExactNewHealth.j0 k a0 a1 l2 bt663.2.2.2 t670 bt673.2.2.2 (bt673.2.2.2 != bt663.2.2.2) bt663.1 bt663.2.1 bt663.2.2.1 bt673.1 bt673.2.1 bt673.2.2.1) else (laws_FnExactNewHealth.j0 k a0 a1 l2 bt663.2.2.2 t670 bt673.2.2.2 true bt663.1 bt663.2.1 bt663.2.2.1 bt673.1 bt673.2.1 bt673.2.2.1)))))) = some r := H
    have A6 := Aside0.mk A60
    clear A60
    replace H := Option.bind_eq_some_iff.mp H
    obtain ⟨⟨t663, t664, t665, t668⟩, A70, H⟩ := H
    replace H : ((laws_toStringS.f k l2).bind fun t670 => ((impl_NewHealth.f k a0 a1 t670).bind fun bt673 => ((laws_eqHealth.f k bt673.1 bt673.2.1 bt673.2.2.1 t663 t664 t665).bind fun t680 => (if t680 = true then (laws_FnExactNewHealth.j0 k a0 a1 l2 t668 t670 bt673.2.2.2 (bt673.2.2.2 != t668) t663 t664 t665 bt673.1 bt673.2.1 bt673.2.2.1) else (laws_FnExactNewHealth.j0 k a0 a1 l2 t668 t670 bt673.2.2.2 true t663 t664 t665 bt673.1 bt673.2.1 bt673.2.2.1))))) = some r := H
    have A7 := Aside0.mk A70
    clear A70
    replace H := Option.bind_eq_some_iff.mp H
    obtain ⟨t670, A80, H⟩ := H
    replace H : ((impl_NewHealth.f k a0 a1 t670).bind fun bt673 => ((laws_eqHealth.f k bt673.1 bt673.2.1 bt673.2.2.1 t663 t664 t665).bind fun t680 => (if t680 = true then (laws_FnExactNewHealth.j0 k a0 a1 l2 t668 t670 bt673.2.2.2 (bt673.2.2.2 != t668) t663 t664 t665 bt673.1 bt673.2.1 bt673.2.2.1) else (laws_FnExactNewHealth.j0 k a0 a1 l2 t668 t670 bt673.2.2.2 true t663 t664 t665 bt673.1 bt673.2.1 bt673.2.2.1)))) = some r := H
    have A8 := Aside0.mk A80
    clear A80
    replace H := Option.bind_eq_some_iff.mp H
    obtain ⟨⟨t673, t674, t675, t678⟩, A90, H⟩ := H
    replace H : ((laws_eqHealth.f k t673 t674 t675 t663 t664 t665).bind fun t680 => (if t680 = true then (laws_FnExactNewHealth.j0 k a0 a1 l2 t668 t670 t678 (t678 != t668) t663 t664 t665 t673 t674 t675) else (laws_FnExactNewHealth.j0 k a0 a1 l2 t668 t670 t678 true t663 t664 t665 t673 t674 t675))) = some r := H
    have A9 := Aside0.mk A90
    clear A90
    have HC10 := Aside0.mk H
    clear H
    go_enter Tryd.func7, Tryd.ntmps7
    go_upto_region 8 with (first | ((with_reducible refine gate_callee (f := 27) rfl ?_); refine goesL_ (some 20) rfl rfl Tryd.func27 (by kernel_rfl) rfl #[.slice A2 l2.length c2, .int .i64 1048576] rfl (by (try simp only [List.map_toArray, List.map_cons, List.map_nil]); first | done | rfl | (simp only [List.length_drop, List.length_take]; rfl)) ?_; (with_reducible refine (laws_szStringS.calls k _ _ l2 1048576 t659 _ ?side1 ?side2 A4.out).mono ?_); (case side1 => repeat (first | exact HR2.out | (with_reducible refine Kd.C_alloc ?_ _) | (with_reducible refine Kd.C_drewN ?_ _) | (with_reducible refine Kd.C_drew ?_))); (case side2 => exact HC2.out); rintro e w' ⟨rfl, ⟨nd, rfl⟩⟩; refine ⟨_, rfl, ?_⟩) | ((with_reducible refine gate_callee (f := 29) rfl ?_); refine goesL_ (some 27) rfl rfl Tryd.func29 (by kernel_rfl) rfl #[.slice A2 l2.length c2] rfl (by (try simp only [List.map_toArray, List.map_cons, List.map_nil]); first | done | rfl | (simp only [List.length_drop, List.length_take]; rfl)) ?_; (with_reducible refine (laws_toStringS.calls k _ _ l2 t660 _ ?side1 ?side2 A6.out).mono ?_); (case side1 => repeat (first | exact HR2.out | (with_reducible refine Kd.C_alloc ?_ _) | (with_reducible refine Kd.C_drewN ?_ _) | (with_reducible refine Kd.C_drew ?_))); (case side2 => exact HC2.out); rintro e w11 ⟨v661, rfl, ho0, hb⟩; refine ⟨_, rfl, ?_⟩; have n0_ := Aside0.mk (Kd.R_lower ho0 (below_size (by repeat (first | (with_reducible first | exact HB.out | apply below_alloc | apply pw_below_drewN | apply below_drew1) | exact HB.out)))); have n1_ := Aside0.mk (below_step (by repeat (first | (with_reducible first | exact HB.out | apply below_alloc | apply pw_below_drewN | apply below_drew1) | exact HB.out)) hb); clear HB; have HO662 := n0_; have HB := n1_; clear n0_ n1_; (try clear hb); (try clear hb2); (try clear hk); (try clear hi); (try clear ho0); obtain ⟨Ao12, co12, eo12⟩ := Kd.R_slice HO662.out; subst eo12) | ((with_reducible refine gate_callee (f := 28) rfl ?_); refine goesL_ (some 28) rfl rfl Tryd.func28 (by kernel_rfl) rfl #[.int .i64 a0, .int .i64 a1, .slice Ao12 t660.length co12] rfl (by (try simp only [List.map_toArray, List.map_cons, List.map_nil]); first | done | rfl | (simp only [List.length_drop, List.length_take]; rfl)) ?_; (with_reducible refine (spec_NewHealth.calls k a0 a1 _ _ t660 t663 t664 t665 t668 _ ?side1 ?side2 A7.out).mono ?_); (case side1 => repeat (first | exact (Kd.R_reads' HO662.out).2.2 | (with_reducible refine Kd.C_alloc ?_ _) | (with_reducible refine Kd.C_drewN ?_ _) | (with_reducible refine Kd.C_drew ?_))); (case side2 => exact (Kd.R_reads' HO662.out).2.1); rintro e w13 ⟨v666, rfl, ho0, hb⟩; refine ⟨_, rfl, ?_⟩; have n0_ := Aside0.mk (Kd.R_below (by (with_reducible repeat (first | apply Kd.R_alloc | apply Kd.R_drewN | apply Kd.R_drew)); exact HO662.out) hb); have n1_ := Aside0.mk (Kd.R_lower ho0 (below_size (by repeat (first | (with_reducible first | exact HB.out | apply below_alloc | apply pw_below_drewN | apply below_drew1) | exact HB.out)))); have n2_ := Aside0.mk (below_step (by repeat (first | (with_reducible first | exact HB.out | apply below_alloc | apply pw_below_drewN | apply below_drew1) | exact HB.out)) hb); clear HO662; clear HB; have HO662 := n0_; have HO667 := n1_; have HB := n2_; clear n0_ n1_ n2_; (try clear hb); (try clear hb2); (try clear hk); (try clear hi); (try clear ho0)) | ((with_reducible refine gate_dst (N := 8) rfl ?_); refine box_event ?hg (N := 8) ?hd (cs := #[.int .i64 0, .int .i64 0, .slice none 0 0]) (t := 29) ?hr ?_; (case hd => rfl); (case hg => rfl); (case hr => first | (go_simp; done) | (go_simp; rfl)); intro gb669 hg w14 hbox hb; have n0_ := Aside0.mk (Kd.R_below (by (with_reducible repeat (first | apply Kd.R_alloc | apply Kd.R_drewN | apply Kd.R_drew)); exact HO662.out) hb); have n1_ := Aside0.mk (Kd.R_below (by (with_reducible repeat (first | apply Kd.R_alloc | apply Kd.R_drewN | apply Kd.R_drew)); exact HO667.out) hb); have n2_ := Aside0.mk (below_step (by repeat (first | (with_reducible first | exact HB.out | apply below_alloc | apply pw_below_drewN | apply below_drew1) | exact HB.out)) hb); have n3_ := Aside0.mk (hbox); have n4_ := Aside0.mk ((by rw [hg]; exact (below_size (by repeat (first | (with_reducible first | exact HB.out | apply below_alloc | apply pw_below_drewN | apply below_drew1) | exact HB.out))) : w.heap.size ≤ gb669)); have n5_ := Aside0.mk ((by rw [hg]; exact (below_size (by repeat (first | (with_reducible first | exact HB.out | apply below_alloc | apply pw_below_drewN | apply below_drew1) | exact HB.out))) : w.heap.size ≤ gb669)); clear HO662; clear HO667; clear HB; have HO662 := n0_; have HO667 := n1_; have HB := n2_; have BK669 := n3_; have GW669 := n4_; have GE669 := n5_; clear n0_ n1_ n2_ n3_ n4_ n5_; clear hb hbox hg; have hcz15_0 : w14.cell? ⟨gb669, 0, none⟩ = some (.int .i64 0) := (blk_cell BK669.out 0).trans rfl; have hcz15_1 : w14.cell? ⟨gb669, 1, none⟩ = some (.int .i64 0) := (blk_cell BK669.out 1).trans rfl; have hcz15_2 : w14.cell? ⟨gb669, 2, none⟩ = some (.slice none 0 0) := (blk_cell BK669.out 2).trans rfl; have hfz15_0 := blk_frozen BK669.out 0; have hfz15_1 := blk_frozen BK669.out 1; have hfz15_2 := blk_frozen BK669.out 2; obtain ⟨Ao16, co16, eo16⟩ := Kd.R_slice HO667.out; subst eo16) | ((with_reducible refine gate_callee (f := 29) rfl ?_); refine goesL_ (some 32) rfl rfl Tryd.func29 (by kernel_rfl) rfl #[.slice A2 l2.length c2] rfl (by (try simp only [List.map_toArray, List.map_cons, List.map_nil]); first | done | rfl | (simp only [List.length_drop, List.length_take]; rfl)) ?_; (with_reducible refine (laws_toStringS.calls k _ _ l2 t670 _ ?side1 ?side2 A8.out).mono ?_); (case side1 => exact Kd.C_below HR2.out (by repeat (first | (with_reducible first | exact HB.out | apply below_alloc | apply pw_below_drewN | apply below_drew1 | refine below_set ?_ GE669.out) | exact HB.out))); (case side2 => exact HC2.out); rintro e w17 ⟨v671, rfl, ho0, hb⟩; refine ⟨_, rfl, ?_⟩; have n0_ := Aside0.mk (Kd.R_elder' (by (with_reducible repeat (first | apply Kd.R_alloc | apply Kd.R_drewN | apply Kd.R_drew)); exact (Kd.R_mono (Kd.R_far (p := ⟨gb669, 2, none⟩) (Kd.R_far (p := ⟨gb669, 1, none⟩) (Kd.R_far (p := ⟨gb669, 0, none⟩) (Kd.R_types HO662.out BK669.out (by decide)) (fun _ hk => hk.2) (.int .i64 t663)) (fun _ hk => hk.2) (.int .i64 t664)) (fun _ hk => hk.2) (.slice Ao16 t665.length co16)) (fun _ h_ => h_.1))) (Kd.R_base ho0) hb); have n1_ := Aside0.mk (Kd.R_below (by (with_reducible repeat (first | apply Kd.R_alloc | apply Kd.R_drewN | apply Kd.R_drew)); exact (Kd.R_mono (Kd.R_far (p := ⟨gb669, 2, none⟩) (Kd.R_far (p := ⟨gb669, 1, none⟩) (Kd.R_far (p := ⟨gb669, 0, none⟩) (Kd.R_types HO667.out BK669.out (by decide)) (fun _ hk => hk.2) (.int .i64 t663)) (fun _ hk => hk.2) (.int .i64 t664)) (fun _ hk => hk.2) (.slice Ao16 t665.length co16)) (fun _ h_ => h_.1))) hb); have n2_ := Aside0.mk (Kd.R_lower (Kd.R_new' ho0 (Kd.R_lt (by (with_reducible repeat (first | apply Kd.R_alloc | apply Kd.R_drewN | apply Kd.R_drew)); exact (Kd.R_mono (Kd.R_far (p := ⟨gb669, 2, none⟩) (Kd.R_far (p := ⟨gb669, 1, none⟩) (Kd.R_far (p := ⟨gb669, 0, none⟩) (Kd.R_types HO662.out BK669.out (by decide)) (fun _ hk => hk.2) (.int .i64 t663)) (fun _ hk => hk.2) (.int .i64 t664)) (fun _ hk => hk.2) (.slice Ao16 t665.length co16)) (fun _ h_ => h_.1))))) (below_size (by repeat (first | (with_reducible first | exact HB.out | apply below_alloc | apply pw_below_drewN | apply below_drew1 | refine below_set ?_ GE669.out) | exact HB.out)))); have n3_ := Aside0.mk (blk_below (g := gb669) (o := .cells #[.int .i64 t663, .int .i64 t664, .slice Ao16 t665.length co16] 29 (0, 0)) (by (with_reducible repeat (first | refine blk_drewN ?_ _ | refine blk_drew ?_ | refine blk_alloc ?_ _)); refine blk_put (cs := #[.int .i64 t663, .int .i64 t664, .slice none 0 0]) ?_ 2 _ rfl; (with_reducible repeat (first | refine blk_drewN ?_ _ | refine blk_drew ?_ | refine blk_alloc ?_ _)); refine blk_put (cs := #[.int .i64 t663, .int .i64 0, .slice none 0 0]) ?_ 1 _ rfl; (with_reducible repeat (first | refine blk_drewN ?_ _ | refine blk_drew ?_ | refine blk_alloc ?_ _)); refine blk_put (cs := #[.int .i64 0, .int .i64 0, .slice none 0 0]) ?_ 0 _ rfl; (with_reducible repeat (first | refine blk_drewN ?_ _ | refine blk_drew ?_ | refine blk_alloc ?_ _)); exact BK669.out) hb); have n4_ := Aside0.mk (below_step (by repeat (first | (with_reducible first | exact HB.out | apply below_alloc | apply pw_below_drewN | apply below_drew1 | refine below_set ?_ GE669.out) | exact HB.out)) hb); clear HO662; clear HO667; clear BK669; clear HB; have HO662 := n0_; have HO667 := n1_; have HO672 := n2_; have BK669 := n3_; have HB := n4_; clear n0_ n1_ n2_ n3_ n4_; (try clear hb); (try clear hb2); (try clear hk); (try clear hi); (try clear ho0); obtain ⟨Ao18, co18, eo18⟩ := Kd.R_slice HO672.out; subst eo18) | ((with_reducible refine gate_callee (f := 30) rfl ?_); refine goesL_ (some 37) rfl rfl Tryd.func30 (by kernel_rfl) rfl #[.int .i64 a0, .int .i64 a1, .slice Ao18 t670.length co18] rfl (by (try simp only [List.map_toArray, List.map_cons, List.map_nil]); first | done | rfl | (simp only [List.length_drop, List.length_take]; rfl)) ?_; (with_reducible refine (impl_NewHealth.calls k a0 a1 _ _ t670 t673 t674 t675 t678 _ ?side1 ?side2 A9.out).mono ?_); (case side1 => repeat (first | exact (Kd.R_reads' HO672.out).2.2 | (with_reducible refine Kd.C_alloc ?_ _) | (with_reducible refine Kd.C_drewN ?_ _) | (with_reducible refine Kd.C_drew ?_))); (case side2 => exact (Kd.R_reads' HO672.out).2.1); rintro e w19 ⟨v676, rfl, ho0, hb⟩; refine ⟨_, rfl, ?_⟩; have n0_ := Aside0.mk (Kd.R_below (by (with_reducible repeat (first | apply Kd.R_alloc | apply Kd.R_drewN | apply Kd.R_drew)); exact HO662.out) hb); have n1_ := Aside0.mk (Kd.R_elder' (by (with_reducible repeat (first | apply Kd.R_alloc | apply Kd.R_drewN | apply Kd.R_drew)); exact HO667.out) (Kd.R_base ho0) hb); have n2_ := Aside0.mk (Kd.R_below (by (with_reducible repeat (first | apply Kd.R_alloc | apply Kd.R_drewN | apply Kd.R_drew)); exact HO672.out) hb); have n3_ := Aside0.mk (Kd.R_lower (Kd.R_new' ho0 (Kd.R_lt (by (with_reducible repeat (first | apply Kd.R_alloc | apply Kd.R_drewN | apply Kd.R_drew)); exact HO667.out))) (below_size (by repeat (first | (with_reducible first | exact HB.out | apply below_alloc | apply pw_below_drewN | apply below_drew1 | refine below_set ?_ GE669.out) | exact HB.out)))); have n4_ := Aside0.mk (blk_below (g := gb669) (o := .cells #[.int .i64 t663, .int .i64 t664, .slice Ao16 t665.length co16] 29 (0, 0)) (by (with_reducible repeat (first | refine blk_drewN ?_ _ | refine blk_drew ?_ | refine blk_alloc ?_ _)); exact BK669.out) hb); have n5_ := Aside0.mk (below_step (by repeat (first | (with_reducible first | exact HB.out | apply below_alloc | apply pw_below_drewN | apply below_drew1 | refine below_set ?_ GE669.out) | exact HB.out)) hb); clear HO662; clear HO667; clear HO672; clear BK669; clear HB; have HO662 := n0_; have HO667 := n1_; have HO672 := n2_; have HO677 := n3_; have BK669 := n4_; have HB := n5_; clear n0_ n1_ n2_ n3_ n4_ n5_; (try clear hb); (try clear hb2); (try clear hk); (try clear hi); (try clear ho0)) | ((with_reducible refine gate_dst (N := 11) rfl ?_); refine box_event ?hg (N := 11) ?hd (cs := #[.int .i64 0, .int .i64 0, .slice none 0 0]) (t := 29) ?hr ?_; (case hd => rfl); (case hg => rfl); (case hr => first | (go_simp; done) | (go_simp; rfl)); intro gb679 hg w20 hbox hb; have n0_ := Aside0.mk (Kd.R_below (by (with_reducible repeat (first | apply Kd.R_alloc | apply Kd.R_drewN | apply Kd.R_drew)); exact HO662.out) hb); have n1_ := Aside0.mk (Kd.R_below (by (with_reducible repeat (first | apply Kd.R_alloc | apply Kd.R_drewN | apply Kd.R_drew)); exact HO667.out) hb); have n2_ := Aside0.mk (Kd.R_below (by (with_reducible repeat (first | apply Kd.R_alloc | apply Kd.R_drewN | apply Kd.R_drew)); exact HO672.out) hb); have n3_ := Aside0.mk (Kd.R_below (by (with_reducible repeat (first | apply Kd.R_alloc | apply Kd.R_drewN | apply Kd.R_drew)); exact HO677.out) hb); have n4_ := Aside0.mk (blk_below (g := gb669) (o := .cells #[.int .i64 t663, .int .i64 t664, .slice Ao16 t665.length co16] 29 (0, 0)) (by (with_reducible repeat (first | refine blk_drewN ?_ _ | refine blk_drew ?_ | refine blk_alloc ?_ _)); exact BK669.out) hb); have n5_ := Aside0.mk (below_step (by repeat (first | (with_reducible first | exact HB.out | apply below_alloc | apply pw_below_drewN | apply below_drew1 | refine below_set ?_ GE669.out) | exact HB.out)) hb); have n6_ := Aside0.mk (hbox); have n7_ := Aside0.mk ((by rw [hg]; exact (below_size (by repeat (first | (with_reducible first | exact HB.out | apply below_alloc | apply pw_below_drewN | apply below_drew1 | refine below_set ?_ GE669.out) | exact HB.out))) : w.heap.size ≤ gb679)); have n8_ := Aside0.mk ((by rw [hg]; exact (below_size (by repeat (first | (with_reducible first | exact HB.out | apply below_alloc | apply pw_below_drewN | apply below_drew1 | refine below_set ?_ GE669.out) | exact HB.out))) : w.heap.size ≤ gb679)); have n9_ := Aside0.mk ((by rw [hg]; exact Nat.ne_of_lt (blk_lt (g := gb669) (o := .cells #[.int .i64 t663, .int .i64 t664, .slice Ao16 t665.length co16] 29 (0, 0)) (by (with_reducible repeat (first | refine blk_drewN ?_ _ | refine blk_drew ?_ | refine blk_alloc ?_ _)); exact BK669.out)) : gb669 ≠ gb679)); have n10_ := Aside0.mk ((by rw [hg]; exact Nat.ne_of_gt (blk_lt (g := gb669) (o := .cells #[.int .i64 t663, .int .i64 t664, .slice Ao16 t665.length co16] 29 (0, 0)) (by (with_reducible repeat (first | refine blk_drewN ?_ _ | refine blk_drew ?_ | refine blk_alloc ?_ _)); exact BK669.out)) : gb679 ≠ gb669)); clear HO662; clear HO667; clear HO672; clear HO677; clear BK669; clear HB; have HO662 := n0_; have HO667 := n1_; have HO672 := n2_; have HO677 := n3_; have BK669 := n4_; have HB := n5_; have BK679 := n6_; have GW679 := n7_; have GE679 := n8_; have NB669_679 := n9_; have NB679_669 := n10_; clear n0_ n1_ n2_ n3_ n4_ n5_ n6_ n7_ n8_ n9_ n10_; clear hb hbox hg; have hnb21 := NB679_669.out; have hnc21 := NB669_679.out; have hcz22_0 : w20.cell? ⟨gb679, 0, none⟩ = some (.int .i64 0) := (blk_cell BK679.out 0).trans rfl; have hcz22_1 : w20.cell? ⟨gb679, 1, none⟩ = some (.int .i64 0) := (blk_cell BK679.out 1).trans rfl; have hcz22_2 : w20.cell? ⟨gb679, 2, none⟩ = some (.slice none 0 0) := (blk_cell BK679.out 2).trans rfl; have hfz22_0 := blk_frozen BK679.out 0; have hfz22_1 := blk_frozen BK679.out 1; have hfz22_2 := blk_frozen BK679.out 2; obtain ⟨Ao23, co23, eo23⟩ := Kd.R_slice HO677.out; subst eo23))
    (try simp only [Act.put, List.setIfInBounds_toArray, List.set_cons_zero, List.set_cons_succ])
    go_cut [48] (fun v48 wc => ∃ (kq : Nat) (x48_9 : Bool), v48 = .bool x48_9 ∧ Aside0 (laws_FnExactNewHealth.j0 kq a0 a1 l2 t668 t670 t678 x48_9 t663 t664 t665 t673 t674 t675 = some r) ∧ Aside0 (kq ≤ k) ∧ Aside0 (Kd.R Kd.string 9 wc w.heap.size (fun _ => True) (.slice Ao18 t670.length co18) t670) ∧ Aside0 (Kd.R k_Host 76 wc w.heap.size (fun k_ => some k_ ≠ ((.slice Ao23 t675.length co23) : Value).ownBlock) (.slice Ao16 t665.length co16) t665) ∧ Aside0 (Kd.R k_Host 76 wc w.heap.size (fun k_ => some k_ ≠ ((.slice Ao16 t665.length co16) : Value).ownBlock) (.slice Ao23 t675.length co23) t675) ∧ Aside0 (wc.heap[gb669]? = some (.cells #[.int .i64 t663, .int .i64 t664, (.slice Ao16 t665.length co16)] 29 (0, 0))) ∧ Aside0 (wc.heap[gb679]? = some (.cells #[.int .i64 t673, .int .i64 t674, (.slice Ao23 t675.length co23)] 29 (0, 0))) ∧ Aside0 (Below w.heap.size w wc))
    case first =>
      have H := HC10.out
      clear HC10
      replace H := Option.bind_eq_some_iff.mp H
      obtain ⟨t680, A240, H⟩ := H
      replace H : (if t680 = true then (laws_FnExactNewHealth.j0 k a0 a1 l2 t668 t670 t678 (t678 != t668) t663 t664 t665 t673 t674 t675) else (laws_FnExactNewHealth.j0 k a0 a1 l2 t668 t670 t678 true t663 t664 t665 t673 t674 t675)) = some r := H
      have A24 := Aside0.mk A240
      clear A240
      by_cases c25 : t680 = true
      · subst c25
        have H1 : (laws_FnExactNewHealth.j0 k a0 a1 l2 t668 t670 t678 (t678 != t668) t663 t664 t665 t673 t674 t675) = some r := by rw [if_pos rfl] at H; exact H
        clear H
        have H := H1
        clear H1
        have H' := Aside0.mk H
        clear H
        have hnb26 := NB679_669.out
        have hnc26 := NB669_679.out
        have hcz27_0 : w20.cell? ⟨gb679, 0, none⟩ = some (.int .i64 0) := (blk_cell BK679.out 0).trans rfl
        have hcz27_1 : w20.cell? ⟨gb679, 1, none⟩ = some (.int .i64 0) := (blk_cell BK679.out 1).trans rfl
        have hcz27_2 : w20.cell? ⟨gb679, 2, none⟩ = some (.slice none 0 0) := (blk_cell BK679.out 2).trans rfl
        have hfz27_0 := blk_frozen BK679.out 0
        have hfz27_1 := blk_frozen BK679.out 1
        have hfz27_2 := blk_frozen BK679.out 2
        have hcz28_0 : w20.cell? ⟨gb669, 0, none⟩ = some (.int .i64 t663) := (blk_cell BK669.out 0).trans rfl
        have hcz28_1 : w20.cell? ⟨gb669, 1, none⟩ = some (.int .i64 t664) := (blk_cell BK669.out 1).trans rfl
        have hcz28_2 : w20.cell? ⟨gb669, 2, none⟩ = some (.slice Ao16 t665.length co16) := (blk_cell BK669.out 2).trans rfl
        have hfz28_0 := blk_frozen BK669.out 0
        have hfz28_1 := blk_frozen BK669.out 1
        have hfz28_2 := blk_frozen BK669.out 2
        go_wp2_with (first | ((with_reducible refine gate_callee (f := 17) rfl ?_); refine goesL_ (some 42) rfl rfl Tryd.func17 (by kernel_rfl) rfl #[.agg #[.int .i64 t673, .int .i64 t674, .slice Ao23 t675.length co23], .agg #[.int .i64 t663, .int .i64 t664, .slice Ao16 t665.length co16]] rfl (by (try simp only [List.map_toArray, List.map_cons, List.map_nil]); first | done | rfl | (simp only [List.length_drop, List.length_take]; rfl)) ?_; (with_reducible refine (laws_eqHealth.calls k t673 t674 _ _ t675 t663 t664 _ _ t665 true _ ?side1 ?side2 ?side3 ?side4 A24.out).mono ?_); (case side1 => refine (Kd.R_reads' (e := 76) (base := w.heap.size) (ok := fun k_ => (True ∧ some k_ ≠ (.slice Ao16 t665.length co16 : Value).ownBlock)) (n := t675.length) (c := co23) ?_).2.2; exact (by (with_reducible repeat (first | apply Kd.R_alloc | apply Kd.R_drewN | apply Kd.R_drew)); exact (Kd.R_mono (Kd.R_far (p := ⟨gb679, 2, none⟩) (Kd.R_far (p := ⟨gb679, 1, none⟩) (Kd.R_far (p := ⟨gb679, 0, none⟩) (Kd.R_types HO677.out BK679.out (by decide)) (fun _ hk => hk.2) (.int .i64 t673)) (fun _ hk => hk.2) (.int .i64 t674)) (fun _ hk => hk.2) (.slice Ao23 t675.length co23)) (fun _ h_ => h_.1)))); (case side2 => exact (Kd.R_reads' HO677.out).2.1); (case side3 => refine (Kd.R_reads' (e := 76) (base := w.heap.size) (ok := fun k_ => (True ∧ some k_ ≠ (.slice Ao23 t675.length co23 : Value).ownBlock)) (n := t665.length) (c := co16) ?_).2.2; exact (by (with_reducible repeat (first | apply Kd.R_alloc | apply Kd.R_drewN | apply Kd.R_drew)); exact (Kd.R_mono (Kd.R_far (p := ⟨gb679, 2, none⟩) (Kd.R_far (p := ⟨gb679, 1, none⟩) (Kd.R_far (p := ⟨gb679, 0, none⟩) (Kd.R_types HO667.out BK679.out (by decide)) (fun _ hk => hk.2) (.int .i64 t673)) (fun _ hk => hk.2) (.int .i64 t674)) (fun _ hk => hk.2) (.slice Ao23 t675.length co23)) (fun _ h_ => h_.1)))); (case side4 => exact (Kd.R_reads' HO667.out).2.1); rintro e w29 ⟨rfl, hb⟩; refine ⟨_, rfl, ?_⟩; have n0_ := Aside0.mk (Kd.R_below (by (with_reducible repeat (first | apply Kd.R_alloc | apply Kd.R_drewN | apply Kd.R_drew)); exact (Kd.R_mono (Kd.R_far (p := ⟨gb679, 2, none⟩) (Kd.R_far (p := ⟨gb679, 1, none⟩) (Kd.R_far (p := ⟨gb679, 0, none⟩) (Kd.R_types HO662.out BK679.out (by decide)) (fun _ hk => hk.2) (.int .i64 t673)) (fun _ hk => hk.2) (.int .i64 t674)) (fun _ hk => hk.2) (.slice Ao23 t675.length co23)) (fun _ h_ => h_.1))) hb); have n1_ := Aside0.mk (Kd.R_below (by (with_reducible repeat (first | apply Kd.R_alloc | apply Kd.R_drewN | apply Kd.R_drew)); exact (Kd.R_mono (Kd.R_far (p := ⟨gb679, 2, none⟩) (Kd.R_far (p := ⟨gb679, 1, none⟩) (Kd.R_far (p := ⟨gb679, 0, none⟩) (Kd.R_types HO667.out BK679.out (by decide)) (fun _ hk => hk.2) (.int .i64 t673)) (fun _ hk => hk.2) (.int .i64 t674)) (fun _ hk => hk.2) (.slice Ao23 t675.length co23)) (fun _ h_ => h_.1))) hb); have n2_ := Aside0.mk (Kd.R_below (by (with_reducible repeat (first | apply Kd.R_alloc | apply Kd.R_drewN | apply Kd.R_drew)); exact (Kd.R_mono (Kd.R_far (p := ⟨gb679, 2, none⟩) (Kd.R_far (p := ⟨gb679, 1, none⟩) (Kd.R_far (p := ⟨gb679, 0, none⟩) (Kd.R_types HO672.out BK679.out (by decide)) (fun _ hk => hk.2) (.int .i64 t673)) (fun _ hk => hk.2) (.int .i64 t674)) (fun _ hk => hk.2) (.slice Ao23 t675.length co23)) (fun _ h_ => h_.1))) hb); have n3_ := Aside0.mk (Kd.R_below (by (with_reducible repeat (first | apply Kd.R_alloc | apply Kd.R_drewN | apply Kd.R_drew)); exact (Kd.R_mono (Kd.R_far (p := ⟨gb679, 2, none⟩) (Kd.R_far (p := ⟨gb679, 1, none⟩) (Kd.R_far (p := ⟨gb679, 0, none⟩) (Kd.R_types HO677.out BK679.out (by decide)) (fun _ hk => hk.2) (.int .i64 t673)) (fun _ hk => hk.2) (.int .i64 t674)) (fun _ hk => hk.2) (.slice Ao23 t675.length co23)) (fun _ h_ => h_.1))) hb); have n4_ := Aside0.mk (blk_below (g := gb669) (o := .cells #[.int .i64 t663, .int .i64 t664, .slice Ao16 t665.length co16] 29 (0, 0)) (by (with_reducible repeat (first | refine blk_drewN ?_ _ | refine blk_drew ?_ | refine blk_alloc ?_ _)); refine blk_far ?_ NB669_679.out _; (with_reducible repeat (first | refine blk_drewN ?_ _ | refine blk_drew ?_ | refine blk_alloc ?_ _)); refine blk_far ?_ NB669_679.out _; (with_reducible repeat (first | refine blk_drewN ?_ _ | refine blk_drew ?_ | refine blk_alloc ?_ _)); refine blk_far ?_ NB669_679.out _; (with_reducible repeat (first | refine blk_drewN ?_ _ | refine blk_drew ?_ | refine blk_alloc ?_ _)); exact BK669.out) hb); have n5_ := Aside0.mk (blk_below (g := gb679) (o := .cells #[.int .i64 t673, .int .i64 t674, .slice Ao23 t675.length co23] 29 (0, 0)) (by (with_reducible repeat (first | refine blk_drewN ?_ _ | refine blk_drew ?_ | refine blk_alloc ?_ _)); refine blk_put (cs := #[.int .i64 t673, .int .i64 t674, .slice none 0 0]) ?_ 2 _ rfl; (with_reducible repeat (first | refine blk_drewN ?_ _ | refine blk_drew ?_ | refine blk_alloc ?_ _)); refine blk_put (cs := #[.int .i64 t673, .int .i64 0, .slice none 0 0]) ?_ 1 _ rfl; (with_reducible repeat (first | refine blk_drewN ?_ _ | refine blk_drew ?_ | refine blk_alloc ?_ _)); refine blk_put (cs := #[.int .i64 0, .int .i64 0, .slice none 0 0]) ?_ 0 _ rfl; (with_reducible repeat (first | refine blk_drewN ?_ _ | refine blk_drew ?_ | refine blk_alloc ?_ _)); exact BK679.out) hb); have n6_ := Aside0.mk (below_step (by repeat (first | (with_reducible first | exact HB.out | apply below_alloc | apply pw_below_drewN | apply below_drew1 | refine below_set ?_ GE669.out | refine below_set ?_ GE679.out) | exact HB.out)) hb); clear HO662; clear HO667; clear HO672; clear HO677; clear BK669; clear BK679; clear HB; have HO662 := n0_; have HO667 := n1_; have HO672 := n2_; have HO677 := n3_; have BK669 := n4_; have BK679 := n5_; have HB := n6_; clear n0_ n1_ n2_ n3_ n4_ n5_ n6_; (try clear hb); (try clear hb2); (try clear hk); (try clear hi)))
        go_meet
        case rel => exact ⟨_, ((t678 != t668)), (by first | rfl | (simp; done) | (simp [*]; done)), H', ⟨by first | omega | exact Nat.le_refl _⟩, ⟨by (with_reducible repeat (first | apply Kd.R_alloc | apply Kd.R_drewN | apply Kd.R_drew)); exact Kd.R_mono HO672.out (fun _ hk => trivial)⟩, ⟨by (with_reducible repeat (first | apply Kd.R_alloc | apply Kd.R_drewN | apply Kd.R_drew)); exact Kd.R_mono HO667.out (fun _ hk => hk.2)⟩, ⟨by (with_reducible repeat (first | apply Kd.R_alloc | apply Kd.R_drewN | apply Kd.R_drew)); exact Kd.R_mono HO677.out (fun _ hk => hk.2)⟩, ⟨by (with_reducible repeat (first | refine blk_drewN ?_ _ | refine blk_drew ?_ | refine blk_alloc ?_ _)); exact BK669.out⟩, ⟨by (with_reducible repeat (first | refine blk_drewN ?_ _ | refine blk_drew ?_ | refine blk_alloc ?_ _)); exact BK679.out⟩, ⟨by repeat (first | (with_reducible first | exact HB.out | apply below_alloc | apply pw_below_drewN | apply below_drew1 | refine below_set ?_ GE669.out | refine below_set ?_ GE679.out) | exact HB.out)⟩⟩
      · replace c25 := Bool.eq_false_iff.mpr c25
        subst c25
        have H1 : (laws_FnExactNewHealth.j0 k a0 a1 l2 t668 t670 t678 true t663 t664 t665 t673 t674 t675) = some r := by rw [if_neg (show ¬ (false = true) by decide)] at H; exact H
        clear H
        have H := H1
        clear H1
        have H' := Aside0.mk H
        clear H
        have hnb30 := NB679_669.out
        have hnc30 := NB669_679.out
        have hcz31_0 : w20.cell? ⟨gb679, 0, none⟩ = some (.int .i64 0) := (blk_cell BK679.out 0).trans rfl
        have hcz31_1 : w20.cell? ⟨gb679, 1, none⟩ = some (.int .i64 0) := (blk_cell BK679.out 1).trans rfl
        have hcz31_2 : w20.cell? ⟨gb679, 2, none⟩ = some (.slice none 0 0) := (blk_cell BK679.out 2).trans rfl
        have hfz31_0 := blk_frozen BK679.out 0
        have hfz31_1 := blk_frozen BK679.out 1
        have hfz31_2 := blk_frozen BK679.out 2
        have hcz32_0 : w20.cell? ⟨gb669, 0, none⟩ = some (.int .i64 t663) := (blk_cell BK669.out 0).trans rfl
        have hcz32_1 : w20.cell? ⟨gb669, 1, none⟩ = some (.int .i64 t664) := (blk_cell BK669.out 1).trans rfl
        have hcz32_2 : w20.cell? ⟨gb669, 2, none⟩ = some (.slice Ao16 t665.length co16) := (blk_cell BK669.out 2).trans rfl
        have hfz32_0 := blk_frozen BK669.out 0
        have hfz32_1 := blk_frozen BK669.out 1
        have hfz32_2 := blk_frozen BK669.out 2
        go_wp2_with (first | ((with_reducible refine gate_callee (f := 17) rfl ?_); refine goesL_ (some 42) rfl rfl Tryd.func17 (by kernel_rfl) rfl #[.agg #[.int .i64 t673, .int .i64 t674, .slice Ao23 t675.length co23], .agg #[.int .i64 t663, .int .i64 t664, .slice Ao16 t665.length co16]] rfl (by (try simp only [List.map_toArray, List.map_cons, List.map_nil]); first | done | rfl | (simp only [List.length_drop, List.length_take]; rfl)) ?_; (with_reducible refine (laws_eqHealth.calls k t673 t674 _ _ t675 t663 t664 _ _ t665 false _ ?side1 ?side2 ?side3 ?side4 A24.out).mono ?_); (case side1 => refine (Kd.R_reads' (e := 76) (base := w.heap.size) (ok := fun k_ => (True ∧ some k_ ≠ (.slice Ao16 t665.length co16 : Value).ownBlock)) (n := t675.length) (c := co23) ?_).2.2; exact (by (with_reducible repeat (first | apply Kd.R_alloc | apply Kd.R_drewN | apply Kd.R_drew)); exact (Kd.R_mono (Kd.R_far (p := ⟨gb679, 2, none⟩) (Kd.R_far (p := ⟨gb679, 1, none⟩) (Kd.R_far (p := ⟨gb679, 0, none⟩) (Kd.R_types HO677.out BK679.out (by decide)) (fun _ hk => hk.2) (.int .i64 t673)) (fun _ hk => hk.2) (.int .i64 t674)) (fun _ hk => hk.2) (.slice Ao23 t675.length co23)) (fun _ h_ => h_.1)))); (case side2 => exact (Kd.R_reads' HO677.out).2.1); (case side3 => refine (Kd.R_reads' (e := 76) (base := w.heap.size) (ok := fun k_ => (True ∧ some k_ ≠ (.slice Ao23 t675.length co23 : Value).ownBlock)) (n := t665.length) (c := co16) ?_).2.2; exact (by (with_reducible repeat (first | apply Kd.R_alloc | apply Kd.R_drewN | apply Kd.R_drew)); exact (Kd.R_mono (Kd.R_far (p := ⟨gb679, 2, none⟩) (Kd.R_far (p := ⟨gb679, 1, none⟩) (Kd.R_far (p := ⟨gb679, 0, none⟩) (Kd.R_types HO667.out BK679.out (by decide)) (fun _ hk => hk.2) (.int .i64 t673)) (fun _ hk => hk.2) (.int .i64 t674)) (fun _ hk => hk.2) (.slice Ao23 t675.length co23)) (fun _ h_ => h_.1)))); (case side4 => exact (Kd.R_reads' HO667.out).2.1); rintro e w33 ⟨rfl, hb⟩; refine ⟨_, rfl, ?_⟩; have n0_ := Aside0.mk (Kd.R_below (by (with_reducible repeat (first | apply Kd.R_alloc | apply Kd.R_drewN | apply Kd.R_drew)); exact (Kd.R_mono (Kd.R_far (p := ⟨gb679, 2, none⟩) (Kd.R_far (p := ⟨gb679, 1, none⟩) (Kd.R_far (p := ⟨gb679, 0, none⟩) (Kd.R_types HO662.out BK679.out (by decide)) (fun _ hk => hk.2) (.int .i64 t673)) (fun _ hk => hk.2) (.int .i64 t674)) (fun _ hk => hk.2) (.slice Ao23 t675.length co23)) (fun _ h_ => h_.1))) hb); have n1_ := Aside0.mk (Kd.R_below (by (with_reducible repeat (first | apply Kd.R_alloc | apply Kd.R_drewN | apply Kd.R_drew)); exact (Kd.R_mono (Kd.R_far (p := ⟨gb679, 2, none⟩) (Kd.R_far (p := ⟨gb679, 1, none⟩) (Kd.R_far (p := ⟨gb679, 0, none⟩) (Kd.R_types HO667.out BK679.out (by decide)) (fun _ hk => hk.2) (.int .i64 t673)) (fun _ hk => hk.2) (.int .i64 t674)) (fun _ hk => hk.2) (.slice Ao23 t675.length co23)) (fun _ h_ => h_.1))) hb); have n2_ := Aside0.mk (Kd.R_below (by (with_reducible repeat (first | apply Kd.R_alloc | apply Kd.R_drewN | apply Kd.R_drew)); exact (Kd.R_mono (Kd.R_far (p := ⟨gb679, 2, none⟩) (Kd.R_far (p := ⟨gb679, 1, none⟩) (Kd.R_far (p := ⟨gb679, 0, none⟩) (Kd.R_types HO672.out BK679.out (by decide)) (fun _ hk => hk.2) (.int .i64 t673)) (fun _ hk => hk.2) (.int .i64 t674)) (fun _ hk => hk.2) (.slice Ao23 t675.length co23)) (fun _ h_ => h_.1))) hb); have n3_ := Aside0.mk (Kd.R_below (by (with_reducible repeat (first | apply Kd.R_alloc | apply Kd.R_drewN | apply Kd.R_drew)); exact (Kd.R_mono (Kd.R_far (p := ⟨gb679, 2, none⟩) (Kd.R_far (p := ⟨gb679, 1, none⟩) (Kd.R_far (p := ⟨gb679, 0, none⟩) (Kd.R_types HO677.out BK679.out (by decide)) (fun _ hk => hk.2) (.int .i64 t673)) (fun _ hk => hk.2) (.int .i64 t674)) (fun _ hk => hk.2) (.slice Ao23 t675.length co23)) (fun _ h_ => h_.1))) hb); have n4_ := Aside0.mk (blk_below (g := gb669) (o := .cells #[.int .i64 t663, .int .i64 t664, .slice Ao16 t665.length co16] 29 (0, 0)) (by (with_reducible repeat (first | refine blk_drewN ?_ _ | refine blk_drew ?_ | refine blk_alloc ?_ _)); refine blk_far ?_ NB669_679.out _; (with_reducible repeat (first | refine blk_drewN ?_ _ | refine blk_drew ?_ | refine blk_alloc ?_ _)); refine blk_far ?_ NB669_679.out _; (with_reducible repeat (first | refine blk_drewN ?_ _ | refine blk_drew ?_ | refine blk_alloc ?_ _)); refine blk_far ?_ NB669_679.out _; (with_reducible repeat (first | refine blk_drewN ?_ _ | refine blk_drew ?_ | refine blk_alloc ?_ _)); exact BK669.out) hb); have n5_ := Aside0.mk (blk_below (g := gb679) (o := .cells #[.int .i64 t673, .int .i64 t674, .slice Ao23 t675.length co23] 29 (0, 0)) (by (with_reducible repeat (first | refine blk_drewN ?_ _ | refine blk_drew ?_ | refine blk_alloc ?_ _)); refine blk_put (cs := #[.int .i64 t673, .int .i64 t674, .slice none 0 0]) ?_ 2 _ rfl; (with_reducible repeat (first | refine blk_drewN ?_ _ | refine blk_drew ?_ | refine blk_alloc ?_ _)); refine blk_put (cs := #[.int .i64 t673, .int .i64 0, .slice none 0 0]) ?_ 1 _ rfl; (with_reducible repeat (first | refine blk_drewN ?_ _ | refine blk_drew ?_ | refine blk_alloc ?_ _)); refine blk_put (cs := #[.int .i64 0, .int .i64 0, .slice none 0 0]) ?_ 0 _ rfl; (with_reducible repeat (first | refine blk_drewN ?_ _ | refine blk_drew ?_ | refine blk_alloc ?_ _)); exact BK679.out) hb); have n6_ := Aside0.mk (below_step (by repeat (first | (with_reducible first | exact HB.out | apply below_alloc | apply pw_below_drewN | apply below_drew1 | refine below_set ?_ GE669.out | refine below_set ?_ GE679.out) | exact HB.out)) hb); clear HO662; clear HO667; clear HO672; clear HO677; clear BK669; clear BK679; clear HB; have HO662 := n0_; have HO667 := n1_; have HO672 := n2_; have HO677 := n3_; have BK669 := n4_; have BK679 := n5_; have HB := n6_; clear n0_ n1_ n2_ n3_ n4_ n5_ n6_; (try clear hb); (try clear hb2); (try clear hk); (try clear hi)))
        go_meet
        case rel => exact ⟨_, (true), (by first | rfl | (simp; done) | (simp [*]; done)), H', ⟨by first | omega | exact Nat.le_refl _⟩, ⟨by (with_reducible repeat (first | apply Kd.R_alloc | apply Kd.R_drewN | apply Kd.R_drew)); exact Kd.R_mono HO672.out (fun _ hk => trivial)⟩, ⟨by (with_reducible repeat (first | apply Kd.R_alloc | apply Kd.R_drewN | apply Kd.R_drew)); exact Kd.R_mono HO667.out (fun _ hk => hk.2)⟩, ⟨by (with_reducible repeat (first | apply Kd.R_alloc | apply Kd.R_drewN | apply Kd.R_drew)); exact Kd.R_mono HO677.out (fun _ hk => hk.2)⟩, ⟨by (with_reducible repeat (first | refine blk_drewN ?_ _ | refine blk_drew ?_ | refine blk_alloc ?_ _)); exact BK669.out⟩, ⟨by (with_reducible repeat (first | refine blk_drewN ?_ _ | refine blk_drew ?_ | refine blk_alloc ?_ _)); exact BK679.out⟩, ⟨by repeat (first | (with_reducible first | exact HB.out | apply below_alloc | apply pw_below_drewN | apply below_drew1 | refine below_set ?_ GE669.out | refine below_set ?_ GE679.out) | exact HB.out)⟩⟩
    case rest =>
      clear HC10
      try clear c1
      try clear c2
      try clear p2
      try clear c3
      try clear c5
      try clear c5b0
      try clear c7
      try clear c17
      try clear c21
      try clear c25
      try clear c26
      try clear c27
      try clear c28
      try clear c29
      try clear c30
      try clear hcz15_0
      try clear hcz15_1
      try clear hcz15_2
      try clear hcz22_0
      try clear hcz22_1
      try clear hcz22_2
      try clear hcz27_0
      try clear hcz27_1
      try clear hcz27_2
      try clear hcz28_0
      try clear hcz28_1
      try clear hcz28_2
      try clear hcz31_0
      try clear hcz31_1
      try clear hcz31_2
      try clear hcz32_0
      try clear hcz32_1
      try clear hcz32_2
      try clear hfz15_0
      try clear hfz15_1
      try clear hfz15_2
      try clear hfz22_0
      try clear hfz22_1
      try clear hfz22_2
      try clear hfz27_0
      try clear hfz27_1
      try clear hfz27_2
      try clear hfz28_0
      try clear hfz28_1
      try clear hfz28_2
      try clear hfz31_0
      try clear hfz31_1
      try clear hfz31_2
      try clear hfz32_0
      try clear hfz32_1
      try clear hfz32_2
      obtain ⟨kq, x48_9, rfl, HA, HJ9, HO_10, HO_670002, HO_680002, BK669, BK679, HB⟩ := hcut
      cases kq with
      | zero => exact absurd HA.out (by simp [laws_FnExactNewHealth.j0])
      | succ kj9 =>
        have H := HA.out
        clear HA
        simp only [laws_FnExactNewHealth.j0] at H
        by_cases c34 : x48_9 = true
        · subst c34
          have H1 : (some false) = some r := by rw [if_pos rfl] at H; exact H
          clear H
          have H := H1
          clear H1
          obtain rfl := Option.some.inj H
          go_wp2
          go_ret
          exact ⟨by first | rfl | (simp [errW_none, errW_some] <;> rfl) | (simp [*, errW_none, errW_some] <;> rfl), by repeat (first | (with_reducible first | exact HB.out | apply below_alloc | apply pw_below_drewN | apply below_drew1 | refine below_set ?_ GE669.out | refine below_set ?_ GE679.out) | exact HB.out)⟩
        · replace c34 := Bool.eq_false_iff.mpr c34
          subst c34
          have H1 : ((laws_toStringS.f kj9 l2).bind fun t681 => ((laws_eqStringS.f kj9 t670 t681).bind fun t684 => (if t684 = true then ((laws_markStringS.f kj9 t670 1).bind fun bt685 => (if bt685.1 < 0 then (laws_FnExactNewHealth.j1 kj9 a0 a1 l2 t668 true t663 t664 t665 t673 t674 t675) else ((laws_eqHealth.f kj9 t673 t674 t675 t663 t664 t665).bind fun t687 => (if t687 = true then (laws_FnExactNewHealth.j1 kj9 a0 a1 l2 t668 (t678 != t668) t663 t664 t665 t673 t674 t675) else (laws_FnExactNewHealth.j1 kj9 a0 a1 l2 t668 true t663 t664 t665 t673 t674 t675))))) else (some false)))) = some r := by rw [if_neg (show ¬ (false = true) by decide)] at H; exact H
          clear H
          have H := H1
          clear H1
          replace H := Option.bind_eq_some_iff.mp H
          obtain ⟨t681, A350, H⟩ := H
          replace H : ((laws_eqStringS.f kj9 t670 t681).bind fun t684 => (if t684 = true then ((laws_markStringS.f kj9 t670 1).bind fun bt685 => (if bt685.1 < 0 then (laws_FnExactNewHealth.j1 kj9 a0 a1 l2 t668 true t663 t664 t665 t673 t674 t675) else ((laws_eqHealth.f kj9 t673 t674 t675 t663 t664 t665).bind fun t687 => (if t687 = true then (laws_FnExactNewHealth.j1 kj9 a0 a1 l2 t668 (t678 != t668) t663 t664 t665 t673 t674 t675) else (laws_FnExactNewHealth.j1 kj9 a0 a1 l2 t668 true t663 t664 t665 t673 t674 t675))))) else (some false))) = some r := H
          have A35 := Aside0.mk A350
          clear A350
          replace H := Option.bind_eq_some_iff.mp H
          obtain ⟨t684, A360, H⟩ := H
          replace H : (if t684 = true then ((laws_markStringS.f kj9 t670 1).bind fun bt685 => (if bt685.1 < 0 then (laws_FnExactNewHealth.j1 kj9 a0 a1 l2 t668 true t663 t664 t665 t673 t674 t675) else ((laws_eqHealth.f kj9 t673 t674 t675 t663 t664 t665).bind fun t687 => (if t687 = true then (laws_FnExactNewHealth.j1 kj9 a0 a1 l2 t668 (t678 != t668) t663 t664 t665 t673 t674 t675) else (laws_FnExactNewHealth.j1 kj9 a0 a1 l2 t668 true t663 t664 t665 t673 t674 t675))))) else (some false)) = some r := H
          have A36 := Aside0.mk A360
          clear A360
          by_cases c37 : t684 = true
          · subst c37
            have H1 : ((laws_markStringS.f kj9 t670 1).bind fun bt685 => (if bt685.1 < 0 then (laws_FnExactNewHealth.j1 kj9 a0 a1 l2 t668 true t663 t664 t665 t673 t674 t675) else ((laws_eqHealth.f kj9 t673 t674 t675 t663 t664 t665).bind fun t687 => (if t687 = true then (laws_FnExactNewHealth.j1 kj9 a0 a1 l2 t668 (t678 != t668) t663 t664 t665 t673 t674 t675) else (laws_FnExactNewHealth.j1 kj9 a0 a1 l2 t668 true t663 t664 t665 t673 t674 t675))))) = some r := by rw [if_pos rfl] at H; exact H
            clear H
            have H := H1
            clear H1
            replace H := Option.bind_eq_some_iff.mp H
            obtain ⟨⟨t685, t686⟩, A380, H⟩ := H
            replace H : (if t685 < 0 then (laws_FnExactNewHealth.j1 kj9 a0 a1 l2 t668 true t663 t664 t665 t673 t674 t675) else ((laws_eqHealth.f kj9 t673 t674 t675 t663 t664 t665).bind fun t687 => (if t687 = true then (laws_FnExactNewHealth.j1 kj9 a0 a1 l2 t668 (t678 != t668) t663 t664 t665 t673 t674 t675) else (laws_FnExactNewHealth.j1 kj9 a0 a1 l2 t668 true t663 t664 t665 t673 t674 t675)))) = some r := H
            have A38 := Aside0.mk A380
            clear A380
            have HC39 := Aside0.mk H
            clear H
            go_upto_region 14 with (first | ((with_reducible refine gate_callee (f := 29) rfl ?_); refine goesL_ (some 51) rfl rfl Tryd.func29 (by kernel_rfl) rfl #[.slice A2 l2.length c2] rfl (by (try simp only [List.map_toArray, List.map_cons, List.map_nil]); first | done | rfl | (simp only [List.length_drop, List.length_take]; rfl)) ?_; (with_reducible refine (laws_toStringS.calls kj9 _ _ l2 t681 _ ?side1 ?side2 A35.out).mono ?_); (case side1 => repeat (first | exact (Kd.C_below HR2.out HB.out) | (with_reducible refine Kd.C_alloc ?_ _) | (with_reducible refine Kd.C_drewN ?_ _) | (with_reducible refine Kd.C_drew ?_))); (case side2 => exact HC2.out); rintro e w40 ⟨v682, rfl, ho0, hb⟩; refine ⟨_, rfl, ?_⟩; have n0_ := Aside0.mk (Kd.R_elder' (by (with_reducible repeat (first | apply Kd.R_alloc | apply Kd.R_drewN | apply Kd.R_drew)); exact HO_10.out) (Kd.R_base ho0) hb); have n1_ := Aside0.mk (Kd.R_below (by (with_reducible repeat (first | apply Kd.R_alloc | apply Kd.R_drewN | apply Kd.R_drew)); exact HO_670002.out) hb); have n2_ := Aside0.mk (Kd.R_below (by (with_reducible repeat (first | apply Kd.R_alloc | apply Kd.R_drewN | apply Kd.R_drew)); exact HO_680002.out) hb); have n3_ := Aside0.mk (Kd.R_lower (Kd.R_new' ho0 (Kd.R_lt (by (with_reducible repeat (first | apply Kd.R_alloc | apply Kd.R_drewN | apply Kd.R_drew)); exact HO_10.out))) (below_size (by repeat (first | (with_reducible first | exact HB.out | apply below_alloc | apply pw_below_drewN | apply below_drew1 | refine below_set ?_ GE669.out | refine below_set ?_ GE679.out) | exact HB.out)))); have n4_ := Aside0.mk (blk_below (g := gb669) (o := .cells #[.int .i64 t663, .int .i64 t664, .slice Ao16 t665.length co16] 29 (0, 0)) (by (with_reducible repeat (first | refine blk_drewN ?_ _ | refine blk_drew ?_ | refine blk_alloc ?_ _)); exact BK669.out) hb); have n5_ := Aside0.mk (blk_below (g := gb679) (o := .cells #[.int .i64 t673, .int .i64 t674, .slice Ao23 t675.length co23] 29 (0, 0)) (by (with_reducible repeat (first | refine blk_drewN ?_ _ | refine blk_drew ?_ | refine blk_alloc ?_ _)); exact BK679.out) hb); have n6_ := Aside0.mk (below_step (by repeat (first | (with_reducible first | exact HB.out | apply below_alloc | apply pw_below_drewN | apply below_drew1 | refine below_set ?_ GE669.out | refine below_set ?_ GE679.out) | exact HB.out)) hb); clear HO_10; clear HO_670002; clear HO_680002; clear BK669; clear BK679; clear HB; have HO_10 := n0_; have HO_670002 := n1_; have HO_680002 := n2_; have HO683 := n3_; have BK669 := n4_; have BK679 := n5_; have HB := n6_; clear n0_ n1_ n2_ n3_ n4_ n5_ n6_; (try clear hb); (try clear hb2); (try clear hk); (try clear hi); (try clear ho0); obtain ⟨Ao41, co41, eo41⟩ := Kd.R_slice HO683.out; subst eo41) | ((with_reducible refine gate_callee (f := 31) rfl ?_); refine goesL_ (some 52) rfl rfl Tryd.func31 (by kernel_rfl) rfl #[.slice Ao18 t670.length co18, .slice Ao41 t681.length co41] rfl (by (try simp only [List.map_toArray, List.map_cons, List.map_nil]); first | done | rfl | (simp only [List.length_drop, List.length_take]; rfl)) ?_; (with_reducible refine (laws_eqStringS.calls kj9 _ _ t670 _ _ t681 true _ ?side1 ?side2 ?side3 ?side4 A36.out).mono ?_); (case side1 => repeat (first | exact (Kd.R_reads' HO_10.out).2.2 | (with_reducible refine Kd.C_alloc ?_ _) | (with_reducible refine Kd.C_drewN ?_ _) | (with_reducible refine Kd.C_drew ?_))); (case side2 => exact (Kd.R_reads' HO_10.out).2.1); (case side3 => repeat (first | exact (Kd.R_reads' HO683.out).2.2 | (with_reducible refine Kd.C_alloc ?_ _) | (with_reducible refine Kd.C_drewN ?_ _) | (with_reducible refine Kd.C_drew ?_))); (case side4 => exact (Kd.R_reads' HO683.out).2.1); rintro e w' ⟨rfl, ⟨nd, rfl⟩⟩; refine ⟨_, rfl, ?_⟩) | ((with_reducible refine gate_callee (f := 32) rfl ?_); refine goesL_ (some 56) rfl rfl Tryd.func32 (by kernel_rfl) rfl #[.slice Ao18 t670.length co18, .int .i64 1] rfl (by (try simp only [List.map_toArray, List.map_cons, List.map_nil]); first | done | rfl | (simp only [List.length_drop, List.length_take]; rfl)) ?_; (with_reducible refine (laws_markStringS.calls kj9 (fun k_ => some k_ = (.slice Ao18 t670.length co18 : Value).ownBlock) (.slice Ao18 t670.length co18) t670 1 t685 t686 w _ ?side1 ?side2 A38.out).mono ?_); (case side1 => repeat (first | (with_reducible first | exact HB.out | apply below_alloc | apply pw_below_drewN | apply below_drew1 | refine below_set ?_ GE669.out | refine below_set ?_ GE679.out) | exact HB.out)); (case side2 => exact Kd.R_tight rfl HO_10.out); rintro e w42 ⟨rfl, hy0, hb, hkp⟩; refine ⟨_, rfl, ?_⟩; have n0_ := Aside0.mk (Kd.R_reok rfl hy0 (fun k_ e_ => HO_10.out.1 k_ e_)); have n1_ := Aside0.mk (Kd.R_mono (ok' := fun k_ => some k_ ≠ (.slice Ao23 t675.length co23 : Value).ownBlock) (Kd.R_keptB ((Kd.R_apart' HO_670002.out (Kd.R_typed HO_10.out) (by decide))) hkp (fun k_ hk_ hs_ => (hk_.2) hs_)) (fun k_ hk_ => hk_.1.1)); have n2_ := Aside0.mk (Kd.R_mono (ok' := fun k_ => some k_ ≠ (.slice Ao16 t665.length co16 : Value).ownBlock) (Kd.R_keptB ((Kd.R_apart' HO_680002.out (Kd.R_typed HO_10.out) (by decide))) hkp (fun k_ hk_ hs_ => (hk_.2) hs_)) (fun k_ hk_ => hk_.1.1)); have n3_ := Aside0.mk (blk_kept (by (with_reducible repeat (first | refine blk_drewN ?_ _ | refine blk_drew ?_ | refine blk_alloc ?_ _)); exact BK669.out) hkp (fun hs_ => (fun e_ => (Kd.R_ne HO_10.out BK669.out (by decide)) e_) hs_)); have n4_ := Aside0.mk (blk_kept (by (with_reducible repeat (first | refine blk_drewN ?_ _ | refine blk_drew ?_ | refine blk_alloc ?_ _)); exact BK679.out) hkp (fun hs_ => (fun e_ => (Kd.R_ne HO_10.out BK679.out (by decide)) e_) hs_)); have n5_ := Aside0.mk (Kd.R_mono (ok' := fun k_ => some k_ ≠ (.slice Ao18 t670.length co18 : Value).ownBlock) (Kd.R_keptB (HO683.out) hkp (fun k_ hk_ hs_ => (hk_.2) hs_)) (fun k_ hk_ => hk_.1.2)); have n6_ := Aside0.mk (hb); clear HO_10; clear HO_670002; clear HO_680002; clear BK669; clear BK679; clear HO683; clear HB; have HO_10 := n0_; have HO_670002 := n1_; have HO_680002 := n2_; have BK669 := n3_; have BK679 := n4_; have HO683 := n5_; have HB := n6_; clear n0_ n1_ n2_ n3_ n4_ n5_ n6_; (try clear hb); (try clear hkp); (try clear hy0)))
            (try simp only [Act.put, List.setIfInBounds_toArray, List.set_cons_zero, List.set_cons_succ])
            go_cut [69] (fun v69 wc => ∃ (kq : Nat) (x69_38 : Bool), v69 = .bool x69_38 ∧ Aside0 (laws_FnExactNewHealth.j1 kq a0 a1 l2 t668 x69_38 t663 t664 t665 t673 t674 t675 = some r) ∧ Aside0 (kq ≤ kj9) ∧ Aside0 (Kd.R k_Host 76 wc w.heap.size (fun k_ => some k_ ≠ ((.slice Ao23 t675.length co23) : Value).ownBlock) (.slice Ao16 t665.length co16) t665) ∧ Aside0 (Kd.R k_Host 76 wc w.heap.size (fun k_ => some k_ ≠ ((.slice Ao16 t665.length co16) : Value).ownBlock) (.slice Ao23 t675.length co23) t675) ∧ Aside0 (wc.heap[gb669]? = some (.cells #[.int .i64 t663, .int .i64 t664, (.slice Ao16 t665.length co16)] 29 (0, 0))) ∧ Aside0 (wc.heap[gb679]? = some (.cells #[.int .i64 t673, .int .i64 t674, (.slice Ao23 t675.length co23)] 29 (0, 0))) ∧ Aside0 (Below w.heap.size w wc))
            case first =>
              have H := HC39.out
              clear HC39
              by_cases c43 : t685 < 0
              · rw [if_pos c43] at H
                have c43b0 : decide (t685 < 0) = true := decide_eq_true c43
                clear c43
                (first | rw [c43b0] | (simp only [i64_w, i32_w]; rw [c43b0]) | skip)
                have H' := Aside0.mk H
                clear H
                go_wp2
                go_meet
                case rel => exact ⟨_, (true), (by first | rfl | (simp; done) | (simp [*]; done)), H', ⟨by have := HJ9.out; first | omega | exact Nat.le_refl _⟩, ⟨by (with_reducible repeat (first | apply Kd.R_alloc | apply Kd.R_drewN | apply Kd.R_drew)); exact HO_670002.out⟩, ⟨by (with_reducible repeat (first | apply Kd.R_alloc | apply Kd.R_drewN | apply Kd.R_drew)); exact HO_680002.out⟩, ⟨by (with_reducible repeat (first | refine blk_drewN ?_ _ | refine blk_drew ?_ | refine blk_alloc ?_ _)); exact BK669.out⟩, ⟨by (with_reducible repeat (first | refine blk_drewN ?_ _ | refine blk_drew ?_ | refine blk_alloc ?_ _)); exact BK679.out⟩, ⟨by repeat (first | (with_reducible first | exact HB.out | apply below_alloc | apply pw_below_drewN | apply below_drew1 | refine below_set ?_ GE669.out | refine below_set ?_ GE679.out) | exact HB.out)⟩⟩
              · rw [if_neg c43] at H
                have c43b0 : decide (t685 < 0) = false := decide_eq_false c43
                clear c43
                (first | rw [c43b0] | (simp only [i64_w, i32_w]; rw [c43b0]) | skip)
                replace H := Option.bind_eq_some_iff.mp H
                obtain ⟨t687, A440, H⟩ := H
                replace H : (if t687 = true then (laws_FnExactNewHealth.j1 kj9 a0 a1 l2 t668 (t678 != t668) t663 t664 t665 t673 t674 t675) else (laws_FnExactNewHealth.j1 kj9 a0 a1 l2 t668 true t663 t664 t665 t673 t674 t675)) = some r := H
                have A44 := Aside0.mk A440
                clear A440
                by_cases c45 : t687 = true
                · subst c45
                  have H1 : (laws_FnExactNewHealth.j1 kj9 a0 a1 l2 t668 (t678 != t668) t663 t664 t665 t673 t674 t675) = some r := by rw [if_pos rfl] at H; exact H
                  clear H
                  have H := H1
                  clear H1
                  have H' := Aside0.mk H
                  clear H
                  have hnb46 := NB679_669.out
                  have hnc46 := NB669_679.out
                  have hcz47_0 : w42.cell? ⟨gb679, 0, none⟩ = some (.int .i64 t673) := (blk_cell BK679.out 0).trans rfl
                  have hcz47_1 : w42.cell? ⟨gb679, 1, none⟩ = some (.int .i64 t674) := (blk_cell BK679.out 1).trans rfl
                  have hcz47_2 : w42.cell? ⟨gb679, 2, none⟩ = some (.slice Ao23 t675.length co23) := (blk_cell BK679.out 2).trans rfl
                  have hfz47_0 := blk_frozen BK679.out 0
                  have hfz47_1 := blk_frozen BK679.out 1
                  have hfz47_2 := blk_frozen BK679.out 2
                  have hcz48_0 : w42.cell? ⟨gb669, 0, none⟩ = some (.int .i64 t663) := (blk_cell BK669.out 0).trans rfl
                  have hcz48_1 : w42.cell? ⟨gb669, 1, none⟩ = some (.int .i64 t664) := (blk_cell BK669.out 1).trans rfl
                  have hcz48_2 : w42.cell? ⟨gb669, 2, none⟩ = some (.slice Ao16 t665.length co16) := (blk_cell BK669.out 2).trans rfl
                  have hfz48_0 := blk_frozen BK669.out 0
                  have hfz48_1 := blk_frozen BK669.out 1
                  have hfz48_2 := blk_frozen BK669.out 2
                  go_wp2_with (first | (go_at_call 17; (with_reducible refine (laws_eqHealth.calls kj9 t673 t674 _ _ t675 t663 t664 _ _ t665 true _ ?side1 ?side2 ?side3 ?side4 A44.out).mono ?_); (case side1 => repeat (first | exact (Kd.R_reads' HO_680002.out).2.2 | (with_reducible refine Kd.C_alloc ?_ _) | (with_reducible refine Kd.C_drewN ?_ _) | (with_reducible refine Kd.C_drew ?_))); (case side2 => exact (Kd.R_reads' HO_680002.out).2.1); (case side3 => repeat (first | exact (Kd.R_reads' HO_670002.out).2.2 | (with_reducible refine Kd.C_alloc ?_ _) | (with_reducible refine Kd.C_drewN ?_ _) | (with_reducible refine Kd.C_drew ?_))); (case side4 => exact (Kd.R_reads' HO_670002.out).2.1); rintro e w49 ⟨rfl, hb⟩; have n0_ := Aside0.mk (Kd.R_below (by (with_reducible repeat (first | apply Kd.R_alloc | apply Kd.R_drewN | apply Kd.R_drew)); exact HO_10.out) hb); have n1_ := Aside0.mk (Kd.R_below (by (with_reducible repeat (first | apply Kd.R_alloc | apply Kd.R_drewN | apply Kd.R_drew)); exact HO_670002.out) hb); have n2_ := Aside0.mk (Kd.R_below (by (with_reducible repeat (first | apply Kd.R_alloc | apply Kd.R_drewN | apply Kd.R_drew)); exact HO_680002.out) hb); have n3_ := Aside0.mk (Kd.R_below (by (with_reducible repeat (first | apply Kd.R_alloc | apply Kd.R_drewN | apply Kd.R_drew)); exact HO683.out) hb); have n4_ := Aside0.mk (blk_below (g := gb669) (o := .cells #[.int .i64 t663, .int .i64 t664, .slice Ao16 t665.length co16] 29 (0, 0)) (by (with_reducible repeat (first | refine blk_drewN ?_ _ | refine blk_drew ?_ | refine blk_alloc ?_ _)); exact BK669.out) hb); have n5_ := Aside0.mk (blk_below (g := gb679) (o := .cells #[.int .i64 t673, .int .i64 t674, .slice Ao23 t675.length co23] 29 (0, 0)) (by (with_reducible repeat (first | refine blk_drewN ?_ _ | refine blk_drew ?_ | refine blk_alloc ?_ _)); exact BK679.out) hb); have n6_ := Aside0.mk (below_step (by repeat (first | (with_reducible first | exact HB.out | apply below_alloc | apply pw_below_drewN | apply below_drew1 | refine below_set ?_ GE669.out | refine below_set ?_ GE679.out) | exact HB.out)) hb); clear HO_10; clear HO_670002; clear HO_680002; clear HO683; clear BK669; clear BK679; clear HB; have HO_10 := n0_; have HO_670002 := n1_; have HO_680002 := n2_; have HO683 := n3_; have BK669 := n4_; have BK679 := n5_; have HB := n6_; clear n0_ n1_ n2_ n3_ n4_ n5_ n6_; (try clear hb); (try clear hb2); (try clear hk); (try clear hi)))
                  go_meet
                  case rel => exact ⟨_, ((t678 != t668)), (by first | rfl | (simp; done) | (simp [*]; done)), H', ⟨by have := HJ9.out; first | omega | exact Nat.le_refl _⟩, ⟨by (with_reducible repeat (first | apply Kd.R_alloc | apply Kd.R_drewN | apply Kd.R_drew)); exact HO_670002.out⟩, ⟨by (with_reducible repeat (first | apply Kd.R_alloc | apply Kd.R_drewN | apply Kd.R_drew)); exact HO_680002.out⟩, ⟨by (with_reducible repeat (first | refine blk_drewN ?_ _ | refine blk_drew ?_ | refine blk_alloc ?_ _)); exact BK669.out⟩, ⟨by (with_reducible repeat (first | refine blk_drewN ?_ _ | refine blk_drew ?_ | refine blk_alloc ?_ _)); exact BK679.out⟩, ⟨by repeat (first | (with_reducible first | exact HB.out | apply below_alloc | apply pw_below_drewN | apply below_drew1 | refine below_set ?_ GE669.out | refine below_set ?_ GE679.out) | exact HB.out)⟩⟩
                · replace c45 := Bool.eq_false_iff.mpr c45
                  subst c45
                  have H1 : (laws_FnExactNewHealth.j1 kj9 a0 a1 l2 t668 true t663 t664 t665 t673 t674 t675) = some r := by rw [if_neg (show ¬ (false = true) by decide)] at H; exact H
                  clear H
                  have H := H1
                  clear H1
                  have H' := Aside0.mk H
                  clear H
                  have hnb50 := NB679_669.out
                  have hnc50 := NB669_679.out
                  have hcz51_0 : w42.cell? ⟨gb679, 0, none⟩ = some (.int .i64 t673) := (blk_cell BK679.out 0).trans rfl
                  have hcz51_1 : w42.cell? ⟨gb679, 1, none⟩ = some (.int .i64 t674) := (blk_cell BK679.out 1).trans rfl
                  have hcz51_2 : w42.cell? ⟨gb679, 2, none⟩ = some (.slice Ao23 t675.length co23) := (blk_cell BK679.out 2).trans rfl
                  have hfz51_0 := blk_frozen BK679.out 0
                  have hfz51_1 := blk_frozen BK679.out 1
                  have hfz51_2 := blk_frozen BK679.out 2
                  have hcz52_0 : w42.cell? ⟨gb669, 0, none⟩ = some (.int .i64 t663) := (blk_cell BK669.out 0).trans rfl
                  have hcz52_1 : w42.cell? ⟨gb669, 1, none⟩ = some (.int .i64 t664) := (blk_cell BK669.out 1).trans rfl
                  have hcz52_2 : w42.cell? ⟨gb669, 2, none⟩ = some (.slice Ao16 t665.length co16) := (blk_cell BK669.out 2).trans rfl
                  have hfz52_0 := blk_frozen BK669.out 0
                  have hfz52_1 := blk_frozen BK669.out 1
                  have hfz52_2 := blk_frozen BK669.out 2
                  go_wp2_with (first | (go_at_call 17; (with_reducible refine (laws_eqHealth.calls kj9 t673 t674 _ _ t675 t663 t664 _ _ t665 false _ ?side1 ?side2 ?side3 ?side4 A44.out).mono ?_); (case side1 => repeat (first | exact (Kd.R_reads' HO_680002.out).2.2 | (with_reducible refine Kd.C_alloc ?_ _) | (with_reducible refine Kd.C_drewN ?_ _) | (with_reducible refine Kd.C_drew ?_))); (case side2 => exact (Kd.R_reads' HO_680002.out).2.1); (case side3 => repeat (first | exact (Kd.R_reads' HO_670002.out).2.2 | (with_reducible refine Kd.C_alloc ?_ _) | (with_reducible refine Kd.C_drewN ?_ _) | (with_reducible refine Kd.C_drew ?_))); (case side4 => exact (Kd.R_reads' HO_670002.out).2.1); rintro e w53 ⟨rfl, hb⟩; have n0_ := Aside0.mk (Kd.R_below (by (with_reducible repeat (first | apply Kd.R_alloc | apply Kd.R_drewN | apply Kd.R_drew)); exact HO_10.out) hb); have n1_ := Aside0.mk (Kd.R_below (by (with_reducible repeat (first | apply Kd.R_alloc | apply Kd.R_drewN | apply Kd.R_drew)); exact HO_670002.out) hb); have n2_ := Aside0.mk (Kd.R_below (by (with_reducible repeat (first | apply Kd.R_alloc | apply Kd.R_drewN | apply Kd.R_drew)); exact HO_680002.out) hb); have n3_ := Aside0.mk (Kd.R_below (by (with_reducible repeat (first | apply Kd.R_alloc | apply Kd.R_drewN | apply Kd.R_drew)); exact HO683.out) hb); have n4_ := Aside0.mk (blk_below (g := gb669) (o := .cells #[.int .i64 t663, .int .i64 t664, .slice Ao16 t665.length co16] 29 (0, 0)) (by (with_reducible repeat (first | refine blk_drewN ?_ _ | refine blk_drew ?_ | refine blk_alloc ?_ _)); exact BK669.out) hb); have n5_ := Aside0.mk (blk_below (g := gb679) (o := .cells #[.int .i64 t673, .int .i64 t674, .slice Ao23 t675.length co23] 29 (0, 0)) (by (with_reducible repeat (first | refine blk_drewN ?_ _ | refine blk_drew ?_ | refine blk_alloc ?_ _)); exact BK679.out) hb); have n6_ := Aside0.mk (below_step (by repeat (first | (with_reducible first | exact HB.out | apply below_alloc | apply pw_below_drewN | apply below_drew1 | refine below_set ?_ GE669.out | refine below_set ?_ GE679.out) | exact HB.out)) hb); clear HO_10; clear HO_670002; clear HO_680002; clear HO683; clear BK669; clear BK679; clear HB; have HO_10 := n0_; have HO_670002 := n1_; have HO_680002 := n2_; have HO683 := n3_; have BK669 := n4_; have BK679 := n5_; have HB := n6_; clear n0_ n1_ n2_ n3_ n4_ n5_ n6_; (try clear hb); (try clear hb2); (try clear hk); (try clear hi)))
                  go_meet
                  case rel => exact ⟨_, (true), (by first | rfl | (simp; done) | (simp [*]; done)), H', ⟨by have := HJ9.out; first | omega | exact Nat.le_refl _⟩, ⟨by (with_reducible repeat (first | apply Kd.R_alloc | apply Kd.R_drewN | apply Kd.R_drew)); exact HO_670002.out⟩, ⟨by (with_reducible repeat (first | apply Kd.R_alloc | apply Kd.R_drewN | apply Kd.R_drew)); exact HO_680002.out⟩, ⟨by (with_reducible repeat (first | refine blk_drewN ?_ _ | refine blk_drew ?_ | refine blk_alloc ?_ _)); exact BK669.out⟩, ⟨by (with_reducible repeat (first | refine blk_drewN ?_ _ | refine blk_drew ?_ | refine blk_alloc ?_ _)); exact BK679.out⟩, ⟨by repeat (first | (with_reducible first | exact HB.out | apply below_alloc | apply pw_below_drewN | apply below_drew1 | refine below_set ?_ GE669.out | refine below_set ?_ GE679.out) | exact HB.out)⟩⟩
            case rest =>
              clear HC39
              try clear c1
              try clear c2
              try clear p2
              try clear c3
              try clear c4
              try clear c5
              try clear c5b0
              try clear c7
              try clear c17
              try clear c21
              try clear c25
              try clear c26
              try clear c27
              try clear c28
              try clear c29
              try clear c30
              try clear c31
              try clear c32
              try clear c34
              try clear c37
              try clear c43
              try clear c43b0
              try clear c45
              try clear c46
              try clear c50
              try clear hcz15_0
              try clear hcz15_1
              try clear hcz15_2
              try clear hcz22_0
              try clear hcz22_1
              try clear hcz22_2
              try clear hcz27_0
              try clear hcz27_1
              try clear hcz27_2
              try clear hcz28_0
              try clear hcz28_1
              try clear hcz28_2
              try clear hcz31_0
              try clear hcz31_1
              try clear hcz31_2
              try clear hcz32_0
              try clear hcz32_1
              try clear hcz32_2
              try clear hcz47_0
              try clear hcz47_1
              try clear hcz47_2
              try clear hcz48_0
              try clear hcz48_1
              try clear hcz48_2
              try clear hcz51_0
              try clear hcz51_1
              try clear hcz51_2
              try clear hcz52_0
              try clear hcz52_1
              try clear hcz52_2
              try clear hfz15_0
              try clear hfz15_1
              try clear hfz15_2
              try clear hfz22_0
              try clear hfz22_1
              try clear hfz22_2
              try clear hfz27_0
              try clear hfz27_1
              try clear hfz27_2
              try clear hfz28_0
              try clear hfz28_1
              try clear hfz28_2
              try clear hfz31_0
              try clear hfz31_1
              try clear hfz31_2
              try clear hfz32_0
              try clear hfz32_1
              try clear hfz32_2
              try clear hfz47_0
              try clear hfz47_1
              try clear hfz47_2
              try clear hfz48_0
              try clear hfz48_1
              try clear hfz48_2
              try clear hfz51_0
              try clear hfz51_1
              try clear hfz51_2
              try clear hfz52_0
              try clear hfz52_1
              try clear hfz52_2
              try clear p2
              obtain ⟨kq, x69_38, rfl, HA, HJ38, HO_670002, HO_680002, BK669, BK679, HB⟩ := hcut
              cases kq with
              | zero => exact absurd HA.out (by simp [laws_FnExactNewHealth.j1])
              | succ kj38 =>
                have H := HA.out
                clear HA
                simp only [laws_FnExactNewHealth.j1] at H
                by_cases c54 : x69_38 = true
                · subst c54
                  have H1 : (some false) = some r := by rw [if_pos rfl] at H; exact H
                  clear H
                  have H := H1
                  clear H1
                  obtain rfl := Option.some.inj H
                  go_wp2
                  go_ret
                  exact ⟨by first | rfl | (simp [errW_none, errW_some] <;> rfl) | (simp [*, errW_none, errW_some] <;> rfl), by repeat (first | (with_reducible first | exact HB.out | apply below_alloc | apply pw_below_drewN | apply below_drew1 | refine below_set ?_ GE669.out | refine below_set ?_ GE679.out) | exact HB.out)⟩
                · replace c54 := Bool.eq_false_iff.mpr c54
                  subst c54
                  have H1 : ((laws_markHealth.f kj38 t673 t674 t675 1).bind fun bt688 => ((laws_heldHealth.f kj38 t673 t674 bt688.2 1).bind fun t690 => (if t690 < 0 then (some false) else (if t690 = bt688.1 then ((laws_toStringS.f kj38 l2).bind fun t691 => ((impl_NewHealth.f kj38 a0 a1 t691).bind fun bt694 => ((laws_eqHealth.f kj38 bt694.1 bt694.2.1 bt694.2.2.1 t663 t664 t665).bind fun t701 => (if t701 = true then (laws_FnExactNewHealth.j2 kj38 bt688.1 (bt694.2.2.2 != t668) t673 t674 bt688.2) else (laws_FnExactNewHealth.j2 kj38 bt688.1 true t673 t674 bt688.2))))) else (some false))))) = some r := by rw [if_neg (show ¬ (false = true) by decide)] at H; exact H
                  clear H
                  have H := H1
                  clear H1
                  replace H := Option.bind_eq_some_iff.mp H
                  obtain ⟨⟨t688, t689⟩, A550, H⟩ := H
                  replace H : ((laws_heldHealth.f kj38 t673 t674 t689 1).bind fun t690 => (if t690 < 0 then (some false) else (if t690 = t688 then ((laws_toStringS.f kj38 l2).bind fun t691 => ((impl_NewHealth.f kj38 a0 a1 t691).bind fun bt694 => ((laws_eqHealth.f kj38 bt694.1 bt694.2.1 bt694.2.2.1 t663 t664 t665).bind fun t701 => (if t701 = true then (laws_FnExactNewHealth.j2 kj38 t688 (bt694.2.2.2 != t668) t673 t674 t689) else (laws_FnExactNewHealth.j2 kj38 t688 true t673 t674 t689))))) else (some false)))) = some r := H
                  have A55 := Aside0.mk A550
                  clear A550
                  replace H := Option.bind_eq_some_iff.mp H
                  obtain ⟨t690, A560, H⟩ := H
                  replace H : (if t690 < 0 then (some false) else (if t690 = t688 then ((laws_toStringS.f kj38 l2).bind fun t691 => ((impl_NewHealth.f kj38 a0 a1 t691).bind fun bt694 => ((laws_eqHealth.f kj38 bt694.1 bt694.2.1 bt694.2.2.1 t663 t664 t665).bind fun t701 => (if t701 = true then (laws_FnExactNewHealth.j2 kj38 t688 (bt694.2.2.2 != t668) t673 t674 t689) else (laws_FnExactNewHealth.j2 kj38 t688 true t673 t674 t689))))) else (some false))) = some r := H
                  have A56 := Aside0.mk A560
                  clear A560
                  by_cases c57 : t690 < 0
                  · rw [if_pos c57] at H
                    have c57b0 : decide (t690 < 0) = true := decide_eq_true c57
                    clear c57
                    obtain rfl := Option.some.inj H
                    have hnb58 := NB679_669.out
                    have hnc58 := NB669_679.out
                    have hcz59_0 : wc.cell? ⟨gb679, 0, none⟩ = some (.int .i64 t673) := (blk_cell BK679.out 0).trans rfl
                    have hcz59_1 : wc.cell? ⟨gb679, 1, none⟩ = some (.int .i64 t674) := (blk_cell BK679.out 1).trans rfl
                    have hcz59_2 : wc.cell? ⟨gb679, 2, none⟩ = some (.slice Ao23 t675.length co23) := (blk_cell BK679.out 2).trans rfl
                    have hfz59_0 := blk_frozen BK679.out 0
                    have hfz59_1 := blk_frozen BK679.out 1
                    have hfz59_2 := blk_frozen BK679.out 2
                    go_wp2_with (first | ((with_reducible refine gate_callee (f := 33) rfl ?_); refine goesL_ (some 72) rfl rfl Tryd.func33 (by kernel_rfl) rfl #[.agg #[.int .i64 t673, .int .i64 t674, .slice Ao23 t675.length co23], .int .i64 1] rfl (by (try simp only [List.map_toArray, List.map_cons, List.map_nil]); first | done | rfl | (simp only [List.length_drop, List.length_take]; rfl)) ?_; (with_reducible refine (laws_markHealth.calls kj38 t673 t674 (fun k_ => some k_ = (.slice Ao23 t675.length co23 : Value).ownBlock) (.slice Ao23 t675.length co23) t675 1 t688 t689 w _ ?side1 ?side2 A55.out).mono ?_); (case side1 => repeat (first | (with_reducible first | exact HB.out | apply below_alloc | apply pw_below_drewN | apply below_drew1 | refine below_set ?_ GE669.out | refine below_set ?_ GE679.out) | exact HB.out)); (case side2 => exact Kd.R_tight rfl HO_680002.out); rintro e w60 ⟨rfl, hy0, hb, hkp⟩; refine ⟨_, rfl, ?_⟩; have n0_ := Aside0.mk (Kd.R_mono (ok' := fun k_ => some k_ ≠ (.slice Ao23 t675.length co23 : Value).ownBlock) (Kd.R_keptB (HO_670002.out) hkp (fun k_ hk_ hs_ => (hk_) hs_)) (fun k_ hk_ => hk_.1)); have n1_ := Aside0.mk (Kd.R_reok rfl hy0 (fun k_ e_ => HO_680002.out.1 k_ e_)); have n2_ := Aside0.mk (blk_kept (by (with_reducible repeat (first | refine blk_drewN ?_ _ | refine blk_drew ?_ | refine blk_alloc ?_ _)); exact BK669.out) hkp (fun hs_ => (fun e_ => (Kd.R_ne HO_680002.out BK669.out (by decide)) e_) hs_)); have n3_ := Aside0.mk (blk_kept (by (with_reducible repeat (first | refine blk_drewN ?_ _ | refine blk_drew ?_ | refine blk_alloc ?_ _)); exact BK679.out) hkp (fun hs_ => (fun e_ => (Kd.R_ne HO_680002.out BK679.out (by decide)) e_) hs_)); have n4_ := Aside0.mk (hb); clear HO_670002; clear HO_680002; clear BK669; clear BK679; clear HB; have HO_670002 := n0_; have HO_680002 := n1_; have BK669 := n2_; have BK679 := n3_; have HB := n4_; clear n0_ n1_ n2_ n3_ n4_; (try clear hb); (try clear hkp); (try clear hy0); have hcz61_0 : w60.cell? ⟨gb679, 0, none⟩ = some (.int .i64 t673) := (blk_cell BK679.out 0).trans rfl; have hcz61_1 : w60.cell? ⟨gb679, 1, none⟩ = some (.int .i64 t674) := (blk_cell BK679.out 1).trans rfl; have hcz61_2 : w60.cell? ⟨gb679, 2, none⟩ = some (.slice Ao23 t675.length co23) := (blk_cell BK679.out 2).trans rfl; have hfz61_0 := blk_frozen BK679.out 0; have hfz61_1 := blk_frozen BK679.out 1; have hfz61_2 := blk_frozen BK679.out 2) | ((with_reducible refine gate_callee (f := 34) rfl ?_); refine goesL_ (some 75) rfl rfl Tryd.func34 (by kernel_rfl) rfl #[.agg #[.int .i64 t673, .int .i64 t674, .slice Ao23 t689.length co23], .int .i64 1] rfl (by (try simp only [List.map_toArray, List.map_cons, List.map_nil]); first | done | (rw [show t689.length = t675.length from (Kd.R_reads' HO_680002.out).1.symm] <;> rfl) | rfl | (simp only [List.length_drop, List.length_take]; rfl)) ?_; (with_reducible refine (laws_heldHealth.calls kj38 t673 t674 _ _ t689 1 t690 _ ?side1 ?side2 A56.out).mono ?_); (case side1 => repeat (first | exact (Kd.R_reads' HO_680002.out).2.2 | (with_reducible refine Kd.C_alloc ?_ _) | (with_reducible refine Kd.C_drewN ?_ _) | (with_reducible refine Kd.C_drew ?_))); (case side2 => rw [show t689.length = t675.length from (Kd.R_reads' HO_680002.out).1.symm]; exact (Kd.R_reads' HO_680002.out).2.1); rintro e w62 ⟨rfl, hb⟩; refine ⟨_, rfl, ?_⟩; have n0_ := Aside0.mk (Kd.R_below (by (with_reducible repeat (first | apply Kd.R_alloc | apply Kd.R_drewN | apply Kd.R_drew)); exact HO_670002.out) hb); have n1_ := Aside0.mk (Kd.R_below (by (with_reducible repeat (first | apply Kd.R_alloc | apply Kd.R_drewN | apply Kd.R_drew)); exact HO_680002.out) hb); have n2_ := Aside0.mk (blk_below (g := gb669) (o := .cells #[.int .i64 t663, .int .i64 t664, .slice Ao16 t665.length co16] 29 (0, 0)) (by (with_reducible repeat (first | refine blk_drewN ?_ _ | refine blk_drew ?_ | refine blk_alloc ?_ _)); exact BK669.out) hb); have n3_ := Aside0.mk (blk_below (g := gb679) (o := .cells #[.int .i64 t673, .int .i64 t674, .slice Ao23 t675.length co23] 29 (0, 0)) (by (with_reducible repeat (first | refine blk_drewN ?_ _ | refine blk_drew ?_ | refine blk_alloc ?_ _)); exact BK679.out) hb); have n4_ := Aside0.mk (below_step (by repeat (first | (with_reducible first | exact HB.out | apply below_alloc | apply pw_below_drewN | apply below_drew1 | refine below_set ?_ GE669.out | refine below_set ?_ GE679.out) | exact HB.out)) hb); clear HO_670002; clear HO_680002; clear BK669; clear BK679; clear HB; have HO_670002 := n0_; have HO_680002 := n1_; have BK669 := n2_; have BK679 := n3_; have HB := n4_; clear n0_ n1_ n2_ n3_ n4_; (try clear hb); (try clear hb2); (try clear hk); (try clear hi)))
                    go_ret
                    exact ⟨by first | rfl | (simp [errW_none, errW_some] <;> rfl) | (simp [*, errW_none, errW_some] <;> rfl), by repeat (first | (with_reducible first | exact HB.out | apply below_alloc | apply pw_below_drewN | apply below_drew1 | refine below_set ?_ GE669.out | refine below_set ?_ GE679.out) | exact HB.out)⟩
                  · rw [if_neg c57] at H
                    have c57b0 : decide (t690 < 0) = false := decide_eq_false c57
                    clear c57
                    by_cases c63 : t690 = t688
                    · rw [if_pos c63] at H
                      have c63b0 : (t690 == t688) = true := beq_iff_eq.mpr c63
                      have c63b1 : (t690 != t688) = false := bne_eq_false_iff_eq.mpr c63
                      clear c63
                      replace H := Option.bind_eq_some_iff.mp H
                      obtain ⟨t691, A640, H⟩ := H
                      replace H : ((impl_NewHealth.f kj38 a0 a1 t691).bind fun bt694 => ((laws_eqHealth.f kj38 bt694.1 bt694.2.1 bt694.2.2.1 t663 t664 t665).bind fun t701 => (if t701 = true then (laws_FnExactNewHealth.j2 kj38 t688 (bt694.2.2.2 != t668) t673 t674 t689) else (laws_FnExactNewHealth.j2 kj38 t688 true t673 t674 t689)))) = some r := H
                      have A64 := Aside0.mk A640
                      clear A640
                      replace H := Option.bind_eq_some_iff.mp H
                      obtain ⟨⟨t694, t695, t696, t699⟩, A650, H⟩ := H
                      replace H : ((laws_eqHealth.f kj38 t694 t695 t696 t663 t664 t665).bind fun t701 => (if t701 = true then (laws_FnExactNewHealth.j2 kj38 t688 (t699 != t668) t673 t674 t689) else (laws_FnExactNewHealth.j2 kj38 t688 true t673 t674 t689))) = some r := H
                      have A65 := Aside0.mk A650
                      clear A650
                      have HC66 := Aside0.mk H
                      clear H
                      have hnb67 := NB679_669.out
                      have hnc67 := NB669_679.out
                      have hcz68_0 : wc.cell? ⟨gb679, 0, none⟩ = some (.int .i64 t673) := (blk_cell BK679.out 0).trans rfl
                      have hcz68_1 : wc.cell? ⟨gb679, 1, none⟩ = some (.int .i64 t674) := (blk_cell BK679.out 1).trans rfl
                      have hcz68_2 : wc.cell? ⟨gb679, 2, none⟩ = some (.slice Ao23 t675.length co23) := (blk_cell BK679.out 2).trans rfl
                      have hfz68_0 := blk_frozen BK679.out 0
                      have hfz68_1 := blk_frozen BK679.out 1
                      have hfz68_2 := blk_frozen BK679.out 2
                      go_upto_region 25 with (first | ((with_reducible refine gate_callee (f := 33) rfl ?_); refine goesL_ (some 72) rfl rfl Tryd.func33 (by kernel_rfl) rfl #[.agg #[.int .i64 t673, .int .i64 t674, .slice Ao23 t675.length co23], .int .i64 1] rfl (by (try simp only [List.map_toArray, List.map_cons, List.map_nil]); first | done | rfl | (simp only [List.length_drop, List.length_take]; rfl)) ?_; (with_reducible refine (laws_markHealth.calls kj38 t673 t674 (fun k_ => some k_ = (.slice Ao23 t675.length co23 : Value).ownBlock) (.slice Ao23 t675.length co23) t675 1 t688 t689 w _ ?side1 ?side2 A55.out).mono ?_); (case side1 => repeat (first | (with_reducible first | exact HB.out | apply below_alloc | apply pw_below_drewN | apply below_drew1 | refine below_set ?_ GE669.out | refine below_set ?_ GE679.out) | exact HB.out)); (case side2 => exact Kd.R_tight rfl HO_680002.out); rintro e w69 ⟨rfl, hy0, hb, hkp⟩; refine ⟨_, rfl, ?_⟩; have n0_ := Aside0.mk (Kd.R_mono (ok' := fun k_ => some k_ ≠ (.slice Ao23 t675.length co23 : Value).ownBlock) (Kd.R_keptB (HO_670002.out) hkp (fun k_ hk_ hs_ => (hk_) hs_)) (fun k_ hk_ => hk_.1)); have n1_ := Aside0.mk (Kd.R_reok rfl hy0 (fun k_ e_ => HO_680002.out.1 k_ e_)); have n2_ := Aside0.mk (blk_kept (by (with_reducible repeat (first | refine blk_drewN ?_ _ | refine blk_drew ?_ | refine blk_alloc ?_ _)); exact BK669.out) hkp (fun hs_ => (fun e_ => (Kd.R_ne HO_680002.out BK669.out (by decide)) e_) hs_)); have n3_ := Aside0.mk (blk_kept (by (with_reducible repeat (first | refine blk_drewN ?_ _ | refine blk_drew ?_ | refine blk_alloc ?_ _)); exact BK679.out) hkp (fun hs_ => (fun e_ => (Kd.R_ne HO_680002.out BK679.out (by decide)) e_) hs_)); have n4_ := Aside0.mk (hb); clear HO_670002; clear HO_680002; clear BK669; clear BK679; clear HB; have HO_670002 := n0_; have HO_680002 := n1_; have BK669 := n2_; have BK679 := n3_; have HB := n4_; clear n0_ n1_ n2_ n3_ n4_; (try clear hb); (try clear hkp); (try clear hy0); have hcz70_0 : w69.cell? ⟨gb679, 0, none⟩ = some (.int .i64 t673) := (blk_cell BK679.out 0).trans rfl; have hcz70_1 : w69.cell? ⟨gb679, 1, none⟩ = some (.int .i64 t674) := (blk_cell BK679.out 1).trans rfl; have hcz70_2 : w69.cell? ⟨gb679, 2, none⟩ = some (.slice Ao23 t675.length co23) := (blk_cell BK679.out 2).trans rfl; have hfz70_0 := blk_frozen BK679.out 0; have hfz70_1 := blk_frozen BK679.out 1; have hfz70_2 := blk_frozen BK679.out 2) | ((with_reducible refine gate_callee (f := 34) rfl ?_); refine goesL_ (some 75) rfl rfl Tryd.func34 (by kernel_rfl) rfl #[.agg #[.int .i64 t673, .int .i64 t674, .slice Ao23 t689.length co23], .int .i64 1] rfl (by (try simp only [List.map_toArray, List.map_cons, List.map_nil]); first | done | (rw [show t689.length = t675.length from (Kd.R_reads' HO_680002.out).1.symm] <;> rfl) | rfl | (simp only [List.length_drop, List.length_take]; rfl)) ?_; (with_reducible refine (laws_heldHealth.calls kj38 t673 t674 _ _ t689 1 t690 _ ?side1 ?side2 A56.out).mono ?_); (case side1 => repeat (first | exact (Kd.R_reads' HO_680002.out).2.2 | (with_reducible refine Kd.C_alloc ?_ _) | (with_reducible refine Kd.C_drewN ?_ _) | (with_reducible refine Kd.C_drew ?_))); (case side2 => rw [show t689.length = t675.length from (Kd.R_reads' HO_680002.out).1.symm]; exact (Kd.R_reads' HO_680002.out).2.1); rintro e w71 ⟨rfl, hb⟩; refine ⟨_, rfl, ?_⟩; have n0_ := Aside0.mk (Kd.R_below (by (with_reducible repeat (first | apply Kd.R_alloc | apply Kd.R_drewN | apply Kd.R_drew)); exact HO_670002.out) hb); have n1_ := Aside0.mk (Kd.R_below (by (with_reducible repeat (first | apply Kd.R_alloc | apply Kd.R_drewN | apply Kd.R_drew)); exact HO_680002.out) hb); have n2_ := Aside0.mk (blk_below (g := gb669) (o := .cells #[.int .i64 t663, .int .i64 t664, .slice Ao16 t665.length co16] 29 (0, 0)) (by (with_reducible repeat (first | refine blk_drewN ?_ _ | refine blk_drew ?_ | refine blk_alloc ?_ _)); exact BK669.out) hb); have n3_ := Aside0.mk (blk_below (g := gb679) (o := .cells #[.int .i64 t673, .int .i64 t674, .slice Ao23 t675.length co23] 29 (0, 0)) (by (with_reducible repeat (first | refine blk_drewN ?_ _ | refine blk_drew ?_ | refine blk_alloc ?_ _)); exact BK679.out) hb); have n4_ := Aside0.mk (below_step (by repeat (first | (with_reducible first | exact HB.out | apply below_alloc | apply pw_below_drewN | apply below_drew1 | refine below_set ?_ GE669.out | refine below_set ?_ GE679.out) | exact HB.out)) hb); clear HO_670002; clear HO_680002; clear BK669; clear BK679; clear HB; have HO_670002 := n0_; have HO_680002 := n1_; have BK669 := n2_; have BK679 := n3_; have HB := n4_; clear n0_ n1_ n2_ n3_ n4_; (try clear hb); (try clear hb2); (try clear hk); (try clear hi)) | ((with_reducible refine gate_callee (f := 29) rfl ?_); refine goesL_ (some 85) rfl rfl Tryd.func29 (by kernel_rfl) rfl #[.slice A2 l2.length c2] rfl (by (try simp only [List.map_toArray, List.map_cons, List.map_nil]); first | done | rfl | (simp only [List.length_drop, List.length_take]; rfl)) ?_; (with_reducible refine (laws_toStringS.calls kj38 _ _ l2 t691 _ ?side1 ?side2 A64.out).mono ?_); (case side1 => repeat (first | exact (Kd.C_below HR2.out HB.out) | (with_reducible refine Kd.C_alloc ?_ _) | (with_reducible refine Kd.C_drewN ?_ _) | (with_reducible refine Kd.C_drew ?_))); (case side2 => exact HC2.out); rintro e w72 ⟨v692, rfl, ho0, hb⟩; refine ⟨_, rfl, ?_⟩; have n0_ := Aside0.mk (Kd.R_below (by (with_reducible repeat (first | apply Kd.R_alloc | apply Kd.R_drewN | apply Kd.R_drew)); exact HO_670002.out) hb); have n1_ := Aside0.mk (Kd.R_below (by (with_reducible repeat (first | apply Kd.R_alloc | apply Kd.R_drewN | apply Kd.R_drew)); exact HO_680002.out) hb); have n2_ := Aside0.mk (Kd.R_lower ho0 (below_size (by repeat (first | (with_reducible first | exact HB.out | apply below_alloc | apply pw_below_drewN | apply below_drew1 | refine below_set ?_ GE669.out | refine below_set ?_ GE679.out) | exact HB.out)))); have n3_ := Aside0.mk (blk_below (g := gb669) (o := .cells #[.int .i64 t663, .int .i64 t664, .slice Ao16 t665.length co16] 29 (0, 0)) (by (with_reducible repeat (first | refine blk_drewN ?_ _ | refine blk_drew ?_ | refine blk_alloc ?_ _)); exact BK669.out) hb); have n4_ := Aside0.mk (blk_below (g := gb679) (o := .cells #[.int .i64 t673, .int .i64 t674, .slice Ao23 t675.length co23] 29 (0, 0)) (by (with_reducible repeat (first | refine blk_drewN ?_ _ | refine blk_drew ?_ | refine blk_alloc ?_ _)); exact BK679.out) hb); have n5_ := Aside0.mk (below_step (by repeat (first | (with_reducible first | exact HB.out | apply below_alloc | apply pw_below_drewN | apply below_drew1 | refine below_set ?_ GE669.out | refine below_set ?_ GE679.out) | exact HB.out)) hb); clear HO_670002; clear HO_680002; clear BK669; clear BK679; clear HB; have HO_670002 := n0_; have HO_680002 := n1_; have HO693 := n2_; have BK669 := n3_; have BK679 := n4_; have HB := n5_; clear n0_ n1_ n2_ n3_ n4_ n5_; (try clear hb); (try clear hb2); (try clear hk); (try clear hi); (try clear ho0); obtain ⟨Ao73, co73, eo73⟩ := Kd.R_slice HO693.out; subst eo73) | ((with_reducible refine gate_callee (f := 30) rfl ?_); refine goesL_ (some 86) rfl rfl Tryd.func30 (by kernel_rfl) rfl #[.int .i64 a0, .int .i64 a1, .slice Ao73 t691.length co73] rfl (by (try simp only [List.map_toArray, List.map_cons, List.map_nil]); first | done | rfl | (simp only [List.length_drop, List.length_take]; rfl)) ?_; (with_reducible refine (impl_NewHealth.calls kj38 a0 a1 _ _ t691 t694 t695 t696 t699 _ ?side1 ?side2 A65.out).mono ?_); (case side1 => repeat (first | exact (Kd.R_reads' HO693.out).2.2 | (with_reducible refine Kd.C_alloc ?_ _) | (with_reducible refine Kd.C_drewN ?_ _) | (with_reducible refine Kd.C_drew ?_))); (case side2 => exact (Kd.R_reads' HO693.out).2.1); rintro e w74 ⟨v697, rfl, ho0, hb⟩; refine ⟨_, rfl, ?_⟩; have n0_ := Aside0.mk (Kd.R_elder' (by (with_reducible repeat (first | apply Kd.R_alloc | apply Kd.R_drewN | apply Kd.R_drew)); exact HO_670002.out) (Kd.R_base ho0) hb); have n1_ := Aside0.mk (Kd.R_elder' (by (with_reducible repeat (first | apply Kd.R_alloc | apply Kd.R_drewN | apply Kd.R_drew)); exact HO_680002.out) (Kd.R_base ho0) hb); have n2_ := Aside0.mk (Kd.R_below (by (with_reducible repeat (first | apply Kd.R_alloc | apply Kd.R_drewN | apply Kd.R_drew)); exact HO693.out) hb); have n3_ := Aside0.mk (Kd.R_lower (Kd.R_new' (Kd.R_new' ho0 (Kd.R_lt (by (with_reducible repeat (first | apply Kd.R_alloc | apply Kd.R_drewN | apply Kd.R_drew)); exact HO_670002.out))) (Kd.R_lt (by (with_reducible repeat (first | apply Kd.R_alloc | apply Kd.R_drewN | apply Kd.R_drew)); exact HO_680002.out))) (below_size (by repeat (first | (with_reducible first | exact HB.out | apply below_alloc | apply pw_below_drewN | apply below_drew1 | refine below_set ?_ GE669.out | refine below_set ?_ GE679.out) | exact HB.out)))); have n4_ := Aside0.mk (blk_below (g := gb669) (o := .cells #[.int .i64 t663, .int .i64 t664, .slice Ao16 t665.length co16] 29 (0, 0)) (by (with_reducible repeat (first | refine blk_drewN ?_ _ | refine blk_drew ?_ | refine blk_alloc ?_ _)); exact BK669.out) hb); have n5_ := Aside0.mk (blk_below (g := gb679) (o := .cells #[.int .i64 t673, .int .i64 t674, .slice Ao23 t675.length co23] 29 (0, 0)) (by (with_reducible repeat (first | refine blk_drewN ?_ _ | refine blk_drew ?_ | refine blk_alloc ?_ _)); exact BK679.out) hb); have n6_ := Aside0.mk (below_step (by repeat (first | (with_reducible first | exact HB.out | apply below_alloc | apply pw_below_drewN | apply below_drew1 | refine below_set ?_ GE669.out | refine below_set ?_ GE679.out) | exact HB.out)) hb); clear HO_670002; clear HO_680002; clear HO693; clear BK669; clear BK679; clear HB; have HO_670002 := n0_; have HO_680002 := n1_; have HO693 := n2_; have HO698 := n3_; have BK669 := n4_; have BK679 := n5_; have HB := n6_; clear n0_ n1_ n2_ n3_ n4_ n5_ n6_; (try clear hb); (try clear hb2); (try clear hk); (try clear hi); (try clear ho0)) | ((with_reducible refine gate_dst (N := 16) rfl ?_); refine box_event ?hg (N := 16) ?hd (cs := #[.int .i64 0, .int .i64 0, .slice none 0 0]) (t := 29) ?hr ?_; (case hd => rfl); (case hg => rfl); (case hr => first | (go_simp; done) | (go_simp; rfl)); intro gb700 hg w75 hbox hb; have n0_ := Aside0.mk (Kd.R_below (by (with_reducible repeat (first | apply Kd.R_alloc | apply Kd.R_drewN | apply Kd.R_drew)); exact HO_670002.out) hb); have n1_ := Aside0.mk (Kd.R_below (by (with_reducible repeat (first | apply Kd.R_alloc | apply Kd.R_drewN | apply Kd.R_drew)); exact HO_680002.out) hb); have n2_ := Aside0.mk (Kd.R_below (by (with_reducible repeat (first | apply Kd.R_alloc | apply Kd.R_drewN | apply Kd.R_drew)); exact HO693.out) hb); have n3_ := Aside0.mk (Kd.R_below (by (with_reducible repeat (first | apply Kd.R_alloc | apply Kd.R_drewN | apply Kd.R_drew)); exact HO698.out) hb); have n4_ := Aside0.mk (blk_below (g := gb669) (o := .cells #[.int .i64 t663, .int .i64 t664, .slice Ao16 t665.length co16] 29 (0, 0)) (by (with_reducible repeat (first | refine blk_drewN ?_ _ | refine blk_drew ?_ | refine blk_alloc ?_ _)); exact BK669.out) hb); have n5_ := Aside0.mk (blk_below (g := gb679) (o := .cells #[.int .i64 t673, .int .i64 t674, .slice Ao23 t675.length co23] 29 (0, 0)) (by (with_reducible repeat (first | refine blk_drewN ?_ _ | refine blk_drew ?_ | refine blk_alloc ?_ _)); exact BK679.out) hb); have n6_ := Aside0.mk (below_step (by repeat (first | (with_reducible first | exact HB.out | apply below_alloc | apply pw_below_drewN | apply below_drew1 | refine below_set ?_ GE669.out | refine below_set ?_ GE679.out) | exact HB.out)) hb); have n7_ := Aside0.mk (hbox); have n8_ := Aside0.mk ((by rw [hg]; exact (below_size (by repeat (first | (with_reducible first | exact HB.out | apply below_alloc | apply pw_below_drewN | apply below_drew1 | refine below_set ?_ GE669.out | refine below_set ?_ GE679.out) | exact HB.out))) : w.heap.size ≤ gb700)); have n9_ := Aside0.mk ((by rw [hg]; exact (below_size (by repeat (first | (with_reducible first | exact HB.out | apply below_alloc | apply pw_below_drewN | apply below_drew1 | refine below_set ?_ GE669.out | refine below_set ?_ GE679.out) | exact HB.out))) : w.heap.size ≤ gb700)); have n10_ := Aside0.mk ((by rw [hg]; exact Nat.ne_of_lt (blk_lt (g := gb669) (o := .cells #[.int .i64 t663, .int .i64 t664, .slice Ao16 t665.length co16] 29 (0, 0)) (by (with_reducible repeat (first | refine blk_drewN ?_ _ | refine blk_drew ?_ | refine blk_alloc ?_ _)); exact BK669.out)) : gb669 ≠ gb700)); have n11_ := Aside0.mk ((by rw [hg]; exact Nat.ne_of_gt (blk_lt (g := gb669) (o := .cells #[.int .i64 t663, .int .i64 t664, .slice Ao16 t665.length co16] 29 (0, 0)) (by (with_reducible repeat (first | refine blk_drewN ?_ _ | refine blk_drew ?_ | refine blk_alloc ?_ _)); exact BK669.out)) : gb700 ≠ gb669)); have n12_ := Aside0.mk ((by rw [hg]; exact Nat.ne_of_lt (blk_lt (g := gb679) (o := .cells #[.int .i64 t673, .int .i64 t674, .slice Ao23 t675.length co23] 29 (0, 0)) (by (with_reducible repeat (first | refine blk_drewN ?_ _ | refine blk_drew ?_ | refine blk_alloc ?_ _)); exact BK679.out)) : gb679 ≠ gb700)); have n13_ := Aside0.mk ((by rw [hg]; exact Nat.ne_of_gt (blk_lt (g := gb679) (o := .cells #[.int .i64 t673, .int .i64 t674, .slice Ao23 t675.length co23] 29 (0, 0)) (by (with_reducible repeat (first | refine blk_drewN ?_ _ | refine blk_drew ?_ | refine blk_alloc ?_ _)); exact BK679.out)) : gb700 ≠ gb679)); clear HO_670002; clear HO_680002; clear HO693; clear HO698; clear BK669; clear BK679; clear HB; have HO_670002 := n0_; have HO_680002 := n1_; have HO693 := n2_; have HO698 := n3_; have BK669 := n4_; have BK679 := n5_; have HB := n6_; have BK700 := n7_; have GW700 := n8_; have GE700 := n9_; have NB669_700 := n10_; have NB700_669 := n11_; have NB679_700 := n12_; have NB700_679 := n13_; clear n0_ n1_ n2_ n3_ n4_ n5_ n6_ n7_ n8_ n9_ n10_ n11_ n12_ n13_; clear hb hbox hg; have hnb76 := NB700_669.out; have hnc76 := NB669_700.out; have hnb77 := NB700_679.out; have hnc77 := NB679_700.out; have hcz78_0 : w75.cell? ⟨gb700, 0, none⟩ = some (.int .i64 0) := (blk_cell BK700.out 0).trans rfl; have hcz78_1 : w75.cell? ⟨gb700, 1, none⟩ = some (.int .i64 0) := (blk_cell BK700.out 1).trans rfl; have hcz78_2 : w75.cell? ⟨gb700, 2, none⟩ = some (.slice none 0 0) := (blk_cell BK700.out 2).trans rfl; have hfz78_0 := blk_frozen BK700.out 0; have hfz78_1 := blk_frozen BK700.out 1; have hfz78_2 := blk_frozen BK700.out 2; obtain ⟨Ao79, co79, eo79⟩ := Kd.R_slice HO698.out; subst eo79))
                      (try simp only [Act.put, List.setIfInBounds_toArray, List.set_cons_zero, List.set_cons_succ])
                      go_cut [97] (fun v97 wc => ∃ (kq : Nat) (x97_65 : Bool), v97 = .bool x97_65 ∧ Aside0 (laws_FnExactNewHealth.j2 kq t688 x97_65 t673 t674 t689 = some r) ∧ Aside0 (kq ≤ kj38) ∧ Aside0 (Kd.R k_Host 76 wc w.heap.size (fun k_ => some k_ ≠ ((.slice Ao23 t675.length co23) : Value).ownBlock ∧ some k_ ≠ ((.slice Ao79 t696.length co79) : Value).ownBlock) (.slice Ao16 t665.length co16) t665) ∧ Aside0 (Kd.R k_Host 76 wc w.heap.size (fun k_ => some k_ ≠ ((.slice Ao16 t665.length co16) : Value).ownBlock ∧ some k_ ≠ ((.slice Ao79 t696.length co79) : Value).ownBlock) (.slice Ao23 t675.length co23) t689) ∧ Aside0 (Kd.R k_Host 76 wc w.heap.size (fun k_ => some k_ ≠ ((.slice Ao16 t665.length co16) : Value).ownBlock ∧ some k_ ≠ ((.slice Ao23 t675.length co23) : Value).ownBlock) (.slice Ao79 t696.length co79) t696) ∧ Aside0 (wc.heap[gb669]? = some (.cells #[.int .i64 t663, .int .i64 t664, (.slice Ao16 t665.length co16)] 29 (0, 0))) ∧ Aside0 (wc.heap[gb679]? = some (.cells #[.int .i64 t673, .int .i64 t674, (.slice Ao23 t675.length co23)] 29 (0, 0))) ∧ Aside0 (wc.heap[gb700]? = some (.cells #[.int .i64 t694, .int .i64 t695, (.slice Ao79 t696.length co79)] 29 (0, 0))) ∧ Aside0 (Below w.heap.size w wc))
                      case first =>
                        have H := HC66.out
                        clear HC66
                        replace H := Option.bind_eq_some_iff.mp H
                        obtain ⟨t701, A800, H⟩ := H
                        replace H : (if t701 = true then (laws_FnExactNewHealth.j2 kj38 t688 (t699 != t668) t673 t674 t689) else (laws_FnExactNewHealth.j2 kj38 t688 true t673 t674 t689)) = some r := H
                        have A80 := Aside0.mk A800
                        clear A800
                        by_cases c81 : t701 = true
                        · subst c81
                          have H1 : (laws_FnExactNewHealth.j2 kj38 t688 (t699 != t668) t673 t674 t689) = some r := by rw [if_pos rfl] at H; exact H
                          clear H
                          have H := H1
                          clear H1
                          have H' := Aside0.mk H
                          clear H
                          have hnb82 := NB700_669.out
                          have hnc82 := NB669_700.out
                          have hnb83 := NB700_679.out
                          have hnc83 := NB679_700.out
                          have hcz84_0 : w75.cell? ⟨gb700, 0, none⟩ = some (.int .i64 0) := (blk_cell BK700.out 0).trans rfl
                          have hcz84_1 : w75.cell? ⟨gb700, 1, none⟩ = some (.int .i64 0) := (blk_cell BK700.out 1).trans rfl
                          have hcz84_2 : w75.cell? ⟨gb700, 2, none⟩ = some (.slice none 0 0) := (blk_cell BK700.out 2).trans rfl
                          have hfz84_0 := blk_frozen BK700.out 0
                          have hfz84_1 := blk_frozen BK700.out 1
                          have hfz84_2 := blk_frozen BK700.out 2
                          have hnb85 := NB669_679.out
                          have hnc85 := NB679_669.out
                          have hcz86_0 : w75.cell? ⟨gb669, 0, none⟩ = some (.int .i64 t663) := (blk_cell BK669.out 0).trans rfl
                          have hcz86_1 : w75.cell? ⟨gb669, 1, none⟩ = some (.int .i64 t664) := (blk_cell BK669.out 1).trans rfl
                          have hcz86_2 : w75.cell? ⟨gb669, 2, none⟩ = some (.slice Ao16 t665.length co16) := (blk_cell BK669.out 2).trans rfl
                          have hfz86_0 := blk_frozen BK669.out 0
                          have hfz86_1 := blk_frozen BK669.out 1
                          have hfz86_2 := blk_frozen BK669.out 2
                          go_wp2_with (first | ((with_reducible refine gate_callee (f := 17) rfl ?_); refine goesL_ (some 91) rfl rfl Tryd.func17 (by kernel_rfl) rfl #[.agg #[.int .i64 t694, .int .i64 t695, .slice Ao79 t696.length co79], .agg #[.int .i64 t663, .int .i64 t664, .slice Ao16 t665.length co16]] rfl (by (try simp only [List.map_toArray, List.map_cons, List.map_nil]); first | done | rfl | (simp only [List.length_drop, List.length_take]; rfl)) ?_; (with_reducible refine (laws_eqHealth.calls kj38 t694 t695 _ _ t696 t663 t664 _ _ t665 true _ ?side1 ?side2 ?side3 ?side4 A80.out).mono ?_); (case side1 => refine (Kd.R_reads' (e := 76) (base := w.heap.size) (ok := fun k_ => ((True ∧ some k_ ≠ (.slice Ao16 t665.length co16 : Value).ownBlock) ∧ some k_ ≠ (.slice Ao23 t675.length co23 : Value).ownBlock)) (n := t696.length) (c := co79) ?_).2.2; exact (by (with_reducible repeat (first | apply Kd.R_alloc | apply Kd.R_drewN | apply Kd.R_drew)); exact (Kd.R_mono (Kd.R_far (p := ⟨gb700, 2, none⟩) (Kd.R_far (p := ⟨gb700, 1, none⟩) (Kd.R_far (p := ⟨gb700, 0, none⟩) (Kd.R_types HO698.out BK700.out (by decide)) (fun _ hk => hk.2) (.int .i64 t694)) (fun _ hk => hk.2) (.int .i64 t695)) (fun _ hk => hk.2) (.slice Ao79 t696.length co79)) (fun _ h_ => h_.1)))); (case side2 => exact (Kd.R_reads' HO698.out).2.1); (case side3 => refine (Kd.R_reads' (e := 76) (base := w.heap.size) (ok := fun k_ => (some k_ ≠ (.slice Ao23 t675.length co23 : Value).ownBlock ∧ some k_ ≠ (.slice Ao79 t696.length co79 : Value).ownBlock)) (n := t665.length) (c := co16) ?_).2.2; exact (by (with_reducible repeat (first | apply Kd.R_alloc | apply Kd.R_drewN | apply Kd.R_drew)); exact (Kd.R_mono (Kd.R_far (p := ⟨gb700, 2, none⟩) (Kd.R_far (p := ⟨gb700, 1, none⟩) (Kd.R_far (p := ⟨gb700, 0, none⟩) (Kd.R_types HO_670002.out BK700.out (by decide)) (fun _ hk => hk.2) (.int .i64 t694)) (fun _ hk => hk.2) (.int .i64 t695)) (fun _ hk => hk.2) (.slice Ao79 t696.length co79)) (fun _ h_ => h_.1)))); (case side4 => exact (Kd.R_reads' HO_670002.out).2.1); rintro e w87 ⟨rfl, hb⟩; refine ⟨_, rfl, ?_⟩; have n0_ := Aside0.mk (Kd.R_below (by (with_reducible repeat (first | apply Kd.R_alloc | apply Kd.R_drewN | apply Kd.R_drew)); exact (Kd.R_mono (Kd.R_far (p := ⟨gb700, 2, none⟩) (Kd.R_far (p := ⟨gb700, 1, none⟩) (Kd.R_far (p := ⟨gb700, 0, none⟩) (Kd.R_types HO_670002.out BK700.out (by decide)) (fun _ hk => hk.2) (.int .i64 t694)) (fun _ hk => hk.2) (.int .i64 t695)) (fun _ hk => hk.2) (.slice Ao79 t696.length co79)) (fun _ h_ => h_.1))) hb); have n1_ := Aside0.mk (Kd.R_below (by (with_reducible repeat (first | apply Kd.R_alloc | apply Kd.R_drewN | apply Kd.R_drew)); exact (Kd.R_mono (Kd.R_far (p := ⟨gb700, 2, none⟩) (Kd.R_far (p := ⟨gb700, 1, none⟩) (Kd.R_far (p := ⟨gb700, 0, none⟩) (Kd.R_types HO_680002.out BK700.out (by decide)) (fun _ hk => hk.2) (.int .i64 t694)) (fun _ hk => hk.2) (.int .i64 t695)) (fun _ hk => hk.2) (.slice Ao79 t696.length co79)) (fun _ h_ => h_.1))) hb); have n2_ := Aside0.mk (Kd.R_below (by (with_reducible repeat (first | apply Kd.R_alloc | apply Kd.R_drewN | apply Kd.R_drew)); exact (Kd.R_mono (Kd.R_far (p := ⟨gb700, 2, none⟩) (Kd.R_far (p := ⟨gb700, 1, none⟩) (Kd.R_far (p := ⟨gb700, 0, none⟩) (Kd.R_types HO693.out BK700.out (by decide)) (fun _ hk => hk.2) (.int .i64 t694)) (fun _ hk => hk.2) (.int .i64 t695)) (fun _ hk => hk.2) (.slice Ao79 t696.length co79)) (fun _ h_ => h_.1))) hb); have n3_ := Aside0.mk (Kd.R_below (by (with_reducible repeat (first | apply Kd.R_alloc | apply Kd.R_drewN | apply Kd.R_drew)); exact (Kd.R_mono (Kd.R_far (p := ⟨gb700, 2, none⟩) (Kd.R_far (p := ⟨gb700, 1, none⟩) (Kd.R_far (p := ⟨gb700, 0, none⟩) (Kd.R_types HO698.out BK700.out (by decide)) (fun _ hk => hk.2) (.int .i64 t694)) (fun _ hk => hk.2) (.int .i64 t695)) (fun _ hk => hk.2) (.slice Ao79 t696.length co79)) (fun _ h_ => h_.1))) hb); have n4_ := Aside0.mk (blk_below (g := gb669) (o := .cells #[.int .i64 t663, .int .i64 t664, .slice Ao16 t665.length co16] 29 (0, 0)) (by (with_reducible repeat (first | refine blk_drewN ?_ _ | refine blk_drew ?_ | refine blk_alloc ?_ _)); refine blk_far ?_ NB669_700.out _; (with_reducible repeat (first | refine blk_drewN ?_ _ | refine blk_drew ?_ | refine blk_alloc ?_ _)); refine blk_far ?_ NB669_700.out _; (with_reducible repeat (first | refine blk_drewN ?_ _ | refine blk_drew ?_ | refine blk_alloc ?_ _)); refine blk_far ?_ NB669_700.out _; (with_reducible repeat (first | refine blk_drewN ?_ _ | refine blk_drew ?_ | refine blk_alloc ?_ _)); exact BK669.out) hb); have n5_ := Aside0.mk (blk_below (g := gb679) (o := .cells #[.int .i64 t673, .int .i64 t674, .slice Ao23 t675.length co23] 29 (0, 0)) (by (with_reducible repeat (first | refine blk_drewN ?_ _ | refine blk_drew ?_ | refine blk_alloc ?_ _)); refine blk_far ?_ NB679_700.out _; (with_reducible repeat (first | refine blk_drewN ?_ _ | refine blk_drew ?_ | refine blk_alloc ?_ _)); refine blk_far ?_ NB679_700.out _; (with_reducible repeat (first | refine blk_drewN ?_ _ | refine blk_drew ?_ | refine blk_alloc ?_ _)); refine blk_far ?_ NB679_700.out _; (with_reducible repeat (first | refine blk_drewN ?_ _ | refine blk_drew ?_ | refine blk_alloc ?_ _)); exact BK679.out) hb); have n6_ := Aside0.mk (blk_below (g := gb700) (o := .cells #[.int .i64 t694, .int .i64 t695, .slice Ao79 t696.length co79] 29 (0, 0)) (by (with_reducible repeat (first | refine blk_drewN ?_ _ | refine blk_drew ?_ | refine blk_alloc ?_ _)); refine blk_put (cs := #[.int .i64 t694, .int .i64 t695, .slice none 0 0]) ?_ 2 _ rfl; (with_reducible repeat (first | refine blk_drewN ?_ _ | refine blk_drew ?_ | refine blk_alloc ?_ _)); refine blk_put (cs := #[.int .i64 t694, .int .i64 0, .slice none 0 0]) ?_ 1 _ rfl; (with_reducible repeat (first | refine blk_drewN ?_ _ | refine blk_drew ?_ | refine blk_alloc ?_ _)); refine blk_put (cs := #[.int .i64 0, .int .i64 0, .slice none 0 0]) ?_ 0 _ rfl; (with_reducible repeat (first | refine blk_drewN ?_ _ | refine blk_drew ?_ | refine blk_alloc ?_ _)); exact BK700.out) hb); have n7_ := Aside0.mk (below_step (by repeat (first | (with_reducible first | exact HB.out | apply below_alloc | apply pw_below_drewN | apply below_drew1 | refine below_set ?_ GE669.out | refine below_set ?_ GE679.out | refine below_set ?_ GE700.out) | exact HB.out)) hb); clear HO_670002; clear HO_680002; clear HO693; clear HO698; clear BK669; clear BK679; clear BK700; clear HB; have HO_670002 := n0_; have HO_680002 := n1_; have HO693 := n2_; have HO698 := n3_; have BK669 := n4_; have BK679 := n5_; have BK700 := n6_; have HB := n7_; clear n0_ n1_ n2_ n3_ n4_ n5_ n6_ n7_; (try clear hb); (try clear hb2); (try clear hk); (try clear hi)))
                          go_meet
                          case rel => exact ⟨_, ((t699 != t668)), (by first | rfl | (simp; done) | (simp [*]; done)), H', ⟨by have := HJ9.out; have := HJ38.out; first | omega | exact Nat.le_refl _⟩, ⟨by (with_reducible repeat (first | apply Kd.R_alloc | apply Kd.R_drewN | apply Kd.R_drew)); exact HO_670002.out⟩, ⟨by (with_reducible repeat (first | apply Kd.R_alloc | apply Kd.R_drewN | apply Kd.R_drew)); exact HO_680002.out⟩, ⟨by (with_reducible repeat (first | apply Kd.R_alloc | apply Kd.R_drewN | apply Kd.R_drew)); exact Kd.R_mono HO698.out (fun _ hk => ⟨hk.1.2, hk.2⟩)⟩, ⟨by (with_reducible repeat (first | refine blk_drewN ?_ _ | refine blk_drew ?_ | refine blk_alloc ?_ _)); exact BK669.out⟩, ⟨by (with_reducible repeat (first | refine blk_drewN ?_ _ | refine blk_drew ?_ | refine blk_alloc ?_ _)); exact BK679.out⟩, ⟨by (with_reducible repeat (first | refine blk_drewN ?_ _ | refine blk_drew ?_ | refine blk_alloc ?_ _)); exact BK700.out⟩, ⟨by repeat (first | (with_reducible first | exact HB.out | apply below_alloc | apply pw_below_drewN | apply below_drew1 | refine below_set ?_ GE669.out | refine below_set ?_ GE679.out | refine below_set ?_ GE700.out) | exact HB.out)⟩⟩
                        · replace c81 := Bool.eq_false_iff.mpr c81
                          subst c81
                          have H1 : (laws_FnExactNewHealth.j2 kj38 t688 true t673 t674 t689) = some r := by rw [if_neg (show ¬ (false = true) by decide)] at H; exact H
                          clear H
                          have H := H1
                          clear H1
                          have H' := Aside0.mk H
                          clear H
                          have hnb88 := NB700_669.out
                          have hnc88 := NB669_700.out
                          have hnb89 := NB700_679.out
                          have hnc89 := NB679_700.out
                          have hcz90_0 : w75.cell? ⟨gb700, 0, none⟩ = some (.int .i64 0) := (blk_cell BK700.out 0).trans rfl
                          have hcz90_1 : w75.cell? ⟨gb700, 1, none⟩ = some (.int .i64 0) := (blk_cell BK700.out 1).trans rfl
                          have hcz90_2 : w75.cell? ⟨gb700, 2, none⟩ = some (.slice none 0 0) := (blk_cell BK700.out 2).trans rfl
                          have hfz90_0 := blk_frozen BK700.out 0
                          have hfz90_1 := blk_frozen BK700.out 1
                          have hfz90_2 := blk_frozen BK700.out 2
                          have hnb91 := NB669_679.out
                          have hnc91 := NB679_669.out
                          have hcz92_0 : w75.cell? ⟨gb669, 0, none⟩ = some (.int .i64 t663) := (blk_cell BK669.out 0).trans rfl
                          have hcz92_1 : w75.cell? ⟨gb669, 1, none⟩ = some (.int .i64 t664) := (blk_cell BK669.out 1).trans rfl
                          have hcz92_2 : w75.cell? ⟨gb669, 2, none⟩ = some (.slice Ao16 t665.length co16) := (blk_cell BK669.out 2).trans rfl
                          have hfz92_0 := blk_frozen BK669.out 0
                          have hfz92_1 := blk_frozen BK669.out 1
                          have hfz92_2 := blk_frozen BK669.out 2
                          go_wp2_with (first | ((with_reducible refine gate_callee (f := 17) rfl ?_); refine goesL_ (some 91) rfl rfl Tryd.func17 (by kernel_rfl) rfl #[.agg #[.int .i64 t694, .int .i64 t695, .slice Ao79 t696.length co79], .agg #[.int .i64 t663, .int .i64 t664, .slice Ao16 t665.length co16]] rfl (by (try simp only [List.map_toArray, List.map_cons, List.map_nil]); first | done | rfl | (simp only [List.length_drop, List.length_take]; rfl)) ?_; (with_reducible refine (laws_eqHealth.calls kj38 t694 t695 _ _ t696 t663 t664 _ _ t665 false _ ?side1 ?side2 ?side3 ?side4 A80.out).mono ?_); (case side1 => refine (Kd.R_reads' (e := 76) (base := w.heap.size) (ok := fun k_ => ((True ∧ some k_ ≠ (.slice Ao16 t665.length co16 : Value).ownBlock) ∧ some k_ ≠ (.slice Ao23 t675.length co23 : Value).ownBlock)) (n := t696.length) (c := co79) ?_).2.2; exact (by (with_reducible repeat (first | apply Kd.R_alloc | apply Kd.R_drewN | apply Kd.R_drew)); exact (Kd.R_mono (Kd.R_far (p := ⟨gb700, 2, none⟩) (Kd.R_far (p := ⟨gb700, 1, none⟩) (Kd.R_far (p := ⟨gb700, 0, none⟩) (Kd.R_types HO698.out BK700.out (by decide)) (fun _ hk => hk.2) (.int .i64 t694)) (fun _ hk => hk.2) (.int .i64 t695)) (fun _ hk => hk.2) (.slice Ao79 t696.length co79)) (fun _ h_ => h_.1)))); (case side2 => exact (Kd.R_reads' HO698.out).2.1); (case side3 => refine (Kd.R_reads' (e := 76) (base := w.heap.size) (ok := fun k_ => (some k_ ≠ (.slice Ao23 t675.length co23 : Value).ownBlock ∧ some k_ ≠ (.slice Ao79 t696.length co79 : Value).ownBlock)) (n := t665.length) (c := co16) ?_).2.2; exact (by (with_reducible repeat (first | apply Kd.R_alloc | apply Kd.R_drewN | apply Kd.R_drew)); exact (Kd.R_mono (Kd.R_far (p := ⟨gb700, 2, none⟩) (Kd.R_far (p := ⟨gb700, 1, none⟩) (Kd.R_far (p := ⟨gb700, 0, none⟩) (Kd.R_types HO_670002.out BK700.out (by decide)) (fun _ hk => hk.2) (.int .i64 t694)) (fun _ hk => hk.2) (.int .i64 t695)) (fun _ hk => hk.2) (.slice Ao79 t696.length co79)) (fun _ h_ => h_.1)))); (case side4 => exact (Kd.R_reads' HO_670002.out).2.1); rintro e w93 ⟨rfl, hb⟩; refine ⟨_, rfl, ?_⟩; have n0_ := Aside0.mk (Kd.R_below (by (with_reducible repeat (first | apply Kd.R_alloc | apply Kd.R_drewN | apply Kd.R_drew)); exact (Kd.R_mono (Kd.R_far (p := ⟨gb700, 2, none⟩) (Kd.R_far (p := ⟨gb700, 1, none⟩) (Kd.R_far (p := ⟨gb700, 0, none⟩) (Kd.R_types HO_670002.out BK700.out (by decide)) (fun _ hk => hk.2) (.int .i64 t694)) (fun _ hk => hk.2) (.int .i64 t695)) (fun _ hk => hk.2) (.slice Ao79 t696.length co79)) (fun _ h_ => h_.1))) hb); have n1_ := Aside0.mk (Kd.R_below (by (with_reducible repeat (first | apply Kd.R_alloc | apply Kd.R_drewN | apply Kd.R_drew)); exact (Kd.R_mono (Kd.R_far (p := ⟨gb700, 2, none⟩) (Kd.R_far (p := ⟨gb700, 1, none⟩) (Kd.R_far (p := ⟨gb700, 0, none⟩) (Kd.R_types HO_680002.out BK700.out (by decide)) (fun _ hk => hk.2) (.int .i64 t694)) (fun _ hk => hk.2) (.int .i64 t695)) (fun _ hk => hk.2) (.slice Ao79 t696.length co79)) (fun _ h_ => h_.1))) hb); have n2_ := Aside0.mk (Kd.R_below (by (with_reducible repeat (first | apply Kd.R_alloc | apply Kd.R_drewN | apply Kd.R_drew)); exact (Kd.R_mono (Kd.R_far (p := ⟨gb700, 2, none⟩) (Kd.R_far (p := ⟨gb700, 1, none⟩) (Kd.R_far (p := ⟨gb700, 0, none⟩) (Kd.R_types HO693.out BK700.out (by decide)) (fun _ hk => hk.2) (.int .i64 t694)) (fun _ hk => hk.2) (.int .i64 t695)) (fun _ hk => hk.2) (.slice Ao79 t696.length co79)) (fun _ h_ => h_.1))) hb); have n3_ := Aside0.mk (Kd.R_below (by (with_reducible repeat (first | apply Kd.R_alloc | apply Kd.R_drewN | apply Kd.R_drew)); exact (Kd.R_mono (Kd.R_far (p := ⟨gb700, 2, none⟩) (Kd.R_far (p := ⟨gb700, 1, none⟩) (Kd.R_far (p := ⟨gb700, 0, none⟩) (Kd.R_types HO698.out BK700.out (by decide)) (fun _ hk => hk.2) (.int .i64 t694)) (fun _ hk => hk.2) (.int .i64 t695)) (fun _ hk => hk.2) (.slice Ao79 t696.length co79)) (fun _ h_ => h_.1))) hb); have n4_ := Aside0.mk (blk_below (g := gb669) (o := .cells #[.int .i64 t663, .int .i64 t664, .slice Ao16 t665.length co16] 29 (0, 0)) (by (with_reducible repeat (first | refine blk_drewN ?_ _ | refine blk_drew ?_ | refine blk_alloc ?_ _)); refine blk_far ?_ NB669_700.out _; (with_reducible repeat (first | refine blk_drewN ?_ _ | refine blk_drew ?_ | refine blk_alloc ?_ _)); refine blk_far ?_ NB669_700.out _; (with_reducible repeat (first | refine blk_drewN ?_ _ | refine blk_drew ?_ | refine blk_alloc ?_ _)); refine blk_far ?_ NB669_700.out _; (with_reducible repeat (first | refine blk_drewN ?_ _ | refine blk_drew ?_ | refine blk_alloc ?_ _)); exact BK669.out) hb); have n5_ := Aside0.mk (blk_below (g := gb679) (o := .cells #[.int .i64 t673, .int .i64 t674, .slice Ao23 t675.length co23] 29 (0, 0)) (by (with_reducible repeat (first | refine blk_drewN ?_ _ | refine blk_drew ?_ | refine blk_alloc ?_ _)); refine blk_far ?_ NB679_700.out _; (with_reducible repeat (first | refine blk_drewN ?_ _ | refine blk_drew ?_ | refine blk_alloc ?_ _)); refine blk_far ?_ NB679_700.out _; (with_reducible repeat (first | refine blk_drewN ?_ _ | refine blk_drew ?_ | refine blk_alloc ?_ _)); refine blk_far ?_ NB679_700.out _; (with_reducible repeat (first | refine blk_drewN ?_ _ | refine blk_drew ?_ | refine blk_alloc ?_ _)); exact BK679.out) hb); have n6_ := Aside0.mk (blk_below (g := gb700) (o := .cells #[.int .i64 t694, .int .i64 t695, .slice Ao79 t696.length co79] 29 (0, 0)) (by (with_reducible repeat (first | refine blk_drewN ?_ _ | refine blk_drew ?_ | refine blk_alloc ?_ _)); refine blk_put (cs := #[.int .i64 t694, .int .i64 t695, .slice none 0 0]) ?_ 2 _ rfl; (with_reducible repeat (first | refine blk_drewN ?_ _ | refine blk_drew ?_ | refine blk_alloc ?_ _)); refine blk_put (cs := #[.int .i64 t694, .int .i64 0, .slice none 0 0]) ?_ 1 _ rfl; (with_reducible repeat (first | refine blk_drewN ?_ _ | refine blk_drew ?_ | refine blk_alloc ?_ _)); refine blk_put (cs := #[.int .i64 0, .int .i64 0, .slice none 0 0]) ?_ 0 _ rfl; (with_reducible repeat (first | refine blk_drewN ?_ _ | refine blk_drew ?_ | refine blk_alloc ?_ _)); exact BK700.out) hb); have n7_ := Aside0.mk (below_step (by repeat (first | (with_reducible first | exact HB.out | apply below_alloc | apply pw_below_drewN | apply below_drew1 | refine below_set ?_ GE669.out | refine below_set ?_ GE679.out | refine below_set ?_ GE700.out) | exact HB.out)) hb); clear HO_670002; clear HO_680002; clear HO693; clear HO698; clear BK669; clear BK679; clear BK700; clear HB; have HO_670002 := n0_; have HO_680002 := n1_; have HO693 := n2_; have HO698 := n3_; have BK669 := n4_; have BK679 := n5_; have BK700 := n6_; have HB := n7_; clear n0_ n1_ n2_ n3_ n4_ n5_ n6_ n7_; (try clear hb); (try clear hb2); (try clear hk); (try clear hi)))
                          go_meet
                          case rel => exact ⟨_, (true), (by first | rfl | (simp; done) | (simp [*]; done)), H', ⟨by have := HJ9.out; have := HJ38.out; first | omega | exact Nat.le_refl _⟩, ⟨by (with_reducible repeat (first | apply Kd.R_alloc | apply Kd.R_drewN | apply Kd.R_drew)); exact HO_670002.out⟩, ⟨by (with_reducible repeat (first | apply Kd.R_alloc | apply Kd.R_drewN | apply Kd.R_drew)); exact HO_680002.out⟩, ⟨by (with_reducible repeat (first | apply Kd.R_alloc | apply Kd.R_drewN | apply Kd.R_drew)); exact Kd.R_mono HO698.out (fun _ hk => ⟨hk.1.2, hk.2⟩)⟩, ⟨by (with_reducible repeat (first | refine blk_drewN ?_ _ | refine blk_drew ?_ | refine blk_alloc ?_ _)); exact BK669.out⟩, ⟨by (with_reducible repeat (first | refine blk_drewN ?_ _ | refine blk_drew ?_ | refine blk_alloc ?_ _)); exact BK679.out⟩, ⟨by (with_reducible repeat (first | refine blk_drewN ?_ _ | refine blk_drew ?_ | refine blk_alloc ?_ _)); exact BK700.out⟩, ⟨by repeat (first | (with_reducible first | exact HB.out | apply below_alloc | apply pw_below_drewN | apply below_drew1 | refine below_set ?_ GE669.out | refine below_set ?_ GE679.out | refine below_set ?_ GE700.out) | exact HB.out)⟩⟩
                      case rest =>
                        clear HC66
                        try clear c1
                        try clear c2
                        try clear p2
                        try clear c3
                        try clear c4
                        try clear c5
                        try clear c5b0
                        try clear c6
                        try clear c7
                        try clear c8
                        try clear c9
                        try clear c17
                        try clear c21
                        try clear c25
                        try clear c26
                        try clear c27
                        try clear c28
                        try clear c29
                        try clear c30
                        try clear c31
                        try clear c32
                        try clear c33
                        try clear c34
                        try clear c37
                        try clear c43
                        try clear c43b0
                        try clear c45
                        try clear c46
                        try clear c50
                        try clear c54
                        try clear c57
                        try clear c57b0
                        try clear c58
                        try clear c63
                        try clear c63b0
                        try clear c63b1
                        try clear c67
                        try clear c76
                        try clear c77
                        try clear c81
                        try clear c82
                        try clear c83
                        try clear c85
                        try clear c88
                        try clear c89
                        try clear c91
                        try clear hcz15_0
                        try clear hcz15_1
                        try clear hcz15_2
                        try clear hcz22_0
                        try clear hcz22_1
                        try clear hcz22_2
                        try clear hcz27_0
                        try clear hcz27_1
                        try clear hcz27_2
                        try clear hcz28_0
                        try clear hcz28_1
                        try clear hcz28_2
                        try clear hcz31_0
                        try clear hcz31_1
                        try clear hcz31_2
                        try clear hcz32_0
                        try clear hcz32_1
                        try clear hcz32_2
                        try clear hcz47_0
                        try clear hcz47_1
                        try clear hcz47_2
                        try clear hcz48_0
                        try clear hcz48_1
                        try clear hcz48_2
                        try clear hcz51_0
                        try clear hcz51_1
                        try clear hcz51_2
                        try clear hcz52_0
                        try clear hcz52_1
                        try clear hcz52_2
                        try clear hcz59_0
                        try clear hcz59_1
                        try clear hcz59_2
                        try clear hcz61_0
                        try clear hcz61_1
                        try clear hcz61_2
                        try clear hcz68_0
                        try clear hcz68_1
                        try clear hcz68_2
                        try clear hcz70_0
                        try clear hcz70_1
                        try clear hcz70_2
                        try clear hcz78_0
                        try clear hcz78_1
                        try clear hcz78_2
                        try clear hcz84_0
                        try clear hcz84_1
                        try clear hcz84_2
                        try clear hcz86_0
                        try clear hcz86_1
                        try clear hcz86_2
                        try clear hcz90_0
                        try clear hcz90_1
                        try clear hcz90_2
                        try clear hcz92_0
                        try clear hcz92_1
                        try clear hcz92_2
                        try clear hfz15_0
                        try clear hfz15_1
                        try clear hfz15_2
                        try clear hfz22_0
                        try clear hfz22_1
                        try clear hfz22_2
                        try clear hfz27_0
                        try clear hfz27_1
                        try clear hfz27_2
                        try clear hfz28_0
                        try clear hfz28_1
                        try clear hfz28_2
                        try clear hfz31_0
                        try clear hfz31_1
                        try clear hfz31_2
                        try clear hfz32_0
                        try clear hfz32_1
                        try clear hfz32_2
                        try clear hfz47_0
                        try clear hfz47_1
                        try clear hfz47_2
                        try clear hfz48_0
                        try clear hfz48_1
                        try clear hfz48_2
                        try clear hfz51_0
                        try clear hfz51_1
                        try clear hfz51_2
                        try clear hfz52_0
                        try clear hfz52_1
                        try clear hfz52_2
                        try clear hfz59_0
                        try clear hfz59_1
                        try clear hfz59_2
                        try clear hfz61_0
                        try clear hfz61_1
                        try clear hfz61_2
                        try clear hfz68_0
                        try clear hfz68_1
                        try clear hfz68_2
                        try clear hfz70_0
                        try clear hfz70_1
                        try clear hfz70_2
                        try clear hfz78_0
                        try clear hfz78_1
                        try clear hfz78_2
                        try clear hfz84_0
                        try clear hfz84_1
                        try clear hfz84_2
                        try clear hfz86_0
                        try clear hfz86_1
                        try clear hfz86_2
                        try clear hfz90_0
                        try clear hfz90_1
                        try clear hfz90_2
                        try clear hfz92_0
                        try clear hfz92_1
                        try clear hfz92_2
                        try clear p2
                        obtain ⟨kq, x97_65, rfl, HA, HJ65, HO_670002, HO_680002, HO_701002, BK669, BK679, BK700, HB⟩ := hcut
                        have hl680002_65 := (Kd.R_reads' HO_680002.out).1
                        rw [hl680002_65] at HO_680002
                        (try simp only [hl680002_65])
                        (try simp only [hl680002_65] at BK669)
                        (try simp only [hl680002_65] at BK679)
                        (try simp only [hl680002_65] at BK700)
                        (try simp only [hl680002_65] at HO_670002)
                        (try simp only [hl680002_65] at HO_701002)
                        cases kq with
                        | zero => exact absurd HA.out (by simp [laws_FnExactNewHealth.j2])
                        | succ kj65 =>
                          have H := HA.out
                          clear HA
                          simp only [laws_FnExactNewHealth.j2] at H
                          by_cases c94 : x97_65 = true
                          · subst c94
                            have H1 : (some false) = some r := by rw [if_pos rfl] at H; exact H
                            clear H
                            have H := H1
                            clear H1
                            obtain rfl := Option.some.inj H
                            go_wp2
                            go_ret
                            exact ⟨by first | rfl | (simp [errW_none, errW_some] <;> rfl) | (simp [*, errW_none, errW_some] <;> rfl), by repeat (first | (with_reducible first | exact HB.out | apply below_alloc | apply pw_below_drewN | apply below_drew1 | refine below_set ?_ GE669.out | refine below_set ?_ GE679.out | refine below_set ?_ GE700.out) | exact HB.out)⟩
                          · replace c94 := Bool.eq_false_iff.mpr c94
                            subst c94
                            have H1 : ((laws_heldHealth.f kj65 t673 t674 t689 1).bind fun t702 => (if t702 < 0 then (some false) else (if t702 = t688 then (some true) else (some false)))) = some r := by rw [if_neg (show ¬ (false = true) by decide)] at H; exact H
                            clear H
                            have H := H1
                            clear H1
                            replace H := Option.bind_eq_some_iff.mp H
                            obtain ⟨t702, A950, H⟩ := H
                            replace H : (if t702 < 0 then (some false) else (if t702 = t688 then (some true) else (some false))) = some r := H
                            have A95 := Aside0.mk A950
                            clear A950
                            by_cases c96 : t702 < 0
                            · rw [if_pos c96] at H
                              have c96b0 : decide (t702 < 0) = true := decide_eq_true c96
                              clear c96
                              obtain rfl := Option.some.inj H
                              have hnb97 := NB679_669.out
                              have hnc97 := NB669_679.out
                              have hnb98 := NB679_700.out
                              have hnc98 := NB700_679.out
                              have hcz99_0 : wc.cell? ⟨gb679, 0, none⟩ = some (.int .i64 t673) := (blk_cell BK679.out 0).trans rfl
                              have hcz99_1 : wc.cell? ⟨gb679, 1, none⟩ = some (.int .i64 t674) := (blk_cell BK679.out 1).trans rfl
                              have hcz99_2 : wc.cell? ⟨gb679, 2, none⟩ = some (.slice Ao23 t689.length co23) := (blk_cell BK679.out 2).trans rfl
                              have hfz99_0 := blk_frozen BK679.out 0
                              have hfz99_1 := blk_frozen BK679.out 1
                              have hfz99_2 := blk_frozen BK679.out 2
                              go_wp2_with (first | ((with_reducible refine gate_callee (f := 34) rfl ?_); refine goesL_ (some 100) rfl rfl Tryd.func34 (by kernel_rfl) rfl #[.agg #[.int .i64 t673, .int .i64 t674, .slice Ao23 t689.length co23], .int .i64 1] rfl (by (try simp only [List.map_toArray, List.map_cons, List.map_nil]); first | done | rfl | (simp only [List.length_drop, List.length_take]; rfl)) ?_; (with_reducible refine (laws_heldHealth.calls kj65 t673 t674 _ _ t689 1 t702 _ ?side1 ?side2 A95.out).mono ?_); (case side1 => repeat (first | exact (Kd.R_reads' HO_680002.out).2.2 | (with_reducible refine Kd.C_alloc ?_ _) | (with_reducible refine Kd.C_drewN ?_ _) | (with_reducible refine Kd.C_drew ?_))); (case side2 => exact (Kd.R_reads' HO_680002.out).2.1); rintro e w100 ⟨rfl, hb⟩; refine ⟨_, rfl, ?_⟩; have n0_ := Aside0.mk (Kd.R_below (by (with_reducible repeat (first | apply Kd.R_alloc | apply Kd.R_drewN | apply Kd.R_drew)); exact HO_670002.out) hb); have n1_ := Aside0.mk (Kd.R_below (by (with_reducible repeat (first | apply Kd.R_alloc | apply Kd.R_drewN | apply Kd.R_drew)); exact HO_680002.out) hb); have n2_ := Aside0.mk (Kd.R_below (by (with_reducible repeat (first | apply Kd.R_alloc | apply Kd.R_drewN | apply Kd.R_drew)); exact HO_701002.out) hb); have n3_ := Aside0.mk (blk_below (g := gb669) (o := .cells #[.int .i64 t663, .int .i64 t664, .slice Ao16 t665.length co16] 29 (0, 0)) (by (with_reducible repeat (first | refine blk_drewN ?_ _ | refine blk_drew ?_ | refine blk_alloc ?_ _)); exact BK669.out) hb); have n4_ := Aside0.mk (blk_below (g := gb679) (o := .cells #[.int .i64 t673, .int .i64 t674, .slice Ao23 t689.length co23] 29 (0, 0)) (by (with_reducible repeat (first | refine blk_drewN ?_ _ | refine blk_drew ?_ | refine blk_alloc ?_ _)); exact BK679.out) hb); have n5_ := Aside0.mk (blk_below (g := gb700) (o := .cells #[.int .i64 t694, .int .i64 t695, .slice Ao79 t696.length co79] 29 (0, 0)) (by (with_reducible repeat (first | refine blk_drewN ?_ _ | refine blk_drew ?_ | refine blk_alloc ?_ _)); exact BK700.out) hb); have n6_ := Aside0.mk (below_step (by repeat (first | (with_reducible first | exact HB.out | apply below_alloc | apply pw_below_drewN | apply below_drew1 | refine below_set ?_ GE669.out | refine below_set ?_ GE679.out | refine below_set ?_ GE700.out) | exact HB.out)) hb); clear HO_670002; clear HO_680002; clear HO_701002; clear BK669; clear BK679; clear BK700; clear HB; have HO_670002 := n0_; have HO_680002 := n1_; have HO_701002 := n2_; have BK669 := n3_; have BK679 := n4_; have BK700 := n5_; have HB := n6_; clear n0_ n1_ n2_ n3_ n4_ n5_ n6_; (try clear hb); (try clear hb2); (try clear hk); (try clear hi)))
                              go_ret
                              exact ⟨by first | rfl | (simp [errW_none, errW_some] <;> rfl) | (simp [*, errW_none, errW_some] <;> rfl), by repeat (first | (with_reducible first | exact HB.out | apply below_alloc | apply pw_below_drewN | apply below_drew1 | refine below_set ?_ GE669.out | refine below_set ?_ GE679.out | refine below_set ?_ GE700.out) | exact HB.out)⟩
                            · rw [if_neg c96] at H
                              have c96b0 : decide (t702 < 0) = false := decide_eq_false c96
                              clear c96
                              by_cases c101 : t702 = t688
                              · rw [if_pos c101] at H
                                have c101b0 : (t702 == t688) = true := beq_iff_eq.mpr c101
                                have c101b1 : (t702 != t688) = false := bne_eq_false_iff_eq.mpr c101
                                clear c101
                                obtain rfl := Option.some.inj H
                                have hnb102 := NB679_669.out
                                have hnc102 := NB669_679.out
                                have hnb103 := NB679_700.out
                                have hnc103 := NB700_679.out
                                have hcz104_0 : wc.cell? ⟨gb679, 0, none⟩ = some (.int .i64 t673) := (blk_cell BK679.out 0).trans rfl
                                have hcz104_1 : wc.cell? ⟨gb679, 1, none⟩ = some (.int .i64 t674) := (blk_cell BK679.out 1).trans rfl
                                have hcz104_2 : wc.cell? ⟨gb679, 2, none⟩ = some (.slice Ao23 t689.length co23) := (blk_cell BK679.out 2).trans rfl
                                have hfz104_0 := blk_frozen BK679.out 0
                                have hfz104_1 := blk_frozen BK679.out 1
                                have hfz104_2 := blk_frozen BK679.out 2
                                go_wp2_with (first | ((with_reducible refine gate_callee (f := 34) rfl ?_); refine goesL_ (some 100) rfl rfl Tryd.func34 (by kernel_rfl) rfl #[.agg #[.int .i64 t673, .int .i64 t674, .slice Ao23 t689.length co23], .int .i64 1] rfl (by (try simp only [List.map_toArray, List.map_cons, List.map_nil]); first | done | rfl | (simp only [List.length_drop, List.length_take]; rfl)) ?_; (with_reducible refine (laws_heldHealth.calls kj65 t673 t674 _ _ t689 1 t702 _ ?side1 ?side2 A95.out).mono ?_); (case side1 => repeat (first | exact (Kd.R_reads' HO_680002.out).2.2 | (with_reducible refine Kd.C_alloc ?_ _) | (with_reducible refine Kd.C_drewN ?_ _) | (with_reducible refine Kd.C_drew ?_))); (case side2 => exact (Kd.R_reads' HO_680002.out).2.1); rintro e w105 ⟨rfl, hb⟩; refine ⟨_, rfl, ?_⟩; have n0_ := Aside0.mk (Kd.R_below (by (with_reducible repeat (first | apply Kd.R_alloc | apply Kd.R_drewN | apply Kd.R_drew)); exact HO_670002.out) hb); have n1_ := Aside0.mk (Kd.R_below (by (with_reducible repeat (first | apply Kd.R_alloc | apply Kd.R_drewN | apply Kd.R_drew)); exact HO_680002.out) hb); have n2_ := Aside0.mk (Kd.R_below (by (with_reducible repeat (first | apply Kd.R_alloc | apply Kd.R_drewN | apply Kd.R_drew)); exact HO_701002.out) hb); have n3_ := Aside0.mk (blk_below (g := gb669) (o := .cells #[.int .i64 t663, .int .i64 t664, .slice Ao16 t665.length co16] 29 (0, 0)) (by (with_reducible repeat (first | refine blk_drewN ?_ _ | refine blk_drew ?_ | refine blk_alloc ?_ _)); exact BK669.out) hb); have n4_ := Aside0.mk (blk_below (g := gb679) (o := .cells #[.int .i64 t673, .int .i64 t674, .slice Ao23 t689.length co23] 29 (0, 0)) (by (with_reducible repeat (first | refine blk_drewN ?_ _ | refine blk_drew ?_ | refine blk_alloc ?_ _)); exact BK679.out) hb); have n5_ := Aside0.mk (blk_below (g := gb700) (o := .cells #[.int .i64 t694, .int .i64 t695, .slice Ao79 t696.length co79] 29 (0, 0)) (by (with_reducible repeat (first | refine blk_drewN ?_ _ | refine blk_drew ?_ | refine blk_alloc ?_ _)); exact BK700.out) hb); have n6_ := Aside0.mk (below_step (by repeat (first | (with_reducible first | exact HB.out | apply below_alloc | apply pw_below_drewN | apply below_drew1 | refine below_set ?_ GE669.out | refine below_set ?_ GE679.out | refine below_set ?_ GE700.out) | exact HB.out)) hb); clear HO_670002; clear HO_680002; clear HO_701002; clear BK669; clear BK679; clear BK700; clear HB; have HO_670002 := n0_; have HO_680002 := n1_; have HO_701002 := n2_; have BK669 := n3_; have BK679 := n4_; have BK700 := n5_; have HB := n6_; clear n0_ n1_ n2_ n3_ n4_ n5_ n6_; (try clear hb); (try clear hb2); (try clear hk); (try clear hi)))
                                go_ret
                                exact ⟨by first | rfl | (simp [errW_none, errW_some] <;> rfl) | (simp [*, errW_none, errW_some] <;> rfl), by repeat (first | (with_reducible first | exact HB.out | apply below_alloc | apply pw_below_drewN | apply below_drew1 | refine below_set ?_ GE669.out | refine below_set ?_ GE679.out | refine below_set ?_ GE700.out) | exact HB.out)⟩
                              · rw [if_neg c101] at H
                                have c101b0 : (t702 == t688) = false := beq_eq_false_iff_ne.mpr c101
                                have c101b1 : (t702 != t688) = true := bne_iff_ne.mpr c101
                                obtain rfl := Option.some.inj H
                                have hnb106 := NB679_669.out
                                have hnc106 := NB669_679.out
                                have hnb107 := NB679_700.out
                                have hnc107 := NB700_679.out
                                have hcz108_0 : wc.cell? ⟨gb679, 0, none⟩ = some (.int .i64 t673) := (blk_cell BK679.out 0).trans rfl
                                have hcz108_1 : wc.cell? ⟨gb679, 1, none⟩ = some (.int .i64 t674) := (blk_cell BK679.out 1).trans rfl
                                have hcz108_2 : wc.cell? ⟨gb679, 2, none⟩ = some (.slice Ao23 t689.length co23) := (blk_cell BK679.out 2).trans rfl
                                have hfz108_0 := blk_frozen BK679.out 0
                                have hfz108_1 := blk_frozen BK679.out 1
                                have hfz108_2 := blk_frozen BK679.out 2
                                go_wp2_with (first | ((with_reducible refine gate_callee (f := 34) rfl ?_); refine goesL_ (some 100) rfl rfl Tryd.func34 (by kernel_rfl) rfl #[.agg #[.int .i64 t673, .int .i64 t674, .slice Ao23 t689.length co23], .int .i64 1] rfl (by (try simp only [List.map_toArray, List.map_cons, List.map_nil]); first | done | rfl | (simp only [List.length_drop, List.length_take]; rfl)) ?_; (with_reducible refine (laws_heldHealth.calls kj65 t673 t674 _ _ t689 1 t702 _ ?side1 ?side2 A95.out).mono ?_); (case side1 => repeat (first | exact (Kd.R_reads' HO_680002.out).2.2 | (with_reducible refine Kd.C_alloc ?_ _) | (with_reducible refine Kd.C_drewN ?_ _) | (with_reducible refine Kd.C_drew ?_))); (case side2 => exact (Kd.R_reads' HO_680002.out).2.1); rintro e w109 ⟨rfl, hb⟩; refine ⟨_, rfl, ?_⟩; have n0_ := Aside0.mk (Kd.R_below (by (with_reducible repeat (first | apply Kd.R_alloc | apply Kd.R_drewN | apply Kd.R_drew)); exact HO_670002.out) hb); have n1_ := Aside0.mk (Kd.R_below (by (with_reducible repeat (first | apply Kd.R_alloc | apply Kd.R_drewN | apply Kd.R_drew)); exact HO_680002.out) hb); have n2_ := Aside0.mk (Kd.R_below (by (with_reducible repeat (first | apply Kd.R_alloc | apply Kd.R_drewN | apply Kd.R_drew)); exact HO_701002.out) hb); have n3_ := Aside0.mk (blk_below (g := gb669) (o := .cells #[.int .i64 t663, .int .i64 t664, .slice Ao16 t665.length co16] 29 (0, 0)) (by (with_reducible repeat (first | refine blk_drewN ?_ _ | refine blk_drew ?_ | refine blk_alloc ?_ _)); exact BK669.out) hb); have n4_ := Aside0.mk (blk_below (g := gb679) (o := .cells #[.int .i64 t673, .int .i64 t674, .slice Ao23 t689.length co23] 29 (0, 0)) (by (with_reducible repeat (first | refine blk_drewN ?_ _ | refine blk_drew ?_ | refine blk_alloc ?_ _)); exact BK679.out) hb); have n5_ := Aside0.mk (blk_below (g := gb700) (o := .cells #[.int .i64 t694, .int .i64 t695, .slice Ao79 t696.length co79] 29 (0, 0)) (by (with_reducible repeat (first | refine blk_drewN ?_ _ | refine blk_drew ?_ | refine blk_alloc ?_ _)); exact BK700.out) hb); have n6_ := Aside0.mk (below_step (by repeat (first | (with_reducible first | exact HB.out | apply below_alloc | apply pw_below_drewN | apply below_drew1 | refine below_set ?_ GE669.out | refine below_set ?_ GE679.out | refine below_set ?_ GE700.out) | exact HB.out)) hb); clear HO_670002; clear HO_680002; clear HO_701002; clear BK669; clear BK679; clear BK700; clear HB; have HO_670002 := n0_; have HO_680002 := n1_; have HO_701002 := n2_; have BK669 := n3_; have BK679 := n4_; have BK700 := n5_; have HB := n6_; clear n0_ n1_ n2_ n3_ n4_ n5_ n6_; (try clear hb); (try clear hb2); (try clear hk); (try clear hi)))
                                go_ret
                                exact ⟨by first | rfl | (simp [errW_none, errW_some] <;> rfl) | (simp [*, errW_none, errW_some] <;> rfl), by repeat (first | (with_reducible first | exact HB.out | apply below_alloc | apply pw_below_drewN | apply below_drew1 | refine below_set ?_ GE669.out | refine below_set ?_ GE679.out | refine below_set ?_ GE700.out) | exact HB.out)⟩
                    · rw [if_neg c63] at H
                      have c63b0 : (t690 == t688) = false := beq_eq_false_iff_ne.mpr c63
                      have c63b1 : (t690 != t688) = true := bne_iff_ne.mpr c63
                      obtain rfl := Option.some.inj H
                      have hnb110 := NB679_669.out
                      have hnc110 := NB669_679.out
                      have hcz111_0 : wc.cell? ⟨gb679, 0, none⟩ = some (.int .i64 t673) := (blk_cell BK679.out 0).trans rfl
                      have hcz111_1 : wc.cell? ⟨gb679, 1, none⟩ = some (.int .i64 t674) := (blk_cell BK679.out 1).trans rfl
                      have hcz111_2 : wc.cell? ⟨gb679, 2, none⟩ = some (.slice Ao23 t675.length co23) := (blk_cell BK679.out 2).trans rfl
                      have hfz111_0 := blk_frozen BK679.out 0
                      have hfz111_1 := blk_frozen BK679.out 1
                      have hfz111_2 := blk_frozen BK679.out 2
                      go_wp2_with (first | ((with_reducible refine gate_callee (f := 33) rfl ?_); refine goesL_ (some 72) rfl rfl Tryd.func33 (by kernel_rfl) rfl #[.agg #[.int .i64 t673, .int .i64 t674, .slice Ao23 t675.length co23], .int .i64 1] rfl (by (try simp only [List.map_toArray, List.map_cons, List.map_nil]); first | done | rfl | (simp only [List.length_drop, List.length_take]; rfl)) ?_; (with_reducible refine (laws_markHealth.calls kj38 t673 t674 (fun k_ => some k_ = (.slice Ao23 t675.length co23 : Value).ownBlock) (.slice Ao23 t675.length co23) t675 1 t688 t689 w _ ?side1 ?side2 A55.out).mono ?_); (case side1 => repeat (first | (with_reducible first | exact HB.out | apply below_alloc | apply pw_below_drewN | apply below_drew1 | refine below_set ?_ GE669.out | refine below_set ?_ GE679.out) | exact HB.out)); (case side2 => exact Kd.R_tight rfl HO_680002.out); rintro e w112 ⟨rfl, hy0, hb, hkp⟩; refine ⟨_, rfl, ?_⟩; have n0_ := Aside0.mk (Kd.R_mono (ok' := fun k_ => some k_ ≠ (.slice Ao23 t675.length co23 : Value).ownBlock) (Kd.R_keptB (HO_670002.out) hkp (fun k_ hk_ hs_ => (hk_) hs_)) (fun k_ hk_ => hk_.1)); have n1_ := Aside0.mk (Kd.R_reok rfl hy0 (fun k_ e_ => HO_680002.out.1 k_ e_)); have n2_ := Aside0.mk (blk_kept (by (with_reducible repeat (first | refine blk_drewN ?_ _ | refine blk_drew ?_ | refine blk_alloc ?_ _)); exact BK669.out) hkp (fun hs_ => (fun e_ => (Kd.R_ne HO_680002.out BK669.out (by decide)) e_) hs_)); have n3_ := Aside0.mk (blk_kept (by (with_reducible repeat (first | refine blk_drewN ?_ _ | refine blk_drew ?_ | refine blk_alloc ?_ _)); exact BK679.out) hkp (fun hs_ => (fun e_ => (Kd.R_ne HO_680002.out BK679.out (by decide)) e_) hs_)); have n4_ := Aside0.mk (hb); clear HO_670002; clear HO_680002; clear BK669; clear BK679; clear HB; have HO_670002 := n0_; have HO_680002 := n1_; have BK669 := n2_; have BK679 := n3_; have HB := n4_; clear n0_ n1_ n2_ n3_ n4_; (try clear hb); (try clear hkp); (try clear hy0); have hcz113_0 : w112.cell? ⟨gb679, 0, none⟩ = some (.int .i64 t673) := (blk_cell BK679.out 0).trans rfl; have hcz113_1 : w112.cell? ⟨gb679, 1, none⟩ = some (.int .i64 t674) := (blk_cell BK679.out 1).trans rfl; have hcz113_2 : w112.cell? ⟨gb679, 2, none⟩ = some (.slice Ao23 t675.length co23) := (blk_cell BK679.out 2).trans rfl; have hfz113_0 := blk_frozen BK679.out 0; have hfz113_1 := blk_frozen BK679.out 1; have hfz113_2 := blk_frozen BK679.out 2) | ((with_reducible refine gate_callee (f := 34) rfl ?_); refine goesL_ (some 75) rfl rfl Tryd.func34 (by kernel_rfl) rfl #[.agg #[.int .i64 t673, .int .i64 t674, .slice Ao23 t689.length co23], .int .i64 1] rfl (by (try simp only [List.map_toArray, List.map_cons, List.map_nil]); first | done | (rw [show t689.length = t675.length from (Kd.R_reads' HO_680002.out).1.symm] <;> rfl) | rfl | (simp only [List.length_drop, List.length_take]; rfl)) ?_; (with_reducible refine (laws_heldHealth.calls kj38 t673 t674 _ _ t689 1 t690 _ ?side1 ?side2 A56.out).mono ?_); (case side1 => repeat (first | exact (Kd.R_reads' HO_680002.out).2.2 | (with_reducible refine Kd.C_alloc ?_ _) | (with_reducible refine Kd.C_drewN ?_ _) | (with_reducible refine Kd.C_drew ?_))); (case side2 => rw [show t689.length = t675.length from (Kd.R_reads' HO_680002.out).1.symm]; exact (Kd.R_reads' HO_680002.out).2.1); rintro e w114 ⟨rfl, hb⟩; refine ⟨_, rfl, ?_⟩; have n0_ := Aside0.mk (Kd.R_below (by (with_reducible repeat (first | apply Kd.R_alloc | apply Kd.R_drewN | apply Kd.R_drew)); exact HO_670002.out) hb); have n1_ := Aside0.mk (Kd.R_below (by (with_reducible repeat (first | apply Kd.R_alloc | apply Kd.R_drewN | apply Kd.R_drew)); exact HO_680002.out) hb); have n2_ := Aside0.mk (blk_below (g := gb669) (o := .cells #[.int .i64 t663, .int .i64 t664, .slice Ao16 t665.length co16] 29 (0, 0)) (by (with_reducible repeat (first | refine blk_drewN ?_ _ | refine blk_drew ?_ | refine blk_alloc ?_ _)); exact BK669.out) hb); have n3_ := Aside0.mk (blk_below (g := gb679) (o := .cells #[.int .i64 t673, .int .i64 t674, .slice Ao23 t675.length co23] 29 (0, 0)) (by (with_reducible repeat (first | refine blk_drewN ?_ _ | refine blk_drew ?_ | refine blk_alloc ?_ _)); exact BK679.out) hb); have n4_ := Aside0.mk (below_step (by repeat (first | (with_reducible first | exact HB.out | apply below_alloc | apply pw_below_drewN | apply below_drew1 | refine below_set ?_ GE669.out | refine below_set ?_ GE679.out) | exact HB.out)) hb); clear HO_670002; clear HO_680002; clear BK669; clear BK679; clear HB; have HO_670002 := n0_; have HO_680002 := n1_; have BK669 := n2_; have BK679 := n3_; have HB := n4_; clear n0_ n1_ n2_ n3_ n4_; (try clear hb); (try clear hb2); (try clear hk); (try clear hi)))
                      go_ret
                      exact ⟨by first | rfl | (simp [errW_none, errW_some] <;> rfl) | (simp [*, errW_none, errW_some] <;> rfl), by repeat (first | (with_reducible first | exact HB.out | apply below_alloc | apply pw_below_drewN | apply below_drew1 | refine below_set ?_ GE669.out | refine below_set ?_ GE679.out) | exact HB.out)⟩
          · replace c37 := Bool.eq_false_iff.mpr c37
            subst c37
            have H1 : (some false) = some r := by rw [if_neg (show ¬ (false = true) by decide)] at H; exact H
            clear H
            have H := H1
            clear H1
            obtain rfl := Option.some.inj H
            go_wp2_with (first | ((with_reducible refine gate_callee (f := 29) rfl ?_); refine goesL_ (some 51) rfl rfl Tryd.func29 (by kernel_rfl) rfl #[.slice A2 l2.length c2] rfl (by (try simp only [List.map_toArray, List.map_cons, List.map_nil]); first | done | rfl | (simp only [List.length_drop, List.length_take]; rfl)) ?_; (with_reducible refine (laws_toStringS.calls kj9 _ _ l2 t681 _ ?side1 ?side2 A35.out).mono ?_); (case side1 => repeat (first | exact (Kd.C_below HR2.out HB.out) | (with_reducible refine Kd.C_alloc ?_ _) | (with_reducible refine Kd.C_drewN ?_ _) | (with_reducible refine Kd.C_drew ?_))); (case side2 => exact HC2.out); rintro e w115 ⟨v682, rfl, ho0, hb⟩; refine ⟨_, rfl, ?_⟩; have n0_ := Aside0.mk (Kd.R_elder' (by (with_reducible repeat (first | apply Kd.R_alloc | apply Kd.R_drewN | apply Kd.R_drew)); exact HO_10.out) (Kd.R_base ho0) hb); have n1_ := Aside0.mk (Kd.R_below (by (with_reducible repeat (first | apply Kd.R_alloc | apply Kd.R_drewN | apply Kd.R_drew)); exact HO_670002.out) hb); have n2_ := Aside0.mk (Kd.R_below (by (with_reducible repeat (first | apply Kd.R_alloc | apply Kd.R_drewN | apply Kd.R_drew)); exact HO_680002.out) hb); have n3_ := Aside0.mk (Kd.R_lower (Kd.R_new' ho0 (Kd.R_lt (by (with_reducible repeat (first | apply Kd.R_alloc | apply Kd.R_drewN | apply Kd.R_drew)); exact HO_10.out))) (below_size (by repeat (first | (with_reducible first | exact HB.out | apply below_alloc | apply pw_below_drewN | apply below_drew1 | refine below_set ?_ GE669.out | refine below_set ?_ GE679.out) | exact HB.out)))); have n4_ := Aside0.mk (blk_below (g := gb669) (o := .cells #[.int .i64 t663, .int .i64 t664, .slice Ao16 t665.length co16] 29 (0, 0)) (by (with_reducible repeat (first | refine blk_drewN ?_ _ | refine blk_drew ?_ | refine blk_alloc ?_ _)); exact BK669.out) hb); have n5_ := Aside0.mk (blk_below (g := gb679) (o := .cells #[.int .i64 t673, .int .i64 t674, .slice Ao23 t675.length co23] 29 (0, 0)) (by (with_reducible repeat (first | refine blk_drewN ?_ _ | refine blk_drew ?_ | refine blk_alloc ?_ _)); exact BK679.out) hb); have n6_ := Aside0.mk (below_step (by repeat (first | (with_reducible first | exact HB.out | apply below_alloc | apply pw_below_drewN | apply below_drew1 | refine below_set ?_ GE669.out | refine below_set ?_ GE679.out) | exact HB.out)) hb); clear HO_10; clear HO_670002; clear HO_680002; clear BK669; clear BK679; clear HB; have HO_10 := n0_; have HO_670002 := n1_; have HO_680002 := n2_; have HO683 := n3_; have BK669 := n4_; have BK679 := n5_; have HB := n6_; clear n0_ n1_ n2_ n3_ n4_ n5_ n6_; (try clear hb); (try clear hb2); (try clear hk); (try clear hi); (try clear ho0); obtain ⟨Ao116, co116, eo116⟩ := Kd.R_slice HO683.out; subst eo116) | ((with_reducible refine gate_callee (f := 31) rfl ?_); refine goesL_ (some 52) rfl rfl Tryd.func31 (by kernel_rfl) rfl #[.slice Ao18 t670.length co18, .slice Ao116 t681.length co116] rfl (by (try simp only [List.map_toArray, List.map_cons, List.map_nil]); first | done | rfl | (simp only [List.length_drop, List.length_take]; rfl)) ?_; (with_reducible refine (laws_eqStringS.calls kj9 _ _ t670 _ _ t681 false _ ?side1 ?side2 ?side3 ?side4 A36.out).mono ?_); (case side1 => repeat (first | exact (Kd.R_reads' HO_10.out).2.2 | (with_reducible refine Kd.C_alloc ?_ _) | (with_reducible refine Kd.C_drewN ?_ _) | (with_reducible refine Kd.C_drew ?_))); (case side2 => exact (Kd.R_reads' HO_10.out).2.1); (case side3 => repeat (first | exact (Kd.R_reads' HO683.out).2.2 | (with_reducible refine Kd.C_alloc ?_ _) | (with_reducible refine Kd.C_drewN ?_ _) | (with_reducible refine Kd.C_drew ?_))); (case side4 => exact (Kd.R_reads' HO683.out).2.1); rintro e w' ⟨rfl, ⟨nd, rfl⟩⟩; refine ⟨_, rfl, ?_⟩))
            go_ret
            exact ⟨by first | rfl | (simp [errW_none, errW_some] <;> rfl) | (simp [*, errW_none, errW_some] <;> rfl), by repeat (first | (with_reducible first | exact HB.out | apply below_alloc | apply pw_below_drewN | apply below_drew1 | refine below_set ?_ GE669.out | refine below_set ?_ GE679.out) | exact HB.out)⟩

/-- THE ONE PURE STATEMENT of laws_FnExactNewHealth. -/
def laws_FnExactNewHealth.Pure : Prop := ∀ (a0 : Int) (a1 : Int) (l2 : List ByteArray), ((Lit.int .i64 a0).wf = true) → ((Lit.int .i64 a1).wf = true) → (l2.length ≤ maxLen ∧ ∀ x_ ∈ l2, x_.size ≤ maxLen) → ∃ k, laws_FnExactNewHealth.f k a0 a1 l2 = some true
end
section
/-! ### laws_szHost: function 92 -/
def laws_szHost.f (a0_0 : ByteArray) (a0_1 : Bool) (a0_2 : Int) (a1 : Int) : Option (Int) := if (wrap64 (a1 - (a0_0.size : Int))) < 0 then (some (-1)) else (some (wrap64 (a1 - (a0_0.size : Int))))
set_option maxHeartbeats 8000000 in
set_option maxRecDepth 100000 in
theorem laws_szHost.calls (a0_0 : ByteArray) (a0_1 : Bool) (a0_2 : Int) (a1 : Int) (r : Int) (w : World) (h : laws_szHost.f a0_0 a0_1 a0_2 a1 = some r) :
    Calls Tryd.prog 92 #[.agg #[.string a0_0, .bool a0_1, .int .i64 a0_2], .int .i64 a1] w fun e w' => e = .returned (.int .i64 r) ∧ Below w.heap.size w w' := by
  have hu106 := Tryd.underlying106
  have HB := Aside0.mk (Below.refl w.heap.size w)
  have H : (if (wrap64 (a1 - (a0_0.size : Int))) < 0 then (some (-1)) else (some (wrap64 (a1 - (a0_0.size : Int))))) = some r := h
  clear h
  by_cases c3 : (wrap64 (a1 - (a0_0.size : Int))) < 0
  · rw [if_pos c3] at H
    have c3b0 : decide ((wrap64 (a1 - (a0_0.size : Int))) < 0) = true := decide_eq_true c3
    clear c3
    obtain rfl := Option.some.inj H
    go_enter Tryd.func92, Tryd.ntmps92
    go_wp2_with (first | ((with_reducible refine gate_dst (N := 2) rfl ?_); refine box_event ?hg (N := 2) ?hd (cs := #[.string a0_0, .bool a0_1, .int .i64 a0_2]) (t := 106) ?hr ?_; (case hd => rfl); (case hg => rfl); (case hr => first | (go_simp; done) | (go_simp; rfl)); intro gb491 hg w4 hbox hb; have n0_ := Aside0.mk (below_step (by repeat (first | (with_reducible first | exact HB.out | apply below_alloc | apply pw_below_drewN | apply below_drew1) | exact HB.out)) hb); have n1_ := Aside0.mk (hbox); have n2_ := Aside0.mk ((by rw [hg]; exact (below_size (by repeat (first | (with_reducible first | exact HB.out | apply below_alloc | apply pw_below_drewN | apply below_drew1) | exact HB.out))) : w.heap.size ≤ gb491)); have n3_ := Aside0.mk ((by rw [hg]; exact (below_size (by repeat (first | (with_reducible first | exact HB.out | apply below_alloc | apply pw_below_drewN | apply below_drew1) | exact HB.out))) : w.heap.size ≤ gb491)); clear HB; have HB := n0_; have BK491 := n1_; have GW491 := n2_; have GE491 := n3_; clear n0_ n1_ n2_ n3_; clear hb hbox hg; have hcz5_0 : w4.cell? ⟨gb491, 0, none⟩ = some (.string a0_0) := (blk_cell BK491.out 0).trans rfl; have hcz5_1 : w4.cell? ⟨gb491, 1, none⟩ = some (.bool a0_1) := (blk_cell BK491.out 1).trans rfl; have hcz5_2 : w4.cell? ⟨gb491, 2, none⟩ = some (.int .i64 a0_2) := (blk_cell BK491.out 2).trans rfl; have hfz5_0 := blk_frozen BK491.out 0; have hfz5_1 := blk_frozen BK491.out 1; have hfz5_2 := blk_frozen BK491.out 2))
    go_ret
    exact ⟨by first | rfl | (simp [errW_none, errW_some] <;> rfl) | (simp [*, errW_none, errW_some] <;> rfl), by repeat (first | (with_reducible first | exact HB.out | apply below_alloc | apply pw_below_drewN | apply below_drew1 | refine below_set ?_ GE491.out) | exact HB.out)⟩
  · rw [if_neg c3] at H
    have c3b0 : decide ((wrap64 (a1 - (a0_0.size : Int))) < 0) = false := decide_eq_false c3
    clear c3
    obtain rfl := Option.some.inj H
    go_enter Tryd.func92, Tryd.ntmps92
    go_wp2_with (first | ((with_reducible refine gate_dst (N := 2) rfl ?_); refine box_event ?hg (N := 2) ?hd (cs := #[.string a0_0, .bool a0_1, .int .i64 a0_2]) (t := 106) ?hr ?_; (case hd => rfl); (case hg => rfl); (case hr => first | (go_simp; done) | (go_simp; rfl)); intro gb491 hg w6 hbox hb; have n0_ := Aside0.mk (below_step (by repeat (first | (with_reducible first | exact HB.out | apply below_alloc | apply pw_below_drewN | apply below_drew1) | exact HB.out)) hb); have n1_ := Aside0.mk (hbox); have n2_ := Aside0.mk ((by rw [hg]; exact (below_size (by repeat (first | (with_reducible first | exact HB.out | apply below_alloc | apply pw_below_drewN | apply below_drew1) | exact HB.out))) : w.heap.size ≤ gb491)); have n3_ := Aside0.mk ((by rw [hg]; exact (below_size (by repeat (first | (with_reducible first | exact HB.out | apply below_alloc | apply pw_below_drewN | apply below_drew1) | exact HB.out))) : w.heap.size ≤ gb491)); clear HB; have HB := n0_; have BK491 := n1_; have GW491 := n2_; have GE491 := n3_; clear n0_ n1_ n2_ n3_; clear hb hbox hg; have hcz7_0 : w6.cell? ⟨gb491, 0, none⟩ = some (.string a0_0) := (blk_cell BK491.out 0).trans rfl; have hcz7_1 : w6.cell? ⟨gb491, 1, none⟩ = some (.bool a0_1) := (blk_cell BK491.out 1).trans rfl; have hcz7_2 : w6.cell? ⟨gb491, 2, none⟩ = some (.int .i64 a0_2) := (blk_cell BK491.out 2).trans rfl; have hfz7_0 := blk_frozen BK491.out 0; have hfz7_1 := blk_frozen BK491.out 1; have hfz7_2 := blk_frozen BK491.out 2))
    go_ret
    exact ⟨by first | rfl | (simp [errW_none, errW_some] <;> rfl) | (simp [*, errW_none, errW_some] <;> rfl), by repeat (first | (with_reducible first | exact HB.out | apply below_alloc | apply pw_below_drewN | apply below_drew1 | refine below_set ?_ GE491.out) | exact HB.out)⟩
end
section
/-! ### laws_szHostS: function 52 -/
def laws_szHostS.l0 : Nat → List (S_LHost) → Int → Int → Option (Int)
  | 0, _, _, _ => none
  | k + 1, x0, x1, x5 => if x5 < (x0.length : Int) then (if 0 ≤ x5 then ((laws_szHost.f ((rd_TLHost x0 x5).f0) ((rd_TLHost x0 x5).f1) ((rd_TLHost x0 x5).f2) x1).bind fun t493 => (if t493 < 0 then (some (-1)) else (laws_szHostS.l0 k x0 t493 (wrap64 (x5 + 1))))) else (none)) else (some x1)
def laws_szHostS.f (k : Nat) (l0 : List (S_LHost)) (a1 : Int) : Option (Int) := if (wrap64 (a1 - (l0.length : Int))) < 0 then (some (-1)) else (laws_szHostS.l0 k l0 (wrap64 (a1 - (l0.length : Int))) 0)
theorem laws_szHostS.mono_l : ∀ k, (∀ y0 y1 y2, LeO (laws_szHostS.l0 k y0 y1 y2) (laws_szHostS.l0 (k + 1) y0 y1 y2))
  | 0 => fun _ _ _ r h => by simp [laws_szHostS.l0] at h
  | k + 1 => by
    have ih0 := laws_szHostS.mono_l k
    · intro y0 y1 y2
      unfold laws_szHostS.l0
      repeat' first
      | (with_reducible exact ih0 _ _ _)
      | (with_reducible exact LeO.refl _)
      | (with_reducible exact LeO.none _)
      | (with_reducible refine LeO.ite ?_ ?_)
      | (with_reducible refine LeO.bind ?_ (fun _ => ?_))
      | exact ih0 _ _ _
      | exact LeO.none _
      | refine LeO.ite ?_ ?_
      | refine LeO.bind ?_ (fun _ => ?_)
theorem laws_szHostS.mono : ∀ a0 a1 k, LeO (laws_szHostS.f k a0 a1) (laws_szHostS.f (k + 1) a0 a1) := by
  intro a0 a1 k
  have ih0 := laws_szHostS.mono_l k
  unfold laws_szHostS.f
  repeat' first
      | (with_reducible exact ih0 _ _ _)
      | (with_reducible exact LeO.refl _)
      | (with_reducible exact LeO.none _)
      | (with_reducible refine LeO.ite ?_ ?_)
      | (with_reducible refine LeO.bind ?_ (fun _ => ?_))
      | exact ih0 _ _ _
      | exact LeO.none _
      | refine LeO.ite ?_ ?_
      | refine LeO.bind ?_ (fun _ => ?_)
set_option maxHeartbeats 8000000 in
set_option maxRecDepth 100000 in
theorem laws_szHostS.calls (k : Nat) (A0 : Option Addr) (c0 : Nat) (l0 : List (S_LHost)) (a1 : Int) (r : Int) (w : World) (hr0 : Kd.C k_LHost w A0 l0.length l0) (hc0 : l0.length ≤ c0) (h : laws_szHostS.f k l0 a1 = some r) :
    Calls Tryd.prog 52 #[.slice A0 l0.length c0, .int .i64 a1] w fun e w' => e = .returned (.int .i64 r) ∧ Below w.heap.size w w' := by
  have hu106 := Tryd.underlying106
  have HR0 := Aside0.mk hr0
  have HC0 := Aside0.mk hc0
  clear hr0 hc0
  have HB := Aside0.mk (Below.refl w.heap.size w)
  have H : (if (wrap64 (a1 - (l0.length : Int))) < 0 then (some (-1)) else (laws_szHostS.l0 k l0 (wrap64 (a1 - (l0.length : Int))) 0)) = some r := h
  clear h
  by_cases c3 : (wrap64 (a1 - (l0.length : Int))) < 0
  · rw [if_pos c3] at H
    have c3b0 : decide ((wrap64 (a1 - (l0.length : Int))) < 0) = true := decide_eq_true c3
    clear c3
    obtain rfl := Option.some.inj H
    go_enter Tryd.func52, Tryd.ntmps52
    go_wp2
    go_ret
    exact ⟨by first | rfl | (simp [errW_none, errW_some] <;> rfl) | (simp [*, errW_none, errW_some] <;> rfl), by repeat (first | (with_reducible first | exact HB.out | apply below_alloc | apply pw_below_drewN | apply below_drew1) | exact HB.out)⟩
  · rw [if_neg c3] at H
    have c3b0 : decide ((wrap64 (a1 - (l0.length : Int))) < 0) = false := decide_eq_false c3
    clear c3
    have H' := Aside0.mk H
    clear H
    go_enter Tryd.func52, Tryd.ntmps52
    go_wp2
    go_loopg [1, 5] k (fun kq v1 v5 w' => ∃ (x1_1 : Int) (x5_1 : Int), v1 = .int .i64 x1_1 ∧ v5 = .int .i64 x5_1 ∧ Aside0 (laws_szHostS.l0 kq l0 x1_1 x5_1 = some r) ∧ Aside0 (kq ≤ k) ∧ Aside0 (Below w.heap.size w w'))
    case atStart => exact ⟨(wrap64 (a1 - (l0.length : Int))), (0), (by first | rfl | (simp; done) | (simp [*]; done)), (by first | rfl | (simp; done) | (simp [*]; done)), H', ⟨Nat.le_refl _⟩, ⟨by repeat (first | (with_reducible first | exact HB.out | apply below_alloc | apply pw_below_drewN | apply below_drew1) | exact HB.out)⟩⟩
    case round =>
      clear H'
      try clear p2
      try clear c3
      try clear c3b0
      obtain ⟨x1_1, x5_1, rfl, rfl, HA, HK1, HB⟩ := hrel
      cases gk with
      | zero => exact absurd HA.out (by simp [laws_szHostS.l0])
      | succ k1 =>
        have H := HA.out
        clear HA
        simp only [laws_szHostS.l0] at H
        by_cases c4 : x5_1 < (l0.length : Int)
        · rw [if_pos c4] at H
          have c4b0 : decide (x5_1 < (l0.length : Int)) = true := decide_eq_true c4
          clear c4
          by_cases c5 : 0 ≤ x5_1
          · rw [if_pos c5] at H
            have c5b0 : decide (0 ≤ x5_1) = true := decide_eq_true c5
            clear c5
            replace H := Option.bind_eq_some_iff.mp H
            obtain ⟨t493, A60, H⟩ := H
            replace H : (if t493 < 0 then (some (-1)) else (laws_szHostS.l0 k1 l0 t493 (wrap64 (x5_1 + 1)))) = some r := H
            have A6 := Aside0.mk A60
            clear A60
            by_cases c7 : t493 < 0
            · rw [if_pos c7] at H
              have c7b0 : decide (t493 < 0) = true := decide_eq_true c7
              clear c7
              obtain rfl := Option.some.inj H
              have p492 : 0 ≤ (x5_1 : Int) := of_decide_eq_true (by first | (with_reducible assumption) | assumption)
              have q492 : x5_1 < (l0.length : Int) := of_decide_eq_true (by first | (with_reducible assumption) | assumption)
              obtain ⟨ad492, e492, hx492_0, hx492_1, hx492_2⟩ := at_TLHost HR0.out x5_1 p492 q492
              cases e492
              replace hx492_0 := (HB.out.cell (World.block_lt_of_cell? w _ hx492_0)).trans hx492_0
              replace hx492_1 := (HB.out.cell (World.block_lt_of_cell? w _ hx492_1)).trans hx492_1
              replace hx492_2 := (HB.out.cell (World.block_lt_of_cell? w _ hx492_2)).trans hx492_2
              replace p492 := eq_true p492
              replace q492 := eq_true q492
              go_wp2_with (first | ((with_reducible refine gate_callee (f := 92) rfl ?_); refine goesL_ (some 23) rfl rfl Tryd.func92 (by kernel_rfl) rfl #[.agg #[.string ((rd_TLHost l0 x5_1).f0), .bool ((rd_TLHost l0 x5_1).f1), .int .i64 ((rd_TLHost l0 x5_1).f2)], .int .i64 x1_1] rfl (by (try simp only [List.map_toArray, List.map_cons, List.map_nil]); first | done | rfl | (simp only [List.length_drop, List.length_take]; rfl)) ?_; (with_reducible refine (laws_szHost.calls ((rd_TLHost l0 x5_1).f0) ((rd_TLHost l0 x5_1).f1) ((rd_TLHost l0 x5_1).f2) x1_1 t493 _ A6.out).mono ?_); rintro e w8 ⟨rfl, hb⟩; refine ⟨_, rfl, ?_⟩; have n0_ := Aside0.mk (below_step (by repeat (first | (with_reducible first | exact HB.out | apply below_alloc | apply pw_below_drewN | apply below_drew1) | exact HB.out)) hb); clear HB; have HB := n0_; clear n0_; (try clear hb); (try clear hb2); (try clear hk); (try clear hi)))
              go_ret
              exact ⟨by first | rfl | (simp [errW_none, errW_some] <;> rfl) | (simp [*, errW_none, errW_some] <;> rfl), by repeat (first | (with_reducible first | exact HB.out | apply below_alloc | apply pw_below_drewN | apply below_drew1) | exact HB.out)⟩
            · rw [if_neg c7] at H
              have c7b0 : decide (t493 < 0) = false := decide_eq_false c7
              clear c7
              have H' := Aside0.mk H
              clear H
              have p492 : 0 ≤ (x5_1 : Int) := of_decide_eq_true (by first | (with_reducible assumption) | assumption)
              have q492 : x5_1 < (l0.length : Int) := of_decide_eq_true (by first | (with_reducible assumption) | assumption)
              obtain ⟨ad492, e492, hx492_0, hx492_1, hx492_2⟩ := at_TLHost HR0.out x5_1 p492 q492
              cases e492
              replace hx492_0 := (HB.out.cell (World.block_lt_of_cell? w _ hx492_0)).trans hx492_0
              replace hx492_1 := (HB.out.cell (World.block_lt_of_cell? w _ hx492_1)).trans hx492_1
              replace hx492_2 := (HB.out.cell (World.block_lt_of_cell? w _ hx492_2)).trans hx492_2
              replace p492 := eq_true p492
              replace q492 := eq_true q492
              go_wp2_with (first | ((with_reducible refine gate_callee (f := 92) rfl ?_); refine goesL_ (some 23) rfl rfl Tryd.func92 (by kernel_rfl) rfl #[.agg #[.string ((rd_TLHost l0 x5_1).f0), .bool ((rd_TLHost l0 x5_1).f1), .int .i64 ((rd_TLHost l0 x5_1).f2)], .int .i64 x1_1] rfl (by (try simp only [List.map_toArray, List.map_cons, List.map_nil]); first | done | rfl | (simp only [List.length_drop, List.length_take]; rfl)) ?_; (with_reducible refine (laws_szHost.calls ((rd_TLHost l0 x5_1).f0) ((rd_TLHost l0 x5_1).f1) ((rd_TLHost l0 x5_1).f2) x1_1 t493 _ A6.out).mono ?_); rintro e w9 ⟨rfl, hb⟩; refine ⟨_, rfl, ?_⟩; have n0_ := Aside0.mk (below_step (by repeat (first | (with_reducible first | exact HB.out | apply below_alloc | apply pw_below_drewN | apply below_drew1) | exact HB.out)) hb); clear HB; have HB := n0_; clear n0_; (try clear hb); (try clear hb2); (try clear hk); (try clear hi)))
              go_roundg k1
              case measure => have := HK1.out; omega
              case rel => exact ⟨(t493), (wrap64 (x5_1 + 1)), (by first | rfl | (simp; done) | (simp [*]; done)), (by first | rfl | (simp; done) | (simp [*]; done)), H', ⟨by have := HK1.out; omega⟩, ⟨by repeat (first | (with_reducible first | exact HB.out | apply below_alloc | apply pw_below_drewN | apply below_drew1) | exact HB.out)⟩⟩
          · rw [if_neg c5] at H
            exact absurd H (by simp)
        · rw [if_neg c4] at H
          have c4b0 : decide (x5_1 < (l0.length : Int)) = false := decide_eq_false c4
          clear c4
          obtain rfl := Option.some.inj H
          go_wp2
          go_ret
          exact ⟨by first | rfl | (simp [errW_none, errW_some] <;> rfl) | (simp [*, errW_none, errW_some] <;> rfl), by repeat (first | (with_reducible first | exact HB.out | apply below_alloc | apply pw_below_drewN | apply below_drew1) | exact HB.out)⟩
end
section
/-! ### laws_szHealth: function 13 -/
def laws_szHealth.f (k : Nat) (a0_0 : Int) (a0_1 : Int) (l0_2 : List (S_LHost)) (a1 : Int) : Option (Int) := (laws_szHostS.f k l0_2 a1).bind fun t495 => (if t495 < 0 then (some (-1)) else (some t495))
theorem laws_szHealth.mono : ∀ a0 a1 a2 a3 k, LeO (laws_szHealth.f k a0 a1 a2 a3) (laws_szHealth.f (k + 1) a0 a1 a2 a3) := by
  intro a0 a1 a2 a3 k
  unfold laws_szHealth.f
  repeat' first
      | (with_reducible exact laws_szHostS.mono _ _ _)
      | (with_reducible exact LeO.refl _)
      | (with_reducible exact LeO.none _)
      | (with_reducible refine LeO.ite ?_ ?_)
      | (with_reducible refine LeO.bind ?_ (fun _ => ?_))
      | exact laws_szHostS.mono _ _ _
      | exact LeO.none _
      | refine LeO.ite ?_ ?_
      | refine LeO.bind ?_ (fun _ => ?_)
set_option maxHeartbeats 8000000 in
set_option maxRecDepth 100000 in
theorem laws_szHealth.calls (k : Nat) (a0_0 : Int) (a0_1 : Int) (A0_2 : Option Addr) (c0_2 : Nat) (l0_2 : List (S_LHost)) (a1 : Int) (r : Int) (w : World) (hr0_2 : Kd.C k_LHost w A0_2 l0_2.length l0_2) (hc0_2 : l0_2.length ≤ c0_2) (h : laws_szHealth.f k a0_0 a0_1 l0_2 a1 = some r) :
    Calls Tryd.prog 13 #[.agg #[.int .i64 a0_0, .int .i64 a0_1, .slice A0_2 l0_2.length c0_2], .int .i64 a1] w fun e w' => e = .returned (.int .i64 r) ∧ Below w.heap.size w w' := by
  have hu24 := Tryd.underlying24
  have HR0_2 := Aside0.mk hr0_2
  have HC0_2 := Aside0.mk hc0_2
  clear hr0_2 hc0_2
  have HB := Aside0.mk (Below.refl w.heap.size w)
  have H : ((laws_szHostS.f k l0_2 a1).bind fun t495 => (if t495 < 0 then (some (-1)) else (some t495))) = some r := h
  clear h
  replace H := Option.bind_eq_some_iff.mp H
  obtain ⟨t495, A30, H⟩ := H
  replace H : (if t495 < 0 then (some (-1)) else (some t495)) = some r := H
  have A3 := Aside0.mk A30
  clear A30
  by_cases c4 : t495 < 0
  · rw [if_pos c4] at H
    have c4b0 : decide (t495 < 0) = true := decide_eq_true c4
    clear c4
    obtain rfl := Option.some.inj H
    go_enter Tryd.func13, Tryd.ntmps13
    go_wp2_with (first | ((with_reducible refine gate_dst (N := 2) rfl ?_); refine box_event ?hg (N := 2) ?hd (cs := #[.int .i64 a0_0, .int .i64 a0_1, .slice A0_2 l0_2.length c0_2]) (t := 24) ?hr ?_; (case hd => rfl); (case hg => rfl); (case hr => first | (go_simp; done) | (go_simp; rfl)); intro gb494 hg w5 hbox hb; have n0_ := Aside0.mk (below_step (by repeat (first | (with_reducible first | exact HB.out | apply below_alloc | apply pw_below_drewN | apply below_drew1) | exact HB.out)) hb); have n1_ := Aside0.mk (hbox); have n2_ := Aside0.mk ((by rw [hg]; exact (below_size (by repeat (first | (with_reducible first | exact HB.out | apply below_alloc | apply pw_below_drewN | apply below_drew1) | exact HB.out))) : w.heap.size ≤ gb494)); have n3_ := Aside0.mk ((by rw [hg]; exact (below_size (by repeat (first | (with_reducible first | exact HB.out | apply below_alloc | apply pw_below_drewN | apply below_drew1) | exact HB.out))) : w.heap.size ≤ gb494)); clear HB; have HB := n0_; have BK494 := n1_; have GW494 := n2_; have GE494 := n3_; clear n0_ n1_ n2_ n3_; clear hb hbox hg; have hcz6_0 : w5.cell? ⟨gb494, 0, none⟩ = some (.int .i64 a0_0) := (blk_cell BK494.out 0).trans rfl; have hcz6_1 : w5.cell? ⟨gb494, 1, none⟩ = some (.int .i64 a0_1) := (blk_cell BK494.out 1).trans rfl; have hcz6_2 : w5.cell? ⟨gb494, 2, none⟩ = some (.slice A0_2 l0_2.length c0_2) := (blk_cell BK494.out 2).trans rfl; have hfz6_0 := blk_frozen BK494.out 0; have hfz6_1 := blk_frozen BK494.out 1; have hfz6_2 := blk_frozen BK494.out 2) | ((with_reducible refine gate_callee (f := 52) rfl ?_); refine goesL_ (some 8) rfl rfl Tryd.func52 (by kernel_rfl) rfl #[.slice A0_2 l0_2.length c0_2, .int .i64 a1] rfl (by (try simp only [List.map_toArray, List.map_cons, List.map_nil]); first | done | rfl | (simp only [List.length_drop, List.length_take]; rfl)) ?_; (with_reducible refine (laws_szHostS.calls k _ _ l0_2 a1 t495 _ ?side1 ?side2 A3.out).mono ?_); (case side1 => repeat (first | exact (Kd.C_below HR0_2.out HB.out) | (with_reducible refine Kd.C_alloc ?_ _) | (with_reducible refine Kd.C_drewN ?_ _) | (with_reducible refine Kd.C_drew ?_))); (case side2 => exact HC0_2.out); rintro e w7 ⟨rfl, hb⟩; refine ⟨_, rfl, ?_⟩; have n0_ := Aside0.mk (blk_below (g := gb494) (o := .cells #[.int .i64 a0_0, .int .i64 a0_1, .slice A0_2 l0_2.length c0_2] 24 (0, 0)) (by (with_reducible repeat (first | refine blk_drewN ?_ _ | refine blk_drew ?_ | refine blk_alloc ?_ _)); exact BK494.out) hb); have n1_ := Aside0.mk (below_step (by repeat (first | (with_reducible first | exact HB.out | apply below_alloc | apply pw_below_drewN | apply below_drew1 | refine below_set ?_ GE494.out) | exact HB.out)) hb); clear BK494; clear HB; have BK494 := n0_; have HB := n1_; clear n0_ n1_; (try clear hb); (try clear hb2); (try clear hk); (try clear hi)))
    go_ret
    exact ⟨by first | rfl | (simp [errW_none, errW_some] <;> rfl) | (simp [*, errW_none, errW_some] <;> rfl), by repeat (first | (with_reducible first | exact HB.out | apply below_alloc | apply pw_below_drewN | apply below_drew1 | refine below_set ?_ GE494.out) | exact HB.out)⟩
  · rw [if_neg c4] at H
    have c4b0 : decide (t495 < 0) = false := decide_eq_false c4
    clear c4
    obtain rfl := Option.some.inj H
    go_enter Tryd.func13, Tryd.ntmps13
    go_wp2_with (first | ((with_reducible refine gate_dst (N := 2) rfl ?_); refine box_event ?hg (N := 2) ?hd (cs := #[.int .i64 a0_0, .int .i64 a0_1, .slice A0_2 l0_2.length c0_2]) (t := 24) ?hr ?_; (case hd => rfl); (case hg => rfl); (case hr => first | (go_simp; done) | (go_simp; rfl)); intro gb494 hg w8 hbox hb; have n0_ := Aside0.mk (below_step (by repeat (first | (with_reducible first | exact HB.out | apply below_alloc | apply pw_below_drewN | apply below_drew1) | exact HB.out)) hb); have n1_ := Aside0.mk (hbox); have n2_ := Aside0.mk ((by rw [hg]; exact (below_size (by repeat (first | (with_reducible first | exact HB.out | apply below_alloc | apply pw_below_drewN | apply below_drew1) | exact HB.out))) : w.heap.size ≤ gb494)); have n3_ := Aside0.mk ((by rw [hg]; exact (below_size (by repeat (first | (with_reducible first | exact HB.out | apply below_alloc | apply pw_below_drewN | apply below_drew1) | exact HB.out))) : w.heap.size ≤ gb494)); clear HB; have HB := n0_; have BK494 := n1_; have GW494 := n2_; have GE494 := n3_; clear n0_ n1_ n2_ n3_; clear hb hbox hg; have hcz9_0 : w8.cell? ⟨gb494, 0, none⟩ = some (.int .i64 a0_0) := (blk_cell BK494.out 0).trans rfl; have hcz9_1 : w8.cell? ⟨gb494, 1, none⟩ = some (.int .i64 a0_1) := (blk_cell BK494.out 1).trans rfl; have hcz9_2 : w8.cell? ⟨gb494, 2, none⟩ = some (.slice A0_2 l0_2.length c0_2) := (blk_cell BK494.out 2).trans rfl; have hfz9_0 := blk_frozen BK494.out 0; have hfz9_1 := blk_frozen BK494.out 1; have hfz9_2 := blk_frozen BK494.out 2) | ((with_reducible refine gate_callee (f := 52) rfl ?_); refine goesL_ (some 8) rfl rfl Tryd.func52 (by kernel_rfl) rfl #[.slice A0_2 l0_2.length c0_2, .int .i64 a1] rfl (by (try simp only [List.map_toArray, List.map_cons, List.map_nil]); first | done | rfl | (simp only [List.length_drop, List.length_take]; rfl)) ?_; (with_reducible refine (laws_szHostS.calls k _ _ l0_2 a1 t495 _ ?side1 ?side2 A3.out).mono ?_); (case side1 => repeat (first | exact (Kd.C_below HR0_2.out HB.out) | (with_reducible refine Kd.C_alloc ?_ _) | (with_reducible refine Kd.C_drewN ?_ _) | (with_reducible refine Kd.C_drew ?_))); (case side2 => exact HC0_2.out); rintro e w10 ⟨rfl, hb⟩; refine ⟨_, rfl, ?_⟩; have n0_ := Aside0.mk (blk_below (g := gb494) (o := .cells #[.int .i64 a0_0, .int .i64 a0_1, .slice A0_2 l0_2.length c0_2] 24 (0, 0)) (by (with_reducible repeat (first | refine blk_drewN ?_ _ | refine blk_drew ?_ | refine blk_alloc ?_ _)); exact BK494.out) hb); have n1_ := Aside0.mk (below_step (by repeat (first | (with_reducible first | exact HB.out | apply below_alloc | apply pw_below_drewN | apply below_drew1 | refine below_set ?_ GE494.out) | exact HB.out)) hb); clear BK494; clear HB; have BK494 := n0_; have HB := n1_; clear n0_ n1_; (try clear hb); (try clear hb2); (try clear hk); (try clear hi)))
    go_ret
    exact ⟨by first | rfl | (simp [errW_none, errW_some] <;> rfl) | (simp [*, errW_none, errW_some] <;> rfl), by repeat (first | (with_reducible first | exact HB.out | apply below_alloc | apply pw_below_drewN | apply below_drew1 | refine below_set ?_ GE494.out) | exact HB.out)⟩
end
section
/-! ### laws_toHost: function 93 -/
def laws_toHost.f (a0_0 : ByteArray) (a0_1 : Bool) (a0_2 : Int) : Option (ByteArray × Bool × Int) := some (a0_0, a0_1, a0_2)
set_option maxHeartbeats 8000000 in
set_option maxRecDepth 100000 in
theorem laws_toHost.calls (a0_0 : ByteArray) (a0_1 : Bool) (a0_2 : Int) (r1 : ByteArray) (r2 : Bool) (r3 : Int) (w : World) (h : laws_toHost.f a0_0 a0_1 a0_2 = some (r1, r2, r3)) :
    Calls Tryd.prog 93 #[.agg #[.string a0_0, .bool a0_1, .int .i64 a0_2]] w fun e w' => e = .returned (.agg #[.string r1, .bool r2, .int .i64 r3]) ∧ Below w.heap.size w w' := by
  have hu106 := Tryd.underlying106
  have hu76 := Tryd.underlying76
  have HB := Aside0.mk (Below.refl w.heap.size w)
  have H : (some (a0_0, a0_1, a0_2)) = some (r1, r2, r3) := h
  clear h
  simp only [Option.some.injEq, Prod.mk.injEq] at H
  obtain ⟨rfl, rfl, rfl⟩ := H
  go_enter Tryd.func93, Tryd.ntmps93
  go_wp2_with (first | ((with_reducible refine gate_dst (N := 1) rfl ?_); refine box_event ?hg (N := 1) ?hd (cs := #[.string a0_0, .bool a0_1, .int .i64 a0_2]) (t := 106) ?hr ?_; (case hd => rfl); (case hg => rfl); (case hr => first | (go_simp; done) | (go_simp; rfl)); intro gb496 hg w2 hbox hb; have n0_ := Aside0.mk (below_step (by repeat (first | (with_reducible first | exact HB.out | apply below_alloc | apply pw_below_drewN | apply below_drew1) | exact HB.out)) hb); have n1_ := Aside0.mk (hbox); have n2_ := Aside0.mk ((by rw [hg]; exact (below_size (by repeat (first | (with_reducible first | exact HB.out | apply below_alloc | apply pw_below_drewN | apply below_drew1) | exact HB.out))) : w.heap.size ≤ gb496)); have n3_ := Aside0.mk ((by rw [hg]; exact (below_size (by repeat (first | (with_reducible first | exact HB.out | apply below_alloc | apply pw_below_drewN | apply below_drew1) | exact HB.out))) : w.heap.size ≤ gb496)); clear HB; have HB := n0_; have BK496 := n1_; have GW496 := n2_; have GE496 := n3_; clear n0_ n1_ n2_ n3_; clear hb hbox hg) | ((with_reducible refine gate_dst (N := 2) rfl ?_); refine box_event ?hg (N := 2) ?hd (cs := #[.string (⟨#[]⟩ : ByteArray), .bool false, .int .i64 0]) (t := 76) ?hr ?_; (case hd => rfl); (case hg => rfl); (case hr => first | (go_simp; done) | (go_simp; rfl)); intro gb497 hg w3 hbox hb; have n0_ := Aside0.mk (blk_below (g := gb496) (o := .cells #[.string a0_0, .bool a0_1, .int .i64 a0_2] 106 (0, 0)) (by (with_reducible repeat (first | refine blk_drewN ?_ _ | refine blk_drew ?_ | refine blk_alloc ?_ _)); exact BK496.out) hb); have n1_ := Aside0.mk (below_step (by repeat (first | (with_reducible first | exact HB.out | apply below_alloc | apply pw_below_drewN | apply below_drew1 | refine below_set ?_ GE496.out) | exact HB.out)) hb); have n2_ := Aside0.mk (hbox); have n3_ := Aside0.mk ((by rw [hg]; exact (below_size (by repeat (first | (with_reducible first | exact HB.out | apply below_alloc | apply pw_below_drewN | apply below_drew1 | refine below_set ?_ GE496.out) | exact HB.out))) : w.heap.size ≤ gb497)); have n4_ := Aside0.mk ((by rw [hg]; exact (below_size (by repeat (first | (with_reducible first | exact HB.out | apply below_alloc | apply pw_below_drewN | apply below_drew1 | refine below_set ?_ GE496.out) | exact HB.out))) : w.heap.size ≤ gb497)); have n5_ := Aside0.mk ((by rw [hg]; exact Nat.ne_of_lt (blk_lt (g := gb496) (o := .cells #[.string a0_0, .bool a0_1, .int .i64 a0_2] 106 (0, 0)) (by (with_reducible repeat (first | refine blk_drewN ?_ _ | refine blk_drew ?_ | refine blk_alloc ?_ _)); exact BK496.out)) : gb496 ≠ gb497)); have n6_ := Aside0.mk ((by rw [hg]; exact Nat.ne_of_gt (blk_lt (g := gb496) (o := .cells #[.string a0_0, .bool a0_1, .int .i64 a0_2] 106 (0, 0)) (by (with_reducible repeat (first | refine blk_drewN ?_ _ | refine blk_drew ?_ | refine blk_alloc ?_ _)); exact BK496.out)) : gb497 ≠ gb496)); clear BK496; clear HB; have BK496 := n0_; have HB := n1_; have BK497 := n2_; have GW497 := n3_; have GE497 := n4_; have NB496_497 := n5_; have NB497_496 := n6_; clear n0_ n1_ n2_ n3_ n4_ n5_ n6_; clear hb hbox hg) | ((with_reducible refine gate_dst (N := 3) rfl ?_); refine box_event ?hg (N := 3) ?hd (cs := #[.string (⟨#[]⟩ : ByteArray), .bool false, .int .i64 0]) (t := 76) ?hr ?_; (case hd => rfl); (case hg => rfl); (case hr => first | (go_simp; done) | (go_simp; rfl)); intro gb498 hg w4 hbox hb; have n0_ := Aside0.mk (blk_below (g := gb496) (o := .cells #[.string a0_0, .bool a0_1, .int .i64 a0_2] 106 (0, 0)) (by (with_reducible repeat (first | refine blk_drewN ?_ _ | refine blk_drew ?_ | refine blk_alloc ?_ _)); exact BK496.out) hb); have n1_ := Aside0.mk (blk_below (g := gb497) (o := .cells #[.string (⟨#[]⟩ : ByteArray), .bool false, .int .i64 0] 76 (0, 0)) (by (with_reducible repeat (first | refine blk_drewN ?_ _ | refine blk_drew ?_ | refine blk_alloc ?_ _)); exact BK497.out) hb); have n2_ := Aside0.mk (below_step (by repeat (first | (with_reducible first | exact HB.out | apply below_alloc | apply pw_below_drewN | apply below_drew1 | refine below_set ?_ GE496.out | refine below_set ?_ GE497.out) | exact HB.out)) hb); have n3_ := Aside0.mk (hbox); have n4_ := Aside0.mk ((by rw [hg]; exact (below_size (by repeat (first | (with_reducible first | exact HB.out | apply below_alloc | apply pw_below_drewN | apply below_drew1 | refine below_set ?_ GE496.out | refine below_set ?_ GE497.out) | exact HB.out))) : w.heap.size ≤ gb498)); have n5_ := Aside0.mk ((by rw [hg]; exact (below_size (by repeat (first | (with_reducible first | exact HB.out | apply below_alloc | apply pw_below_drewN | apply below_drew1 | refine below_set ?_ GE496.out | refine below_set ?_ GE497.out) | exact HB.out))) : w.heap.size ≤ gb498)); have n6_ := Aside0.mk ((by rw [hg]; exact Nat.ne_of_lt (blk_lt (g := gb496) (o := .cells #[.string a0_0, .bool a0_1, .int .i64 a0_2] 106 (0, 0)) (by (with_reducible repeat (first | refine blk_drewN ?_ _ | refine blk_drew ?_ | refine blk_alloc ?_ _)); exact BK496.out)) : gb496 ≠ gb498)); have n7_ := Aside0.mk ((by rw [hg]; exact Nat.ne_of_gt (blk_lt (g := gb496) (o := .cells #[.string a0_0, .bool a0_1, .int .i64 a0_2] 106 (0, 0)) (by (with_reducible repeat (first | refine blk_drewN ?_ _ | refine blk_drew ?_ | refine blk_alloc ?_ _)); exact BK496.out)) : gb498 ≠ gb496)); have n8_ := Aside0.mk ((by rw [hg]; exact Nat.ne_of_lt (blk_lt (g := gb497) (o := .cells #[.string (⟨#[]⟩ : ByteArray), .bool false, .int .i64 0] 76 (0, 0)) (by (with_reducible repeat (first | refine blk_drewN ?_ _ | refine blk_drew ?_ | refine blk_alloc ?_ _)); exact BK497.out)) : gb497 ≠ gb498)); have n9_ := Aside0.mk ((by rw [hg]; exact Nat.ne_of_gt (blk_lt (g := gb497) (o := .cells #[.string (⟨#[]⟩ : ByteArray), .bool false, .int .i64 0] 76 (0, 0)) (by (with_reducible repeat (first | refine blk_drewN ?_ _ | refine blk_drew ?_ | refine blk_alloc ?_ _)); exact BK497.out)) : gb498 ≠ gb497)); clear BK496; clear BK497; clear HB; have BK496 := n0_; have BK497 := n1_; have HB := n2_; have BK498 := n3_; have GW498 := n4_; have GE498 := n5_; have NB496_498 := n6_; have NB498_496 := n7_; have NB497_498 := n8_; have NB498_497 := n9_; clear n0_ n1_ n2_ n3_ n4_ n5_ n6_ n7_ n8_ n9_; clear hb hbox hg; have hnb5 := NB496_497.out; have hnc5 := NB497_496.out; have hnb6 := NB496_498.out; have hnc6 := NB498_496.out; have hcz7_0 : w4.cell? ⟨gb496, 0, none⟩ = some (.string a0_0) := (blk_cell BK496.out 0).trans rfl; have hcz7_1 : w4.cell? ⟨gb496, 1, none⟩ = some (.bool a0_1) := (blk_cell BK496.out 1).trans rfl; have hcz7_2 : w4.cell? ⟨gb496, 2, none⟩ = some (.int .i64 a0_2) := (blk_cell BK496.out 2).trans rfl; have hfz7_0 := blk_frozen BK496.out 0; have hfz7_1 := blk_frozen BK496.out 1; have hfz7_2 := blk_frozen BK496.out 2; have hnb8 := NB498_497.out; have hnc8 := NB497_498.out; have hcz9_0 : w4.cell? ⟨gb498, 0, none⟩ = some (.string (⟨#[]⟩ : ByteArray)) := (blk_cell BK498.out 0).trans rfl; have hcz9_1 : w4.cell? ⟨gb498, 1, none⟩ = some (.bool false) := (blk_cell BK498.out 1).trans rfl; have hcz9_2 : w4.cell? ⟨gb498, 2, none⟩ = some (.int .i64 0) := (blk_cell BK498.out 2).trans rfl; have hfz9_0 := blk_frozen BK498.out 0; have hfz9_1 := blk_frozen BK498.out 1; have hfz9_2 := blk_frozen BK498.out 2; have hcz10_0 : w4.cell? ⟨gb497, 0, none⟩ = some (.string (⟨#[]⟩ : ByteArray)) := (blk_cell BK497.out 0).trans rfl; have hcz10_1 : w4.cell? ⟨gb497, 1, none⟩ = some (.bool false) := (blk_cell BK497.out 1).trans rfl; have hcz10_2 : w4.cell? ⟨gb497, 2, none⟩ = some (.int .i64 0) := (blk_cell BK497.out 2).trans rfl; have hfz10_0 := blk_frozen BK497.out 0; have hfz10_1 := blk_frozen BK497.out 1; have hfz10_2 := blk_frozen BK497.out 2))
  refine bodyPost_ret (results_cell_row rfl _ _ gb497 76 #[.string a0_0, .bool a0_1, .int .i64 a0_2] (0, 0) _ rfl (by (with_reducible repeat (first | refine blk_drewN ?_ _ | refine blk_drew ?_ | refine blk_alloc ?_ _)); refine blk_put (cs := #[.string a0_0, .bool a0_1, .int .i64 0]) ?_ 2 _ rfl; (with_reducible repeat (first | refine blk_drewN ?_ _ | refine blk_drew ?_ | refine blk_alloc ?_ _)); refine blk_put (cs := #[.string a0_0, .bool false, .int .i64 0]) ?_ 1 _ rfl; (with_reducible repeat (first | refine blk_drewN ?_ _ | refine blk_drew ?_ | refine blk_alloc ?_ _)); refine blk_put (cs := #[.string (⟨#[]⟩ : ByteArray), .bool false, .int .i64 0]) ?_ 0 _ rfl; (with_reducible repeat (first | refine blk_drewN ?_ _ | refine blk_drew ?_ | refine blk_alloc ?_ _)); refine blk_far ?_ NB497_498.out _; (with_reducible repeat (first | refine blk_drewN ?_ _ | refine blk_drew ?_ | refine blk_alloc ?_ _)); refine blk_far ?_ NB497_498.out _; (with_reducible repeat (first | refine blk_drewN ?_ _ | refine blk_drew ?_ | refine blk_alloc ?_ _)); refine blk_far ?_ NB497_498.out _; (with_reducible repeat (first | refine blk_drewN ?_ _ | refine blk_drew ?_ | refine blk_alloc ?_ _)); exact BK497.out) Tryd.underlying76 rfl (by kernel_rfl)) rfl ?_
  exact ⟨by first | rfl | (simp [errW_none, errW_some] <;> rfl) | (simp [*, errW_none, errW_some] <;> rfl), by repeat (first | (with_reducible first | exact HB.out | apply below_alloc | apply pw_below_drewN | apply below_drew1 | refine below_set ?_ GE496.out | refine below_set ?_ GE497.out | refine below_set ?_ GE498.out) | exact HB.out)⟩
end
section
/-! ### laws_toHostS: function 56 -/
def laws_toHostS.l0 : Nat → List (S_LHost) → List (S_Host) → Int → Option ((List (S_Host)))
  | 0, _, _, _ => none
  | k + 1, x0, x3, x4 => if x4 < (x0.length : Int) then (if 0 ≤ x4 then ((laws_toHost.f ((rd_TLHost x0 x4).f0) ((rd_TLHost x0 x4).f1) ((rd_TLHost x0 x4).f2)).bind fun bt503 => (if x4 < (x3.length : Int) then (laws_toHostS.l0 k x0 (x3.set (x4 : Int).toNat (⟨bt503.1, bt503.2.1, bt503.2.2⟩ : S_Host)) (wrap64 (x4 + 1))) else (none))) else (none)) else (some x3)
def laws_toHostS.f (k : Nat) (l0 : List (S_LHost)) : Option ((List (S_Host))) := if 0 ≤ (l0.length : Int) then (if ((l0.length : Int) : Int).toNat ≤ 8796093022208 then (laws_toHostS.l0 k l0 (List.replicate ((l0.length : Int) : Int).toNat z_Host) 0) else (none)) else (none)
theorem laws_toHostS.mono_l : ∀ k, (∀ y0 y1 y2, LeO (laws_toHostS.l0 k y0 y1 y2) (laws_toHostS.l0 (k + 1) y0 y1 y2))
  | 0 => fun _ _ _ r h => by simp [laws_toHostS.l0] at h
  | k + 1 => by
    have ih0 := laws_toHostS.mono_l k
    · intro y0 y1 y2
      unfold laws_toHostS.l0
      repeat' first
      | (with_reducible exact ih0 _ _ _)
      | (with_reducible exact LeO.refl _)
      | (with_reducible exact LeO.none _)
      | (with_reducible refine LeO.ite ?_ ?_)
      | (with_reducible refine LeO.bind ?_ (fun _ => ?_))
      | exact ih0 _ _ _
      | exact LeO.none _
      | refine LeO.ite ?_ ?_
      | refine LeO.bind ?_ (fun _ => ?_)
theorem laws_toHostS.mono : ∀ a0 k, LeO (laws_toHostS.f k a0) (laws_toHostS.f (k + 1) a0) := by
  intro a0 k
  have ih0 := laws_toHostS.mono_l k
  unfold laws_toHostS.f
  repeat' first
      | (with_reducible exact ih0 _ _ _)
      | (with_reducible exact LeO.refl _)
      | (with_reducible exact LeO.none _)
      | (with_reducible refine LeO.ite ?_ ?_)
      | (with_reducible refine LeO.bind ?_ (fun _ => ?_))
      | exact ih0 _ _ _
      | exact LeO.none _
      | refine LeO.ite ?_ ?_
      | refine LeO.bind ?_ (fun _ => ?_)
set_option maxHeartbeats 8000000 in
set_option maxRecDepth 100000 in
theorem laws_toHostS.calls (k : Nat) (A0 : Option Addr) (c0 : Nat) (l0 : List (S_LHost)) (r : List (S_Host)) (w : World) (hr0 : Kd.C k_LHost w A0 l0.length l0) (hc0 : l0.length ≤ c0) (h : laws_toHostS.f k l0 = some r) :
    Calls Tryd.prog 56 #[.slice A0 l0.length c0] w fun e w' => ∃ v0_ : Value, e = .returned (v0_) ∧ Kd.R k_Host 76 w' w.heap.size (fun _ => True) v0_ r ∧ Below w.heap.size w w' := by
  have hu106 := Tryd.underlying106
  have hu76 := Tryd.underlying76
  have HR0 := Aside0.mk hr0
  have HC0 := Aside0.mk hc0
  clear hr0 hc0
  have HB := Aside0.mk (Below.refl w.heap.size w)
  have H : (if 0 ≤ (l0.length : Int) then (if ((l0.length : Int) : Int).toNat ≤ 8796093022208 then (laws_toHostS.l0 k l0 (List.replicate ((l0.length : Int) : Int).toNat z_Host) 0) else (none)) else (none)) = some r := h
  clear h
  by_cases c2 : 0 ≤ (l0.length : Int)
  · rw [if_pos c2] at H
    have c2b0 := eq_true c2
    have c2b1 : decide (0 ≤ (l0.length : Int)) = true := decide_eq_true c2
    clear c2
    by_cases c3 : ((l0.length : Int) : Int).toNat ≤ 8796093022208
    · rw [if_pos c3] at H
      have c3b0 := eq_true c3
      have c3b1 : decide (((l0.length : Int) : Int).toNat ≤ 8796093022208) = true := decide_eq_true c3
      clear c3
      obtain ⟨y499, hy499⟩ : ∃ y_ : List (S_Host), y_ = (List.replicate ((l0.length : Int) : Int).toNat z_Host) := ⟨_, rfl⟩
      replace H : (laws_toHostS.l0 k l0 y499 0) = some r := by first | (rw [hy499]; with_reducible exact H) | (have H2_ := (Option.bind_some _ _).symm.trans H; rw [hy499]; with_reducible exact H2_) | (have H2_ := (Option.bind_some _ _).symm.trans H; with_reducible exact H2_) | with_reducible exact H | (rw [hy499]; exact H) | exact H
      have Ny499 := Aside0.mk hy499
      clear hy499
      have H' := Aside0.mk H
      clear H
      go_enter Tryd.func56, Tryd.ntmps56
      go_wp2_with (first | ((with_reducible refine gate_dst (N := 7) rfl ?_); refine Kd.R_make k_Host _ 76 rfl (N := 7) rfl 27 _ _ rfl (l0.length : Int) rfl rfl Tryd.underlying27 (.agg #[(.string ⟨#[]⟩), (.bool false), (.int .i64 0)]) 32 info76 rfl (by decide) (by omega) z_Host (ok := fun _ => True) (okp := fun _ => True) (k_Host_mkM _ _ _ z_Host ) (fun _ hk => hk) trivial (of_decide_eq_true (by first | (with_reducible assumption) | assumption)) (Nat.le_trans (Nat.mul_le_mul_right _ (of_decide_eq_true (by first | (with_reducible assumption) | assumption) : (l0.length : Int).toNat ≤ 8796093022208)) (by omega)) (Below.refl _ _) (Nat.le_refl _) ?_; intro v500 w4 ho5 hb hg_ hnew_; clear hg_ hnew_; (first | rw [← Ny499.out] at ho5 | (simp only [Int.reduceToNat] at ho5; rw [← Ny499.out] at ho5)); have n0_ := Aside0.mk (Kd.R_lower ho5 (below_size (by repeat (first | (with_reducible first | exact HB.out | apply below_alloc | apply pw_below_drewN | apply below_drew1) | exact HB.out)))); have n1_ := Aside0.mk (below_step (by repeat (first | (with_reducible first | exact HB.out | apply below_alloc | apply pw_below_drewN | apply below_drew1) | exact HB.out)) hb); clear HB; have HO501 := n0_; have HB := n1_; clear n0_ n1_; clear hb ho5))
      go_loopg [4] k (fun kq v4 w' => ∃ (x3_1 : List (S_Host)) (x4_1 : Int), v4 = .int .i64 x4_1 ∧ Aside0 (laws_toHostS.l0 kq l0 x3_1 x4_1 = some r) ∧ Aside0 (kq ≤ k) ∧ Aside0 (Kd.R k_Host 76 w' w.heap.size (fun _ => True) v500 x3_1) ∧ Aside0 (Below w.heap.size w w'))
      case atStart => exact ⟨(y499), (0), (by first | rfl | (simp; done) | (simp [*]; done)), H', ⟨Nat.le_refl _⟩, ⟨by (with_reducible repeat (first | apply Kd.R_alloc | apply Kd.R_drewN | apply Kd.R_drew)); exact HO501.out⟩, ⟨by repeat (first | (with_reducible first | exact HB.out | apply below_alloc | apply pw_below_drewN | apply below_drew1) | exact HB.out)⟩⟩
      case round =>
        clear H'
        try clear c2
        try clear c2b0
        try clear c2b1
        try clear p2
        try clear c3
        try clear c3b0
        try clear c3b1
        try clear c5
        obtain ⟨x3_1, x4_1, rfl, HA, HK1, HO_3, HB⟩ := hrel
        cases gk with
        | zero => exact absurd HA.out (by simp [laws_toHostS.l0])
        | succ k1 =>
          have H := HA.out
          clear HA
          simp only [laws_toHostS.l0] at H
          by_cases c6 : x4_1 < (l0.length : Int)
          · rw [if_pos c6] at H
            have c6b0 : decide (x4_1 < (l0.length : Int)) = true := decide_eq_true c6
            clear c6
            by_cases c7 : 0 ≤ x4_1
            · rw [if_pos c7] at H
              have c7b0 : decide (0 ≤ x4_1) = true := decide_eq_true c7
              clear c7
              replace H := Option.bind_eq_some_iff.mp H
              obtain ⟨⟨t503, t504, t505⟩, A80, H⟩ := H
              replace H : (if x4_1 < (x3_1.length : Int) then (laws_toHostS.l0 k1 l0 (x3_1.set (x4_1 : Int).toNat (⟨t503, t504, t505⟩ : S_Host)) (wrap64 (x4_1 + 1))) else (none)) = some r := H
              have A8 := Aside0.mk A80
              clear A80
              by_cases c9 : x4_1 < (x3_1.length : Int)
              · rw [if_pos c9] at H
                have c9b0 : decide (x4_1 < (x3_1.length : Int)) = true := decide_eq_true c9
                clear c9
                obtain ⟨y506, hy506⟩ : ∃ y_ : List (S_Host), y_ = (x3_1.set (x4_1 : Int).toNat (⟨t503, t504, t505⟩ : S_Host)) := ⟨_, rfl⟩
                replace H : (laws_toHostS.l0 k1 l0 y506 (wrap64 (x4_1 + 1))) = some r := by first | (rw [hy506]; with_reducible exact H) | (have H2_ := (Option.bind_some _ _).symm.trans H; rw [hy506]; with_reducible exact H2_) | (have H2_ := (Option.bind_some _ _).symm.trans H; with_reducible exact H2_) | with_reducible exact H | (rw [hy506]; exact H) | exact H
                have Ny506 := Aside0.mk hy506
                clear hy506
                have H' := Aside0.mk H
                clear H
                have p502 : 0 ≤ (x4_1 : Int) := of_decide_eq_true (by first | (with_reducible assumption) | assumption)
                have q502 : x4_1 < (l0.length : Int) := of_decide_eq_true (by first | (with_reducible assumption) | assumption)
                obtain ⟨ad502, e502, hx502_0, hx502_1, hx502_2⟩ := at_TLHost HR0.out x4_1 p502 q502
                cases e502
                replace hx502_0 := (HB.out.cell (World.block_lt_of_cell? w _ hx502_0)).trans hx502_0
                replace hx502_1 := (HB.out.cell (World.block_lt_of_cell? w _ hx502_1)).trans hx502_1
                replace hx502_2 := (HB.out.cell (World.block_lt_of_cell? w _ hx502_2)).trans hx502_2
                replace p502 := eq_true p502
                replace q502 := eq_true q502
                go_wp2_with (first | ((with_reducible refine gate_callee (f := 93) rfl ?_); refine goesL_ (some 20) rfl rfl Tryd.func93 (by kernel_rfl) rfl #[.agg #[.string ((rd_TLHost l0 x4_1).f0), .bool ((rd_TLHost l0 x4_1).f1), .int .i64 ((rd_TLHost l0 x4_1).f2)]] rfl (by (try simp only [List.map_toArray, List.map_cons, List.map_nil]); first | done | rfl | (simp only [List.length_drop, List.length_take]; rfl)) ?_; (with_reducible refine (laws_toHost.calls ((rd_TLHost l0 x4_1).f0) ((rd_TLHost l0 x4_1).f1) ((rd_TLHost l0 x4_1).f2) t503 t504 t505 _ A8.out).mono ?_); rintro e w11 ⟨rfl, hb⟩; refine ⟨_, rfl, ?_⟩; have n0_ := Aside0.mk (Kd.R_below (by (with_reducible repeat (first | apply Kd.R_alloc | apply Kd.R_drewN | apply Kd.R_drew)); exact HO_3.out) hb); have n1_ := Aside0.mk (below_step (by repeat (first | (with_reducible first | exact HB.out | apply below_alloc | apply pw_below_drewN | apply below_drew1) | exact HB.out)) hb); clear HO_3; clear HB; have HO_3 := n0_; have HB := n1_; clear n0_ n1_; (try clear hb); (try clear hb2); (try clear hk); (try clear hi); have p10 : 0 ≤ (x4_1 : Int) := of_decide_eq_true (by first | (with_reducible assumption) | assumption); have q10 : (x4_1 : Int) < ((x3_1.length : Int) : Int) := of_decide_eq_true (by first | (with_reducible assumption) | assumption); obtain ⟨go10, co10, eo10, gb10, gl10, cl10, HG10⟩ := Kd.R_form HO_3.out (by omega); (first | cases eo10 | (injection eo10 with ea_ en_ ec_; (first | subst ea_ | (injection ea_ with ea_; subst ea_)); subst ec_; clear en_)); have GB10 := Aside0.mk gb10; have GG10 := Aside0.mk HG10; clear gb10 gl10 HG10; obtain ⟨ce10, hcl10, hM10, hcc10, hfr10⟩ := Kd.R_elem HO_3.out z_Host (x4_1 : Int) p10 q10; obtain rfl := k_Host_openM hM10; have hx10_0 : w11.cell? ⟨go10, (x4_1 : Int).toNat * 3, none⟩ = some (.string ((rd_THost x3_1 x4_1).f0)) := hcc10 0 _ rfl; have hx10_1 : w11.cell? ⟨go10, (x4_1 : Int).toNat * 3 + 1, none⟩ = some (.bool ((rd_THost x3_1 x4_1).f1)) := hcc10 1 _ rfl; have hx10_2 : w11.cell? ⟨go10, (x4_1 : Int).toNat * 3 + 2, none⟩ = some (.int .i64 ((rd_THost x3_1 x4_1).f2)) := hcc10 2 _ rfl; have hf10_0 : w11.frozen? ⟨go10, (x4_1 : Int).toNat * 3, none⟩ = false := hfr10 0; have hf10_1 : w11.frozen? ⟨go10, (x4_1 : Int).toNat * 3 + 1, none⟩ = false := hfr10 1; have hf10_2 : w11.frozen? ⟨go10, (x4_1 : Int).toNat * 3 + 2, none⟩ = false := hfr10 2; clear hcl10 hcc10 hfr10 hM10; replace p10 := eq_true p10; replace q10 := eq_true q10; have HX12 := Aside0.mk (show Kd.R k_Host 76 w11 w.heap.size (fun _ => True) (.slice (some ⟨go10, 0, none⟩) x3_1.length co10) x3_1 from (by (with_reducible repeat (first | apply Kd.R_alloc | apply Kd.R_drewN | apply Kd.R_drew)); exact HO_3.out)); obtain ⟨ce12, hcl12, hM12, hcc12, hfr12⟩ := Kd.R_elem HX12.out z_Host (x4_1 : Int) (of_decide_eq_true (by first | (with_reducible assumption) | assumption)) (by have h_ : (x4_1 : Int) < ((x3_1.length : Int) : Int) := of_decide_eq_true (by first | (with_reducible assumption) | assumption); first | exact h_ | (have e_ := (Kd.R_reads' HO_3.out).1; omega) | simpa using h_); obtain rfl := k_Host_openM hM12; have HP12 := Kd.R_seg HX12.out (x4_1 : Int) (of_decide_eq_true (by first | (with_reducible assumption) | assumption)) (by have h_ : (x4_1 : Int) < ((x3_1.length : Int) : Int) := of_decide_eq_true (by first | (with_reducible assumption) | assumption); first | exact h_ | (have e_ := (Kd.R_reads' HO_3.out).1; omega) | simpa using h_) (seg := [.string t503, .bool t504, .int .i64 t505]) (j := 0) hcl12 hcc12 (show 3 ≤ 3 from by decide) (x' := (⟨t503, t504, t505⟩ : S_Host)) (k_Host_mkM _ _ _ (⟨t503, t504, t505⟩ : S_Host) ) (fun _ hk => hk); have hx12_0 := hcc12 0 _ rfl; (try simp only [show (k_Host).sz = 3 from rfl, Nat.mul_one, Nat.add_zero] at hx12_0); have hf12_0 := hfr12 0; (try simp only [show (k_Host).sz = 3 from rfl, Nat.mul_one, Nat.add_zero] at hf12_0); have hx12_1 := hcc12 1 _ rfl; (try simp only [show (k_Host).sz = 3 from rfl, Nat.mul_one, Nat.add_zero] at hx12_1); have hf12_1 := hfr12 1; (try simp only [show (k_Host).sz = 3 from rfl, Nat.mul_one, Nat.add_zero] at hf12_1); have hx12_2 := hcc12 2 _ rfl; (try simp only [show (k_Host).sz = 3 from rfl, Nat.mul_one, Nat.add_zero] at hx12_2); have hf12_2 := hfr12 2; (try simp only [show (k_Host).sz = 3 from rfl, Nat.mul_one, Nat.add_zero] at hf12_2); clear hcl12 hcc12 hfr12 hM12) | ((with_reducible refine gate_store (t := 76) (p := 21) rfl ?_); refine store_event (t := 76) (p := 21) (v := ?vo_w13) (w1 := (((w11.setCell ⟨go10, (x4_1 : Int).toNat * 3, none⟩ (.string t503)).setCell ⟨go10, (x4_1 : Int).toNat * 3 + 1, none⟩ (.bool t504)).setCell ⟨go10, (x4_1 : Int).toNat * 3 + 2, none⟩ (.int .i64 t505))) ?hg ?ho ?hn ?hr ?_; (case ho => rfl); (case hg => rfl); (case hn => rfl); (case hr => first | (go_simp; done) | (go_simp; rfl)); intro w13 hw; have hg : w11.grownBy w13 (some go10) := (by rw [hw]; exact HP12.2); have hp_ : Kd.R k_Host 76 w13 w.heap.size (fun _ => True) (.slice (some ⟨go10, 0, none⟩) x3_1.length co10) y506 := (by rw [hw, Ny506.out]; exact HP12.1); clear HP12; have n0_ := Aside0.mk (hp_); have n1_ := Aside0.mk ((by rw [hw]; exact below_set (below_set (below_set (HB.out) GB10.out) GB10.out) GB10.out : Below w.heap.size w w13)); clear HO_3; clear HB; have HO_3 := n0_; have HB := n1_; clear n0_ n1_; clear hg hw hp_))
                go_roundg k1
                case measure => have := HK1.out; omega
                case rel => exact ⟨(y506), (wrap64 (x4_1 + 1)), (by first | rfl | (simp; done) | (simp [*]; done)), H', ⟨by have := HK1.out; omega⟩, ⟨by (with_reducible repeat (first | apply Kd.R_alloc | apply Kd.R_drewN | apply Kd.R_drew)); exact HO_3.out⟩, ⟨by repeat (first | (with_reducible first | exact HB.out | apply below_alloc | apply pw_below_drewN | apply below_drew1) | exact HB.out)⟩⟩
              · rw [if_neg c9] at H
                exact absurd H (by simp)
            · rw [if_neg c7] at H
              exact absurd H (by simp)
          · rw [if_neg c6] at H
            have c6b0 : decide (x4_1 < (l0.length : Int)) = false := decide_eq_false c6
            clear c6
            obtain rfl := Option.some.inj H
            go_wp2
            go_ret
            exact ⟨_, by first | rfl | (simp [errW_none, errW_some] <;> rfl) | (simp [*, errW_none, errW_some] <;> rfl), by (with_reducible repeat (first | apply Kd.R_alloc | apply Kd.R_drewN | apply Kd.R_drew)); exact HO_3.out, by repeat (first | (with_reducible first | exact HB.out | apply below_alloc | apply pw_below_drewN | apply below_drew1) | exact HB.out)⟩
    · rw [if_neg c3] at H
      exact absurd H (by simp)
  · rw [if_neg c2] at H
    exact absurd H (by simp)
end
section
/-! ### laws_toHealth: function 15 -/
def laws_toHealth.f (k : Nat) (a0_0 : Int) (a0_1 : Int) (l0_2 : List (S_LHost)) : Option (Int × Int × (List (S_Host))) := (laws_toHostS.f k l0_2).bind fun t510 => (some (a0_0, a0_1, t510))
theorem laws_toHealth.mono : ∀ a0 a1 a2 k, LeO (laws_toHealth.f k a0 a1 a2) (laws_toHealth.f (k + 1) a0 a1 a2) := by
  intro a0 a1 a2 k
  unfold laws_toHealth.f
  repeat' first
      | (with_reducible exact laws_toHostS.mono _ _)
      | (with_reducible exact LeO.refl _)
      | (with_reducible exact LeO.none _)
      | (with_reducible refine LeO.ite ?_ ?_)
      | (with_reducible refine LeO.bind ?_ (fun _ => ?_))
      | exact laws_toHostS.mono _ _
      | exact LeO.none _
      | refine LeO.ite ?_ ?_
      | refine LeO.bind ?_ (fun _ => ?_)
set_option maxHeartbeats 8000000 in
set_option maxRecDepth 100000 in
theorem laws_toHealth.calls (k : Nat) (a0_0 : Int) (a0_1 : Int) (A0_2 : Option Addr) (c0_2 : Nat) (l0_2 : List (S_LHost)) (r1 : Int) (r2 : Int) (r3 : List (S_Host)) (w : World) (hr0_2 : Kd.C k_LHost w A0_2 l0_2.length l0_2) (hc0_2 : l0_2.length ≤ c0_2) (h : laws_toHealth.f k a0_0 a0_1 l0_2 = some (r1, r2, r3)) :
    Calls Tryd.prog 15 #[.agg #[.int .i64 a0_0, .int .i64 a0_1, .slice A0_2 l0_2.length c0_2]] w fun e w' => ∃ v2_ : Value, e = .returned (.agg #[.int .i64 r1, .int .i64 r2, v2_]) ∧ Kd.R k_Host 76 w' w.heap.size (fun _ => True) v2_ r3 ∧ Below w.heap.size w w' := by
  have hu24 := Tryd.underlying24
  have hu29 := Tryd.underlying29
  have HR0_2 := Aside0.mk hr0_2
  have HC0_2 := Aside0.mk hc0_2
  clear hr0_2 hc0_2
  have HB := Aside0.mk (Below.refl w.heap.size w)
  have H : ((laws_toHostS.f k l0_2).bind fun t510 => (some (a0_0, a0_1, t510))) = some (r1, r2, r3) := h
  clear h
  replace H := Option.bind_eq_some_iff.mp H
  obtain ⟨t510, A20, H⟩ := H
  replace H : (some (a0_0, a0_1, t510)) = some (r1, r2, r3) := H
  have A2 := Aside0.mk A20
  clear A20
  simp only [Option.some.injEq, Prod.mk.injEq] at H
  obtain ⟨rfl, rfl, rfl⟩ := H
  go_enter Tryd.func15, Tryd.ntmps15
  go_wp2_with (first | ((with_reducible refine gate_dst (N := 1) rfl ?_); refine box_event ?hg (N := 1) ?hd (cs := #[.int .i64 a0_0, .int .i64 a0_1, .slice A0_2 l0_2.length c0_2]) (t := 24) ?hr ?_; (case hd => rfl); (case hg => rfl); (case hr => first | (go_simp; done) | (go_simp; rfl)); intro gb507 hg w3 hbox hb; have n0_ := Aside0.mk (below_step (by repeat (first | (with_reducible first | exact HB.out | apply below_alloc | apply pw_below_drewN | apply below_drew1) | exact HB.out)) hb); have n1_ := Aside0.mk (hbox); have n2_ := Aside0.mk ((by rw [hg]; exact (below_size (by repeat (first | (with_reducible first | exact HB.out | apply below_alloc | apply pw_below_drewN | apply below_drew1) | exact HB.out))) : w.heap.size ≤ gb507)); have n3_ := Aside0.mk ((by rw [hg]; exact (below_size (by repeat (first | (with_reducible first | exact HB.out | apply below_alloc | apply pw_below_drewN | apply below_drew1) | exact HB.out))) : w.heap.size ≤ gb507)); clear HB; have HB := n0_; have BK507 := n1_; have GW507 := n2_; have GE507 := n3_; clear n0_ n1_ n2_ n3_; clear hb hbox hg) | ((with_reducible refine gate_dst (N := 2) rfl ?_); refine box_event ?hg (N := 2) ?hd (cs := #[.int .i64 0, .int .i64 0, .slice none 0 0]) (t := 29) ?hr ?_; (case hd => rfl); (case hg => rfl); (case hr => first | (go_simp; done) | (go_simp; rfl)); intro gb508 hg w4 hbox hb; have n0_ := Aside0.mk (blk_below (g := gb507) (o := .cells #[.int .i64 a0_0, .int .i64 a0_1, .slice A0_2 l0_2.length c0_2] 24 (0, 0)) (by (with_reducible repeat (first | refine blk_drewN ?_ _ | refine blk_drew ?_ | refine blk_alloc ?_ _)); exact BK507.out) hb); have n1_ := Aside0.mk (below_step (by repeat (first | (with_reducible first | exact HB.out | apply below_alloc | apply pw_below_drewN | apply below_drew1 | refine below_set ?_ GE507.out) | exact HB.out)) hb); have n2_ := Aside0.mk (hbox); have n3_ := Aside0.mk ((by rw [hg]; exact (below_size (by repeat (first | (with_reducible first | exact HB.out | apply below_alloc | apply pw_below_drewN | apply below_drew1 | refine below_set ?_ GE507.out) | exact HB.out))) : w.heap.size ≤ gb508)); have n4_ := Aside0.mk ((by rw [hg]; exact (below_size (by repeat (first | (with_reducible first | exact HB.out | apply below_alloc | apply pw_below_drewN | apply below_drew1 | refine below_set ?_ GE507.out) | exact HB.out))) : w.heap.size ≤ gb508)); have n5_ := Aside0.mk ((by rw [hg]; exact Nat.ne_of_lt (blk_lt (g := gb507) (o := .cells #[.int .i64 a0_0, .int .i64 a0_1, .slice A0_2 l0_2.length c0_2] 24 (0, 0)) (by (with_reducible repeat (first | refine blk_drewN ?_ _ | refine blk_drew ?_ | refine blk_alloc ?_ _)); exact BK507.out)) : gb507 ≠ gb508)); have n6_ := Aside0.mk ((by rw [hg]; exact Nat.ne_of_gt (blk_lt (g := gb507) (o := .cells #[.int .i64 a0_0, .int .i64 a0_1, .slice A0_2 l0_2.length c0_2] 24 (0, 0)) (by (with_reducible repeat (first | refine blk_drewN ?_ _ | refine blk_drew ?_ | refine blk_alloc ?_ _)); exact BK507.out)) : gb508 ≠ gb507)); clear BK507; clear HB; have BK507 := n0_; have HB := n1_; have BK508 := n2_; have GW508 := n3_; have GE508 := n4_; have NB507_508 := n5_; have NB508_507 := n6_; clear n0_ n1_ n2_ n3_ n4_ n5_ n6_; clear hb hbox hg) | ((with_reducible refine gate_dst (N := 3) rfl ?_); refine box_event ?hg (N := 3) ?hd (cs := #[.int .i64 0, .int .i64 0, .slice none 0 0]) (t := 29) ?hr ?_; (case hd => rfl); (case hg => rfl); (case hr => first | (go_simp; done) | (go_simp; rfl)); intro gb509 hg w5 hbox hb; have n0_ := Aside0.mk (blk_below (g := gb507) (o := .cells #[.int .i64 a0_0, .int .i64 a0_1, .slice A0_2 l0_2.length c0_2] 24 (0, 0)) (by (with_reducible repeat (first | refine blk_drewN ?_ _ | refine blk_drew ?_ | refine blk_alloc ?_ _)); exact BK507.out) hb); have n1_ := Aside0.mk (blk_below (g := gb508) (o := .cells #[.int .i64 0, .int .i64 0, .slice none 0 0] 29 (0, 0)) (by (with_reducible repeat (first | refine blk_drewN ?_ _ | refine blk_drew ?_ | refine blk_alloc ?_ _)); exact BK508.out) hb); have n2_ := Aside0.mk (below_step (by repeat (first | (with_reducible first | exact HB.out | apply below_alloc | apply pw_below_drewN | apply below_drew1 | refine below_set ?_ GE507.out | refine below_set ?_ GE508.out) | exact HB.out)) hb); have n3_ := Aside0.mk (hbox); have n4_ := Aside0.mk ((by rw [hg]; exact (below_size (by repeat (first | (with_reducible first | exact HB.out | apply below_alloc | apply pw_below_drewN | apply below_drew1 | refine below_set ?_ GE507.out | refine below_set ?_ GE508.out) | exact HB.out))) : w.heap.size ≤ gb509)); have n5_ := Aside0.mk ((by rw [hg]; exact (below_size (by repeat (first | (with_reducible first | exact HB.out | apply below_alloc | apply pw_below_drewN | apply below_drew1 | refine below_set ?_ GE507.out | refine below_set ?_ GE508.out) | exact HB.out))) : w.heap.size ≤ gb509)); have n6_ := Aside0.mk ((by rw [hg]; exact Nat.ne_of_lt (blk_lt (g := gb507) (o := .cells #[.int .i64 a0_0, .int .i64 a0_1, .slice A0_2 l0_2.length c0_2] 24 (0, 0)) (by (with_reducible repeat (first | refine blk_drewN ?_ _ | refine blk_drew ?_ | refine blk_alloc ?_ _)); exact BK507.out)) : gb507 ≠ gb509)); have n7_ := Aside0.mk ((by rw [hg]; exact Nat.ne_of_gt (blk_lt (g := gb507) (o := .cells #[.int .i64 a0_0, .int .i64 a0_1, .slice A0_2 l0_2.length c0_2] 24 (0, 0)) (by (with_reducible repeat (first | refine blk_drewN ?_ _ | refine blk_drew ?_ | refine blk_alloc ?_ _)); exact BK507.out)) : gb509 ≠ gb507)); have n8_ := Aside0.mk ((by rw [hg]; exact Nat.ne_of_lt (blk_lt (g := gb508) (o := .cells #[.int .i64 0, .int .i64 0, .slice none 0 0] 29 (0, 0)) (by (with_reducible repeat (first | refine blk_drewN ?_ _ | refine blk_drew ?_ | refine blk_alloc ?_ _)); exact BK508.out)) : gb508 ≠ gb509)); have n9_ := Aside0.mk ((by rw [hg]; exact Nat.ne_of_gt (blk_lt (g := gb508) (o := .cells #[.int .i64 0, .int .i64 0, .slice none 0 0] 29 (0, 0)) (by (with_reducible repeat (first | refine blk_drewN ?_ _ | refine blk_drew ?_ | refine blk_alloc ?_ _)); exact BK508.out)) : gb509 ≠ gb508)); clear BK507; clear BK508; clear HB; have BK507 := n0_; have BK508 := n1_; have HB := n2_; have BK509 := n3_; have GW509 := n4_; have GE509 := n5_; have NB507_509 := n6_; have NB509_507 := n7_; have NB508_509 := n8_; have NB509_508 := n9_; clear n0_ n1_ n2_ n3_ n4_ n5_ n6_ n7_ n8_ n9_; clear hb hbox hg; have hnb6 := NB507_508.out; have hnc6 := NB508_507.out; have hnb7 := NB507_509.out; have hnc7 := NB509_507.out; have hcz8_0 : w5.cell? ⟨gb507, 0, none⟩ = some (.int .i64 a0_0) := (blk_cell BK507.out 0).trans rfl; have hcz8_1 : w5.cell? ⟨gb507, 1, none⟩ = some (.int .i64 a0_1) := (blk_cell BK507.out 1).trans rfl; have hcz8_2 : w5.cell? ⟨gb507, 2, none⟩ = some (.slice A0_2 l0_2.length c0_2) := (blk_cell BK507.out 2).trans rfl; have hfz8_0 := blk_frozen BK507.out 0; have hfz8_1 := blk_frozen BK507.out 1; have hfz8_2 := blk_frozen BK507.out 2; have hnb9 := NB509_508.out; have hnc9 := NB508_509.out; have hcz10_0 : w5.cell? ⟨gb509, 0, none⟩ = some (.int .i64 0) := (blk_cell BK509.out 0).trans rfl; have hcz10_1 : w5.cell? ⟨gb509, 1, none⟩ = some (.int .i64 0) := (blk_cell BK509.out 1).trans rfl; have hcz10_2 : w5.cell? ⟨gb509, 2, none⟩ = some (.slice none 0 0) := (blk_cell BK509.out 2).trans rfl; have hfz10_0 := blk_frozen BK509.out 0; have hfz10_1 := blk_frozen BK509.out 1; have hfz10_2 := blk_frozen BK509.out 2) | ((with_reducible refine gate_callee (f := 56) rfl ?_); refine goesL_ (some 12) rfl rfl Tryd.func56 (by kernel_rfl) rfl #[.slice A0_2 l0_2.length c0_2] rfl (by (try simp only [List.map_toArray, List.map_cons, List.map_nil]); first | done | rfl | (simp only [List.length_drop, List.length_take]; rfl)) ?_; (with_reducible refine (laws_toHostS.calls k _ _ l0_2 t510 _ ?side1 ?side2 A2.out).mono ?_); (case side1 => exact Kd.C_below HR0_2.out (by repeat (first | (with_reducible first | exact HB.out | apply below_alloc | apply pw_below_drewN | apply below_drew1 | refine below_set ?_ GE507.out | refine below_set ?_ GE508.out | refine below_set ?_ GE509.out) | exact HB.out))); (case side2 => exact HC0_2.out); rintro e w11 ⟨v511, rfl, ho0, hb⟩; refine ⟨_, rfl, ?_⟩; have n0_ := Aside0.mk (Kd.R_lower ho0 (below_size (by repeat (first | (with_reducible first | exact HB.out | apply below_alloc | apply pw_below_drewN | apply below_drew1 | refine below_set ?_ GE507.out | refine below_set ?_ GE508.out | refine below_set ?_ GE509.out) | exact HB.out)))); have n1_ := Aside0.mk (blk_below (g := gb507) (o := .cells #[.int .i64 a0_0, .int .i64 a0_1, .slice A0_2 l0_2.length c0_2] 24 (0, 0)) (by (with_reducible repeat (first | refine blk_drewN ?_ _ | refine blk_drew ?_ | refine blk_alloc ?_ _)); refine blk_far ?_ NB507_509.out _; (with_reducible repeat (first | refine blk_drewN ?_ _ | refine blk_drew ?_ | refine blk_alloc ?_ _)); refine blk_far ?_ NB507_509.out _; (with_reducible repeat (first | refine blk_drewN ?_ _ | refine blk_drew ?_ | refine blk_alloc ?_ _)); exact BK507.out) hb); have n2_ := Aside0.mk (blk_below (g := gb508) (o := .cells #[.int .i64 0, .int .i64 0, .slice none 0 0] 29 (0, 0)) (by (with_reducible repeat (first | refine blk_drewN ?_ _ | refine blk_drew ?_ | refine blk_alloc ?_ _)); refine blk_far ?_ NB508_509.out _; (with_reducible repeat (first | refine blk_drewN ?_ _ | refine blk_drew ?_ | refine blk_alloc ?_ _)); refine blk_far ?_ NB508_509.out _; (with_reducible repeat (first | refine blk_drewN ?_ _ | refine blk_drew ?_ | refine blk_alloc ?_ _)); exact BK508.out) hb); have n3_ := Aside0.mk (blk_below (g := gb509) (o := .cells #[.int .i64 a0_0, .int .i64 a0_1, .slice none 0 0] 29 (0, 0)) (by (with_reducible repeat (first | refine blk_drewN ?_ _ | refine blk_drew ?_ | refine blk_alloc ?_ _)); refine blk_put (cs := #[.int .i64 a0_0, .int .i64 0, .slice none 0 0]) ?_ 1 _ rfl; (with_reducible repeat (first | refine blk_drewN ?_ _ | refine blk_drew ?_ | refine blk_alloc ?_ _)); refine blk_put (cs := #[.int .i64 0, .int .i64 0, .slice none 0 0]) ?_ 0 _ rfl; (with_reducible repeat (first | refine blk_drewN ?_ _ | refine blk_drew ?_ | refine blk_alloc ?_ _)); exact BK509.out) hb); have n4_ := Aside0.mk (below_step (by repeat (first | (with_reducible first | exact HB.out | apply below_alloc | apply pw_below_drewN | apply below_drew1 | refine below_set ?_ GE507.out | refine below_set ?_ GE508.out | refine below_set ?_ GE509.out) | exact HB.out)) hb); clear BK507; clear BK508; clear BK509; clear HB; have HO512 := n0_; have BK507 := n1_; have BK508 := n2_; have BK509 := n3_; have HB := n4_; clear n0_ n1_ n2_ n3_ n4_; (try clear hb); (try clear hb2); (try clear hk); (try clear hi); (try clear ho0); obtain ⟨Ao12, co12, eo12⟩ := Kd.R_slice HO512.out; subst eo12; have hcz13_0 : w11.cell? ⟨gb509, 0, none⟩ = some (.int .i64 a0_0) := (blk_cell BK509.out 0).trans rfl; have hcz13_1 : w11.cell? ⟨gb509, 1, none⟩ = some (.int .i64 a0_1) := (blk_cell BK509.out 1).trans rfl; have hcz13_2 : w11.cell? ⟨gb509, 2, none⟩ = some (.slice none 0 0) := (blk_cell BK509.out 2).trans rfl; have hfz13_0 := blk_frozen BK509.out 0; have hfz13_1 := blk_frozen BK509.out 1; have hfz13_2 := blk_frozen BK509.out 2; have hcz14_0 : w11.cell? ⟨gb508, 0, none⟩ = some (.int .i64 0) := (blk_cell BK508.out 0).trans rfl; have hcz14_1 : w11.cell? ⟨gb508, 1, none⟩ = some (.int .i64 0) := (blk_cell BK508.out 1).trans rfl; have hcz14_2 : w11.cell? ⟨gb508, 2, none⟩ = some (.slice none 0 0) := (blk_cell BK508.out 2).trans rfl; have hfz14_0 := blk_frozen BK508.out 0; have hfz14_1 := blk_frozen BK508.out 1; have hfz14_2 := blk_frozen BK508.out 2))
  refine bodyPost_ret (results_cell_row rfl _ _ gb508 29 #[.int .i64 a0_0, .int .i64 a0_1, .slice Ao12 t510.length co12] (0, 0) _ rfl (by (with_reducible repeat (first | refine blk_drewN ?_ _ | refine blk_drew ?_ | refine blk_alloc ?_ _)); refine blk_put (cs := #[.int .i64 a0_0, .int .i64 a0_1, .slice none 0 0]) ?_ 2 _ rfl; (with_reducible repeat (first | refine blk_drewN ?_ _ | refine blk_drew ?_ | refine blk_alloc ?_ _)); refine blk_put (cs := #[.int .i64 a0_0, .int .i64 0, .slice none 0 0]) ?_ 1 _ rfl; (with_reducible repeat (first | refine blk_drewN ?_ _ | refine blk_drew ?_ | refine blk_alloc ?_ _)); refine blk_put (cs := #[.int .i64 0, .int .i64 0, .slice none 0 0]) ?_ 0 _ rfl; (with_reducible repeat (first | refine blk_drewN ?_ _ | refine blk_drew ?_ | refine blk_alloc ?_ _)); refine blk_far ?_ NB508_509.out _; (with_reducible repeat (first | refine blk_drewN ?_ _ | refine blk_drew ?_ | refine blk_alloc ?_ _)); exact BK508.out) Tryd.underlying29 rfl (by kernel_rfl)) rfl ?_
  exact ⟨_, by first | rfl | (simp [errW_none, errW_some] <;> rfl) | (simp [*, errW_none, errW_some] <;> rfl), by (with_reducible repeat (first | apply Kd.R_alloc | apply Kd.R_drewN | apply Kd.R_drew)); exact Kd.R_mono (Kd.R_far (p := ⟨gb508, 2, none⟩) (Kd.R_far (p := ⟨gb508, 1, none⟩) (Kd.R_far (p := ⟨gb508, 0, none⟩) (Kd.R_far (p := ⟨gb509, 2, none⟩) (Kd.R_types (Kd.R_types HO512.out BK509.out (by decide)) BK508.out (by decide)) (fun _ hk => hk.1.2) (.slice Ao12 t510.length co12)) (fun _ hk => hk.2) (.int .i64 a0_0)) (fun _ hk => hk.2) (.int .i64 a0_1)) (fun _ hk => hk.2) (.slice Ao12 t510.length co12)) (fun _ hk => trivial), by repeat (first | (with_reducible first | exact HB.out | apply below_alloc | apply pw_below_drewN | apply below_drew1 | refine below_set ?_ GE507.out | refine below_set ?_ GE508.out | refine below_set ?_ GE509.out) | exact HB.out)⟩
end
section
/-! ### spec_l13Most: function 54 -/
def spec_l13Most.f (a0_0 : Int) (a0_1 : Int) (l0_2 : List (S_Host)) (a1_0 : ByteArray) (a1_1 : Bool) (a1_2 : Int) : Option (Int) := if a1_1 = true then (some a0_1) else (some a0_0)
set_option maxHeartbeats 8000000 in
set_option maxRecDepth 100000 in
theorem spec_l13Most.calls (a0_0 : Int) (a0_1 : Int) (A0_2 : Option Addr) (c0_2 : Nat) (l0_2 : List (S_Host)) (a1_0 : ByteArray) (a1_1 : Bool) (a1_2 : Int) (r : Int) (w : World) (hr0_2 : Kd.C k_Host w A0_2 l0_2.length l0_2) (hc0_2 : l0_2.length ≤ c0_2) (h : spec_l13Most.f a0_0 a0_1 l0_2 a1_0 a1_1 a1_2 = some r) :
    Calls Tryd.prog 54 #[.agg #[.int .i64 a0_0, .int .i64 a0_1, .slice A0_2 l0_2.length c0_2], .agg #[.string a1_0, .bool a1_1, .int .i64 a1_2]] w fun e w' => e = .returned (.int .i64 r) ∧ Below w.heap.size w w' := by
  have hu29 := Tryd.underlying29
  have hu76 := Tryd.underlying76
  have HR0_2 := Aside0.mk hr0_2
  have HC0_2 := Aside0.mk hc0_2
  clear hr0_2 hc0_2
  have HB := Aside0.mk (Below.refl w.heap.size w)
  have H : (if a1_1 = true then (some a0_1) else (some a0_0)) = some r := h
  clear h
  by_cases c3 : a1_1 = true
  · subst c3
    have H1 : (some a0_1) = some r := by rw [if_pos rfl] at H; exact H
    clear H
    have H := H1
    clear H1
    obtain rfl := Option.some.inj H
    go_enter Tryd.func54, Tryd.ntmps54
    go_wp2_with (first | ((with_reducible refine gate_dst (N := 2) rfl ?_); refine box_event ?hg (N := 2) ?hd (cs := #[.int .i64 a0_0, .int .i64 a0_1, .slice A0_2 l0_2.length c0_2]) (t := 29) ?hr ?_; (case hd => rfl); (case hg => rfl); (case hr => first | (go_simp; done) | (go_simp; rfl)); intro gb513 hg w4 hbox hb; have n0_ := Aside0.mk (below_step (by repeat (first | (with_reducible first | exact HB.out | apply below_alloc | apply pw_below_drewN | apply below_drew1) | exact HB.out)) hb); have n1_ := Aside0.mk (hbox); have n2_ := Aside0.mk ((by rw [hg]; exact (below_size (by repeat (first | (with_reducible first | exact HB.out | apply below_alloc | apply pw_below_drewN | apply below_drew1) | exact HB.out))) : w.heap.size ≤ gb513)); have n3_ := Aside0.mk ((by rw [hg]; exact (below_size (by repeat (first | (with_reducible first | exact HB.out | apply below_alloc | apply pw_below_drewN | apply below_drew1) | exact HB.out))) : w.heap.size ≤ gb513)); clear HB; have HB := n0_; have BK513 := n1_; have GW513 := n2_; have GE513 := n3_; clear n0_ n1_ n2_ n3_; clear hb hbox hg) | ((with_reducible refine gate_dst (N := 3) rfl ?_); refine box_event ?hg (N := 3) ?hd (cs := #[.string a1_0, .bool true, .int .i64 a1_2]) (t := 76) ?hr ?_; (case hd => rfl); (case hg => rfl); (case hr => first | (go_simp; done) | (go_simp; rfl)); intro gb514 hg w5 hbox hb; have n0_ := Aside0.mk (blk_below (g := gb513) (o := .cells #[.int .i64 a0_0, .int .i64 a0_1, .slice A0_2 l0_2.length c0_2] 29 (0, 0)) (by (with_reducible repeat (first | refine blk_drewN ?_ _ | refine blk_drew ?_ | refine blk_alloc ?_ _)); exact BK513.out) hb); have n1_ := Aside0.mk (below_step (by repeat (first | (with_reducible first | exact HB.out | apply below_alloc | apply pw_below_drewN | apply below_drew1 | refine below_set ?_ GE513.out) | exact HB.out)) hb); have n2_ := Aside0.mk (hbox); have n3_ := Aside0.mk ((by rw [hg]; exact (below_size (by repeat (first | (with_reducible first | exact HB.out | apply below_alloc | apply pw_below_drewN | apply below_drew1 | refine below_set ?_ GE513.out) | exact HB.out))) : w.heap.size ≤ gb514)); have n4_ := Aside0.mk ((by rw [hg]; exact (below_size (by repeat (first | (with_reducible first | exact HB.out | apply below_alloc | apply pw_below_drewN | apply below_drew1 | refine below_set ?_ GE513.out) | exact HB.out))) : w.heap.size ≤ gb514)); have n5_ := Aside0.mk ((by rw [hg]; exact Nat.ne_of_lt (blk_lt (g := gb513) (o := .cells #[.int .i64 a0_0, .int .i64 a0_1, .slice A0_2 l0_2.length c0_2] 29 (0, 0)) (by (with_reducible repeat (first | refine blk_drewN ?_ _ | refine blk_drew ?_ | refine blk_alloc ?_ _)); exact BK513.out)) : gb513 ≠ gb514)); have n6_ := Aside0.mk ((by rw [hg]; exact Nat.ne_of_gt (blk_lt (g := gb513) (o := .cells #[.int .i64 a0_0, .int .i64 a0_1, .slice A0_2 l0_2.length c0_2] 29 (0, 0)) (by (with_reducible repeat (first | refine blk_drewN ?_ _ | refine blk_drew ?_ | refine blk_alloc ?_ _)); exact BK513.out)) : gb514 ≠ gb513)); clear BK513; clear HB; have BK513 := n0_; have HB := n1_; have BK514 := n2_; have GW514 := n3_; have GE514 := n4_; have NB513_514 := n5_; have NB514_513 := n6_; clear n0_ n1_ n2_ n3_ n4_ n5_ n6_; clear hb hbox hg; have hnb6 := NB514_513.out; have hnc6 := NB513_514.out; have hcz7_0 : w5.cell? ⟨gb514, 0, none⟩ = some (.string a1_0) := (blk_cell BK514.out 0).trans rfl; have hcz7_1 : w5.cell? ⟨gb514, 1, none⟩ = some (.bool true) := (blk_cell BK514.out 1).trans rfl; have hcz7_2 : w5.cell? ⟨gb514, 2, none⟩ = some (.int .i64 a1_2) := (blk_cell BK514.out 2).trans rfl; have hfz7_0 := blk_frozen BK514.out 0; have hfz7_1 := blk_frozen BK514.out 1; have hfz7_2 := blk_frozen BK514.out 2; have hcz8_0 : w5.cell? ⟨gb513, 0, none⟩ = some (.int .i64 a0_0) := (blk_cell BK513.out 0).trans rfl; have hcz8_1 : w5.cell? ⟨gb513, 1, none⟩ = some (.int .i64 a0_1) := (blk_cell BK513.out 1).trans rfl; have hcz8_2 : w5.cell? ⟨gb513, 2, none⟩ = some (.slice A0_2 l0_2.length c0_2) := (blk_cell BK513.out 2).trans rfl; have hfz8_0 := blk_frozen BK513.out 0; have hfz8_1 := blk_frozen BK513.out 1; have hfz8_2 := blk_frozen BK513.out 2))
    go_ret
    exact ⟨by first | rfl | (simp [errW_none, errW_some] <;> rfl) | (simp [*, errW_none, errW_some] <;> rfl), by repeat (first | (with_reducible first | exact HB.out | apply below_alloc | apply pw_below_drewN | apply below_drew1 | refine below_set ?_ GE513.out | refine below_set ?_ GE514.out) | exact HB.out)⟩
  · replace c3 := Bool.eq_false_iff.mpr c3
    subst c3
    have H1 : (some a0_0) = some r := by rw [if_neg (show ¬ (false = true) by decide)] at H; exact H
    clear H
    have H := H1
    clear H1
    obtain rfl := Option.some.inj H
    go_enter Tryd.func54, Tryd.ntmps54
    go_wp2_with (first | ((with_reducible refine gate_dst (N := 2) rfl ?_); refine box_event ?hg (N := 2) ?hd (cs := #[.int .i64 a0_0, .int .i64 a0_1, .slice A0_2 l0_2.length c0_2]) (t := 29) ?hr ?_; (case hd => rfl); (case hg => rfl); (case hr => first | (go_simp; done) | (go_simp; rfl)); intro gb513 hg w9 hbox hb; have n0_ := Aside0.mk (below_step (by repeat (first | (with_reducible first | exact HB.out | apply below_alloc | apply pw_below_drewN | apply below_drew1) | exact HB.out)) hb); have n1_ := Aside0.mk (hbox); have n2_ := Aside0.mk ((by rw [hg]; exact (below_size (by repeat (first | (with_reducible first | exact HB.out | apply below_alloc | apply pw_below_drewN | apply below_drew1) | exact HB.out))) : w.heap.size ≤ gb513)); have n3_ := Aside0.mk ((by rw [hg]; exact (below_size (by repeat (first | (with_reducible first | exact HB.out | apply below_alloc | apply pw_below_drewN | apply below_drew1) | exact HB.out))) : w.heap.size ≤ gb513)); clear HB; have HB := n0_; have BK513 := n1_; have GW513 := n2_; have GE513 := n3_; clear n0_ n1_ n2_ n3_; clear hb hbox hg) | ((with_reducible refine gate_dst (N := 3) rfl ?_); refine box_event ?hg (N := 3) ?hd (cs := #[.string a1_0, .bool false, .int .i64 a1_2]) (t := 76) ?hr ?_; (case hd => rfl); (case hg => rfl); (case hr => first | (go_simp; done) | (go_simp; rfl)); intro gb514 hg w10 hbox hb; have n0_ := Aside0.mk (blk_below (g := gb513) (o := .cells #[.int .i64 a0_0, .int .i64 a0_1, .slice A0_2 l0_2.length c0_2] 29 (0, 0)) (by (with_reducible repeat (first | refine blk_drewN ?_ _ | refine blk_drew ?_ | refine blk_alloc ?_ _)); exact BK513.out) hb); have n1_ := Aside0.mk (below_step (by repeat (first | (with_reducible first | exact HB.out | apply below_alloc | apply pw_below_drewN | apply below_drew1 | refine below_set ?_ GE513.out) | exact HB.out)) hb); have n2_ := Aside0.mk (hbox); have n3_ := Aside0.mk ((by rw [hg]; exact (below_size (by repeat (first | (with_reducible first | exact HB.out | apply below_alloc | apply pw_below_drewN | apply below_drew1 | refine below_set ?_ GE513.out) | exact HB.out))) : w.heap.size ≤ gb514)); have n4_ := Aside0.mk ((by rw [hg]; exact (below_size (by repeat (first | (with_reducible first | exact HB.out | apply below_alloc | apply pw_below_drewN | apply below_drew1 | refine below_set ?_ GE513.out) | exact HB.out))) : w.heap.size ≤ gb514)); have n5_ := Aside0.mk ((by rw [hg]; exact Nat.ne_of_lt (blk_lt (g := gb513) (o := .cells #[.int .i64 a0_0, .int .i64 a0_1, .slice A0_2 l0_2.length c0_2] 29 (0, 0)) (by (with_reducible repeat (first | refine blk_drewN ?_ _ | refine blk_drew ?_ | refine blk_alloc ?_ _)); exact BK513.out)) : gb513 ≠ gb514)); have n6_ := Aside0.mk ((by rw [hg]; exact Nat.ne_of_gt (blk_lt (g := gb513) (o := .cells #[.int .i64 a0_0, .int .i64 a0_1, .slice A0_2 l0_2.length c0_2] 29 (0, 0)) (by (with_reducible repeat (first | refine blk_drewN ?_ _ | refine blk_drew ?_ | refine blk_alloc ?_ _)); exact BK513.out)) : gb514 ≠ gb513)); clear BK513; clear HB; have BK513 := n0_; have HB := n1_; have BK514 := n2_; have GW514 := n3_; have GE514 := n4_; have NB513_514 := n5_; have NB514_513 := n6_; clear n0_ n1_ n2_ n3_ n4_ n5_ n6_; clear hb hbox hg; have hnb11 := NB514_513.out; have hnc11 := NB513_514.out; have hcz12_0 : w10.cell? ⟨gb514, 0, none⟩ = some (.string a1_0) := (blk_cell BK514.out 0).trans rfl; have hcz12_1 : w10.cell? ⟨gb514, 1, none⟩ = some (.bool false) := (blk_cell BK514.out 1).trans rfl; have hcz12_2 : w10.cell? ⟨gb514, 2, none⟩ = some (.int .i64 a1_2) := (blk_cell BK514.out 2).trans rfl; have hfz12_0 := blk_frozen BK514.out 0; have hfz12_1 := blk_frozen BK514.out 1; have hfz12_2 := blk_frozen BK514.out 2; have hcz13_0 : w10.cell? ⟨gb513, 0, none⟩ = some (.int .i64 a0_0) := (blk_cell BK513.out 0).trans rfl; have hcz13_1 : w10.cell? ⟨gb513, 1, none⟩ = some (.int .i64 a0_1) := (blk_cell BK513.out 1).trans rfl; have hcz13_2 : w10.cell? ⟨gb513, 2, none⟩ = some (.slice A0_2 l0_2.length c0_2) := (blk_cell BK513.out 2).trans rfl; have hfz13_0 := blk_frozen BK513.out 0; have hfz13_1 := blk_frozen BK513.out 1; have hfz13_2 := blk_frozen BK513.out 2))
    go_ret
    exact ⟨by first | rfl | (simp [errW_none, errW_some] <;> rfl) | (simp [*, errW_none, errW_some] <;> rfl), by repeat (first | (with_reducible first | exact HB.out | apply below_alloc | apply pw_below_drewN | apply below_drew1 | refine below_set ?_ GE513.out | refine below_set ?_ GE514.out) | exact HB.out)⟩
end
end Go.Proofs.YthckpgglghfiiaaDoor.Pp
