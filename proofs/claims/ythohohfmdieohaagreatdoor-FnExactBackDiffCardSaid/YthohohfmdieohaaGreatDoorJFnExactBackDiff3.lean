/- The functions that the law reaches, one Lean function and its proof for each; written by wip/pp of this workplace, joined by claimit.py. -/
import Derived.Test.YthohohfmdieohaaGreatDoorProg
import Derived.Below
import Derived.Deep.Draws
import Derived.Deep.AppendLies
import Derived.Maps.AppendAt
import Derived.OwnWalk
import Derived.Laws.BytesArg
import Derived.Laws.MakeOwn
import Derived.Laws.OwnMore
import Derived.Deep.OwnRows
import Derived.Tactics
import Derived.Lib.ConvBytes
import Derived.Laws.Slices
import Derived.WalkKit
import Derived.KernelRfl
import Derived.RowKit3
import Derived.Deep.LoopGhost
import Derived.Deep.QuietTactic
import Derived.BigQuiet
import Derived.WideLaws
import Derived.Deep.DeepCutAuto
import Derived.Deep.CutBlock
import Derived.Deep.RegionHeld3
import Derived.Laws.Rows
import Derived.Lib.AppendStr
import Derived.ArgAppend
import Derived.Laws.IdiomCopy
import Derived.OrdersHeld
import Derived.Laws.BitsLemmas
import Derived.RowKit
import Derived.Test.YthohohfmdieohaaGreatDoorKFnExactBackDiffW
import Derived.Test.YthohohfmdieohaaGreatDoorJFnExactBackDiff0
import Derived.Test.YthohohfmdieohaaGreatDoorJFnExactBackDiff1
import Derived.Test.YthohohfmdieohaaGreatDoorJFnExactBackDiff2
namespace Go.Proofs.YthohohfmdieohaaGreatDoor.Pp
open Go.RowKit Go.Proofs.YthohohfmdieohaaGreatDoorW.PrintWords Go.Proofs.YthohohfmdieohaaGreatDoorW.PrintLast Go.Proofs.YthohohfmdieohaaGreatDoorW.PrintMore
attribute [local go_sem] max2_int min2_int max_two min_two max_three min_three max_four min_four   -- for this text's walks alone
set_option linter.unusedVariables false
set_option linter.unusedSimpArgs false
set_option maxHeartbeats 8000000
set_option maxRecDepth 100000

section
/-! ### laws_FnExactBackDiff: function 4 -/
mutual
def laws_FnExactBackDiff.j0 : Nat → Bool → Bool → Bool → Int → Int → List (S_LRecord) → List (S_LRecord) → Int → Int → List (S_Record) → List (S_Record) → Int → Int → List (S_Record) → List (S_Record) → Int → Int → List (S_Record) → List (S_Record) → Option (Bool)
 | 0, _, _, _, _, _, _, _, _, _, _, _, _, _, _, _, _, _, _, _ => none
 | k + 1, x5, x8, x40, x466000, x466001, x466002, x466003, x485000, x485001, x485002, x485003, x494000, x494001, x494002, x494003, x504000, x504001, x504002, x504003 => if x40 = true then (some false) else ((laws_toDiff.f k x466000 x466001 x466002 x466003).bind fun bt505 => ((laws_eqDiff.f k x494000 x494001 x494002 x494003 bt505.1 bt505.2.1 bt505.2.2.1 bt505.2.2.2).bind fun t513 => (if t513 = true then ((laws_markDiff.f k x494000 x494001 x494002 x494003 1).bind fun bt514 => (if bt514.1 < 0 then (laws_FnExactBackDiff.j1 k x5 true x466000 x466001 x466002 x466003 x485000 x485001 x485002 x485003 x504000 x504001 x504002 x504003) else ((laws_eqDiff.f k x504000 x504001 x504002 x504003 x485000 x485001 x485002 x485003).bind fun t517 => (if t517 = true then (laws_FnExactBackDiff.j1 k x5 (x8 != x5) x466000 x466001 x466002 x466003 x485000 x485001 x485002 x485003 x504000 x504001 x504002 x504003) else (laws_FnExactBackDiff.j1 k x5 true x466000 x466001 x466002 x466003 x485000 x485001 x485002 x485003 x504000 x504001 x504002 x504003))))) else (some false))))
def laws_FnExactBackDiff.j1 : Nat → Bool → Bool → Int → Int → List (S_LRecord) → List (S_LRecord) → Int → Int → List (S_Record) → List (S_Record) → Int → Int → List (S_Record) → List (S_Record) → Option (Bool)
 | 0, _, _, _, _, _, _, _, _, _, _, _, _, _, _ => none
 | k + 1, x5, x61, x466000, x466001, x466002, x466003, x485000, x485001, x485002, x485003, x504000, x504001, x504002, x504003 => if x61 = true then (some false) else ((laws_markDiff.f k x504000 x504001 x504002 x504003 1).bind fun bt518 => ((laws_heldDiff.f k x504000 x504001 bt518.2.1 bt518.2.2 1).bind fun t521 => (if t521 < 0 then (some false) else (if t521 = bt518.1 then ((laws_toDiff.f k x466000 x466001 x466002 x466003).bind fun bt522 => ((impl_BackDiff.f k bt522.1 bt522.2.1 bt522.2.2.1 bt522.2.2.2).bind fun bt530 => ((laws_eqDiff.f k bt530.1 bt530.2.1 bt530.2.2.1 bt530.2.2.2.1 x485000 x485001 x485002 x485003).bind fun t540 => (if t540 = true then (laws_FnExactBackDiff.j2 k bt518.1 (bt530.2.2.2.2 != x5) x504000 x504001 bt518.2.1 bt518.2.2) else (laws_FnExactBackDiff.j2 k bt518.1 true x504000 x504001 bt518.2.1 bt518.2.2))))) else (some false)))))
def laws_FnExactBackDiff.j2 : Nat → Int → Bool → Int → Int → List (S_Record) → List (S_Record) → Option (Bool)
 | 0, _, _, _, _, _, _ => none
 | k + 1, x10, x87, x504000, x504001, x504002, x504003 => if x87 = true then (some false) else ((laws_heldDiff.f k x504000 x504001 x504002 x504003 1).bind fun t541 => (if t541 < 0 then (some false) else (if t541 = x10 then (some true) else (some false))))
end
def laws_FnExactBackDiff.f (k : Nat) (a0_0 : Int) (a0_1 : Int) (l0_2 : List (S_LRecord)) (l0_3 : List (S_LRecord)) : Option (Bool) := (laws_szDiff.f k a0_0 a0_1 l0_2 l0_3 1048576).bind fun t466 => (if t466 < 0 then (some true) else ((laws_toDiff.f k a0_0 a0_1 l0_2 l0_3).bind fun bt467 => ((spec_BackDiff.f k bt467.1 bt467.2.1 bt467.2.2.1 bt467.2.2.2).bind fun bt475 => ((laws_toDiff.f k a0_0 a0_1 l0_2 l0_3).bind fun bt485 => ((impl_BackDiff.f k bt485.1 bt485.2.1 bt485.2.2.1 bt485.2.2.2).bind fun bt494 => ((laws_eqDiff.f k bt494.1 bt494.2.1 bt494.2.2.1 bt494.2.2.2.1 bt475.1 bt475.2.1 bt475.2.2.1 bt475.2.2.2.1).bind fun t504 => (if t504 = true then (laws_FnExactBackDiff.j0 k bt475.2.2.2.2 bt494.2.2.2.2 (bt494.2.2.2.2 != bt475.2.2.2.2) a0_0 a0_1 l0_2 l0_3 bt475.1 bt475.2.1 bt475.2.2.1 bt475.2.2.2.1 bt485.1 bt485.2.1 bt485.2.2.1 bt485.2.2.2 bt494.1 bt494.2.1 bt494.2.2.1 bt494.2.2.2.1) else (laws_FnExactBackDiff.j0 k bt475.2.2.2.2 bt494.2.2.2.2 true a0_0 a0_1 l0_2 l0_3 bt475.1 bt475.2.1 bt475.2.2.1 bt475.2.2.2.1 bt485.1 bt485.2.1 bt485.2.2.1 bt485.2.2.2 bt494.1 bt494.2.1 bt494.2.2.1 bt494.2.2.2.1))))))))
theorem laws_FnExactBackDiff.mono_l : ∀ k, (∀ y0 y1 y2 y3 y4 y5 y6 y7 y8 y9 y10 y11 y12 y13 y14 y15 y16 y17 y18, LeO (laws_FnExactBackDiff.j0 k y0 y1 y2 y3 y4 y5 y6 y7 y8 y9 y10 y11 y12 y13 y14 y15 y16 y17 y18) (laws_FnExactBackDiff.j0 (k + 1) y0 y1 y2 y3 y4 y5 y6 y7 y8 y9 y10 y11 y12 y13 y14 y15 y16 y17 y18)) ∧ (∀ y0 y1 y2 y3 y4 y5 y6 y7 y8 y9 y10 y11 y12 y13, LeO (laws_FnExactBackDiff.j1 k y0 y1 y2 y3 y4 y5 y6 y7 y8 y9 y10 y11 y12 y13) (laws_FnExactBackDiff.j1 (k + 1) y0 y1 y2 y3 y4 y5 y6 y7 y8 y9 y10 y11 y12 y13)) ∧ (∀ y0 y1 y2 y3 y4 y5, LeO (laws_FnExactBackDiff.j2 k y0 y1 y2 y3 y4 y5) (laws_FnExactBackDiff.j2 (k + 1) y0 y1 y2 y3 y4 y5))
 | 0 => ⟨fun _ _ _ _ _ _ _ _ _ _ _ _ _ _ _ _ _ _ _ r h => by simp [laws_FnExactBackDiff.j0] at h, fun _ _ _ _ _ _ _ _ _ _ _ _ _ _ r h => by simp [laws_FnExactBackDiff.j1] at h, fun _ _ _ _ _ _ r h => by simp [laws_FnExactBackDiff.j2] at h⟩
 | k + 1 => by
  obtain ⟨ih0, ih1, ih2⟩ := laws_FnExactBackDiff.mono_l k
  refine ⟨?_, ?_, ?_⟩
  ·intro y0 y1 y2 y3 y4 y5 y6 y7 y8 y9 y10 y11 y12 y13 y14 y15 y16 y17 y18
   unfold laws_FnExactBackDiff.j0
   repeat' first
   | (with_reducible exact ih0 _ _ _ _ _ _ _ _ _ _ _ _ _ _ _ _ _ _ _)
   | (with_reducible exact ih1 _ _ _ _ _ _ _ _ _ _ _ _ _ _)
   | (with_reducible exact ih2 _ _ _ _ _ _)
   | (with_reducible exact impl_BackDiff.mono _ _ _ _ _)
   | (with_reducible exact laws_eqDiff.mono _ _ _ _ _ _ _ _ _)
   | (with_reducible exact laws_heldDiff.mono _ _ _ _ _ _)
   | (with_reducible exact laws_markDiff.mono _ _ _ _ _ _)
   | (with_reducible exact laws_szDiff.mono _ _ _ _ _ _)
   | (with_reducible exact laws_toDiff.mono _ _ _ _ _)
   | (with_reducible exact spec_BackDiff.mono _ _ _ _ _)
   | (with_reducible exact LeO.refl _)
   | (with_reducible exact LeO.none _)
   | (with_reducible refine LeO.ite ?_ ?_)
   | (with_reducible refine LeO.bind ?_ (fun _ => ?_))
   | exact ih0 _ _ _ _ _ _ _ _ _ _ _ _ _ _ _ _ _ _ _
   | exact ih1 _ _ _ _ _ _ _ _ _ _ _ _ _ _
   | exact ih2 _ _ _ _ _ _
   | exact impl_BackDiff.mono _ _ _ _ _
   | exact laws_eqDiff.mono _ _ _ _ _ _ _ _ _
   | exact laws_heldDiff.mono _ _ _ _ _ _
   | exact laws_markDiff.mono _ _ _ _ _ _
   | exact laws_szDiff.mono _ _ _ _ _ _
   | exact laws_toDiff.mono _ _ _ _ _
   | exact spec_BackDiff.mono _ _ _ _ _
   | exact LeO.none _
   | refine LeO.ite ?_ ?_
   | refine LeO.bind ?_ (fun _ => ?_)
  ·intro y0 y1 y2 y3 y4 y5 y6 y7 y8 y9 y10 y11 y12 y13
   unfold laws_FnExactBackDiff.j1
   repeat' first
   | (with_reducible exact ih0 _ _ _ _ _ _ _ _ _ _ _ _ _ _ _ _ _ _ _)
   | (with_reducible exact ih1 _ _ _ _ _ _ _ _ _ _ _ _ _ _)
   | (with_reducible exact ih2 _ _ _ _ _ _)
   | (with_reducible exact impl_BackDiff.mono _ _ _ _ _)
   | (with_reducible exact laws_eqDiff.mono _ _ _ _ _ _ _ _ _)
   | (with_reducible exact laws_heldDiff.mono _ _ _ _ _ _)
   | (with_reducible exact laws_markDiff.mono _ _ _ _ _ _)
   | (with_reducible exact laws_szDiff.mono _ _ _ _ _ _)
   | (with_reducible exact laws_toDiff.mono _ _ _ _ _)
   | (with_reducible exact spec_BackDiff.mono _ _ _ _ _)
   | (with_reducible exact LeO.refl _)
   | (with_reducible exact LeO.none _)
   | (with_reducible refine LeO.ite ?_ ?_)
   | (with_reducible refine LeO.bind ?_ (fun _ => ?_))
   | exact ih0 _ _ _ _ _ _ _ _ _ _ _ _ _ _ _ _ _ _ _
   | exact ih1 _ _ _ _ _ _ _ _ _ _ _ _ _ _
   | exact ih2 _ _ _ _ _ _
   | exact impl_BackDiff.mono _ _ _ _ _
   | exact laws_eqDiff.mono _ _ _ _ _ _ _ _ _
   | exact laws_heldDiff.mono _ _ _ _ _ _
   | exact laws_markDiff.mono _ _ _ _ _ _
   | exact laws_szDiff.mono _ _ _ _ _ _
   | exact laws_toDiff.mono _ _ _ _ _
   | exact spec_BackDiff.mono _ _ _ _ _
   | exact LeO.none _
   | refine LeO.ite ?_ ?_
   | refine LeO.bind ?_ (fun _ => ?_)
  ·intro y0 y1 y2 y3 y4 y5
   unfold laws_FnExactBackDiff.j2
   repeat' first
   | (with_reducible exact ih0 _ _ _ _ _ _ _ _ _ _ _ _ _ _ _ _ _ _ _)
   | (with_reducible exact ih1 _ _ _ _ _ _ _ _ _ _ _ _ _ _)
   | (with_reducible exact ih2 _ _ _ _ _ _)
   | (with_reducible exact impl_BackDiff.mono _ _ _ _ _)
   | (with_reducible exact laws_eqDiff.mono _ _ _ _ _ _ _ _ _)
   | (with_reducible exact laws_heldDiff.mono _ _ _ _ _ _)
   | (with_reducible exact laws_markDiff.mono _ _ _ _ _ _)
   | (with_reducible exact laws_szDiff.mono _ _ _ _ _ _)
   | (with_reducible exact laws_toDiff.mono _ _ _ _ _)
   | (with_reducible exact spec_BackDiff.mono _ _ _ _ _)
   | (with_reducible exact LeO.refl _)
   | (with_reducible exact LeO.none _)
   | (with_reducible refine LeO.ite ?_ ?_)
   | (with_reducible refine LeO.bind ?_ (fun _ => ?_))
   | exact ih0 _ _ _ _ _ _ _ _ _ _ _ _ _ _ _ _ _ _ _
   | exact ih1 _ _ _ _ _ _ _ _ _ _ _ _ _ _
   | exact ih2 _ _ _ _ _ _
   | exact impl_BackDiff.mono _ _ _ _ _
   | exact laws_eqDiff.mono _ _ _ _ _ _ _ _ _
   | exact laws_heldDiff.mono _ _ _ _ _ _
   | exact laws_markDiff.mono _ _ _ _ _ _
   | exact laws_szDiff.mono _ _ _ _ _ _
   | exact laws_toDiff.mono _ _ _ _ _
   | exact spec_BackDiff.mono _ _ _ _ _
   | exact LeO.none _
   | refine LeO.ite ?_ ?_
   | refine LeO.bind ?_ (fun _ => ?_)
theorem laws_FnExactBackDiff.mono : ∀ a0 a1 a2 a3 k, LeO (laws_FnExactBackDiff.f k a0 a1 a2 a3) (laws_FnExactBackDiff.f (k + 1) a0 a1 a2 a3) := by
 intro a0 a1 a2 a3 k
 obtain ⟨ih0, ih1, ih2⟩ := laws_FnExactBackDiff.mono_l k
 unfold laws_FnExactBackDiff.f
 repeat' first
   | (with_reducible exact ih0 _ _ _ _ _ _ _ _ _ _ _ _ _ _ _ _ _ _ _)
   | (with_reducible exact ih1 _ _ _ _ _ _ _ _ _ _ _ _ _ _)
   | (with_reducible exact ih2 _ _ _ _ _ _)
   | (with_reducible exact impl_BackDiff.mono _ _ _ _ _)
   | (with_reducible exact laws_eqDiff.mono _ _ _ _ _ _ _ _ _)
   | (with_reducible exact laws_heldDiff.mono _ _ _ _ _ _)
   | (with_reducible exact laws_markDiff.mono _ _ _ _ _ _)
   | (with_reducible exact laws_szDiff.mono _ _ _ _ _ _)
   | (with_reducible exact laws_toDiff.mono _ _ _ _ _)
   | (with_reducible exact spec_BackDiff.mono _ _ _ _ _)
   | (with_reducible exact LeO.refl _)
   | (with_reducible exact LeO.none _)
   | (with_reducible refine LeO.ite ?_ ?_)
   | (with_reducible refine LeO.bind ?_ (fun _ => ?_))
   | exact ih0 _ _ _ _ _ _ _ _ _ _ _ _ _ _ _ _ _ _ _
   | exact ih1 _ _ _ _ _ _ _ _ _ _ _ _ _ _
   | exact ih2 _ _ _ _ _ _
   | exact impl_BackDiff.mono _ _ _ _ _
   | exact laws_eqDiff.mono _ _ _ _ _ _ _ _ _
   | exact laws_heldDiff.mono _ _ _ _ _ _
   | exact laws_markDiff.mono _ _ _ _ _ _
   | exact laws_szDiff.mono _ _ _ _ _ _
   | exact laws_toDiff.mono _ _ _ _ _
   | exact spec_BackDiff.mono _ _ _ _ _
   | exact LeO.none _
   | refine LeO.ite ?_ ?_
   | refine LeO.bind ?_ (fun _ => ?_)
theorem laws_FnExactBackDiff.calls (k : Nat) (a0_0 : Int) (a0_1 : Int) (A0_2 : Option Addr) (c0_2 : Nat) (l0_2 : List (S_LRecord)) (A0_3 : Option Addr) (c0_3 : Nat) (l0_3 : List (S_LRecord)) (r : Bool) (w : World) (hr0_2 : Kd.C k_LRecord w A0_2 l0_2.length l0_2) (hc0_2 : l0_2.length ≤ c0_2) (hr0_3 : Kd.C k_LRecord w A0_3 l0_3.length l0_3) (hc0_3 : l0_3.length ≤ c0_3) (hG_ : Glob w) (h : laws_FnExactBackDiff.f k a0_0 a0_1 l0_2 l0_3 = some r) :
  Calls Tryz.prog 4 #[.agg #[.int .i64 a0_0, .int .i64 a0_1, .slice A0_2 l0_2.length c0_2, .slice A0_3 l0_3.length c0_3]] w fun e w' => e = .returned (.bool r) ∧ Below w.heap.size w w' := by
 have hu24 := Tryz.underlying24
 have hu29 := Tryz.underlying29
 have HR0_2 := Aside0.mk hr0_2
 have HC0_2 := Aside0.mk hc0_2
 clear hr0_2 hc0_2
 have HR0_3 := Aside0.mk hr0_3
 have HC0_3 := Aside0.mk hc0_3
 clear hr0_3 hc0_3
 have HGL := Aside0.mk hG_
 clear hG_
 have HB := Aside0.mk (Below.refl w.heap.size w)
 have H : ((laws_szDiff.f k a0_0 a0_1 l0_2 l0_3 1048576).bind fun t466 => (if t466 < 0 then (some true) else ((laws_toDiff.f k a0_0 a0_1 l0_2 l0_3).bind fun bt467 => ((spec_BackDiff.f k bt467.1 bt467.2.1 bt467.2.2.1 bt467.2.2.2).bind fun bt475 => ((laws_toDiff.f k a0_0 a0_1 l0_2 l0_3).bind fun bt485 => ((impl_BackDiff.f k bt485.1 bt485.2.1 bt485.2.2.1 bt485.2.2.2).bind fun bt494 => ((laws_eqDiff.f k bt494.1 bt494.2.1 bt494.2.2.1 bt494.2.2.2.1 bt475.1 bt475.2.1 bt475.2.2.1 bt475.2.2.2.1).bind fun t504 => (if t504 = true then (laws_FnExactBackDiff.j0 k bt475.2.2.2.2 bt494.2.2.2.2 (bt494.2.2.2.2 != bt475.2.2.2.2) a0_0 a0_1 l0_2 l0_3 bt475.1 bt475.2.1 bt475.2.2.1 bt475.2.2.2.1 bt485.1 bt485.2.1 bt485.2.2.1 bt485.2.2.2 bt494.1 bt494.2.1 bt494.2.2.1 bt494.2.2.2.1) else (laws_FnExactBackDiff.j0 k bt475.2.2.2.2 bt494.2.2.2.2 true a0_0 a0_1 l0_2 l0_3 bt475.1 bt475.2.1 bt475.2.2.1 bt475.2.2.2.1 bt485.1 bt485.2.1 bt485.2.2.1 bt485.2.2.2 bt494.1 bt494.2.1 bt494.2.2.1 bt494.2.2.2.1))))))))) = some r := h
 clear h
 obtain ⟨t466, A2, H⟩ := bnd H
 by_cases c3 : t466 < 0
 ·rw [if_pos c3] at H
  have c3b0 : decide (t466 < 0) = true := decide_eq_true c3
  clear c3
  obtain rfl := Option.some.inj H
  go_enter Tryz.func4, Tryz.ntmps4
  go_wp2_with (first | ((with_reducible refine gate_dst (N := 1) rfl ?_); refine bE 1 #[.int .i64 a0_0, .int .i64 a0_1, .slice A0_2 l0_2.length c0_2, .slice A0_3 l0_3.length c0_3] 24 ?_; intro gb465 hg w4 hbox hb; have BK465 := Aside0.mk (hbox); have GE465 := bG hg; replace HB := BS hb; clear hb hbox hg; have hcz5 := cz4 BK465) | ((with_reducible refine gate_callee (f := 15) rfl ?_); refine goesL_ (some 16) rfl rfl Tryz.func15 KR rfl #[.agg #[.int .i64 a0_0, .int .i64 a0_1, .slice A0_2 l0_2.length c0_2, .slice A0_3 l0_3.length c0_3], .int .i64 1048576] rfl TA ?_; (with_reducible refine (laws_szDiff.calls k a0_0 a0_1 _ _ l0_2 _ _ l0_3 1048576 t466 _ ?side1 ?side2 ?side3 ?side4 A2.out).mono ?_); (case side1 => exact CW ((Kd.C_below HR0_2.out HB.out))); (case side2 => exact HC0_2.out); (case side3 => exact CW ((Kd.C_below HR0_3.out HB.out))); (case side4 => exact HC0_3.out); rintro e w6 ⟨rfl, hb⟩; refine ⟨_, rfl, ?_⟩; replace BK465 := KB BK465 hb; replace HB := BS hb; (try clear hb); (try clear hb2); (try clear hk); (try clear hi)))
  go_ret
  exact ⟨TE, TB⟩
 ·rw [if_neg c3] at H
  have c3b0 : decide (t466 < 0) = false := decide_eq_false c3
  clear c3
  obtain ⟨⟨t467, t468, t469, t472⟩, A7, H⟩ := bnd H
  try dsimp only at H
  obtain ⟨⟨t475, t476, t477, t480, t483⟩, A8, H⟩ := bnd H
  try dsimp only at H
  obtain ⟨⟨t485, t486, t487, t490⟩, A9, H⟩ := bnd H
  try dsimp only at H
  obtain ⟨⟨t494, t495, t496, t499, t502⟩, A10, H⟩ := bnd H
  try dsimp only at H
  have HC11 := Aside0.mk H
  clear H
  go_enter Tryz.func4, Tryz.ntmps4
  go_upto_region 8 with (first | ((with_reducible refine gate_dst (N := 1) rfl ?_); refine bE 1 #[.int .i64 a0_0, .int .i64 a0_1, .slice A0_2 l0_2.length c0_2, .slice A0_3 l0_3.length c0_3] 24 ?_; intro gb465 hg w12 hbox hb; have BK465 := Aside0.mk (hbox); have GE465 := bG hg; replace HB := BS hb; clear hb hbox hg; have hcz13 := cz4 BK465) | ((with_reducible refine gate_callee (f := 15) rfl ?_); refine goesL_ (some 16) rfl rfl Tryz.func15 KR rfl #[.agg #[.int .i64 a0_0, .int .i64 a0_1, .slice A0_2 l0_2.length c0_2, .slice A0_3 l0_3.length c0_3], .int .i64 1048576] rfl TA ?_; (with_reducible refine (laws_szDiff.calls k a0_0 a0_1 _ _ l0_2 _ _ l0_3 1048576 t466 _ ?side1 ?side2 ?side3 ?side4 A2.out).mono ?_); (case side1 => exact CW ((Kd.C_below HR0_2.out HB.out))); (case side2 => exact HC0_2.out); (case side3 => exact CW ((Kd.C_below HR0_3.out HB.out))); (case side4 => exact HC0_3.out); rintro e w14 ⟨rfl, hb⟩; refine ⟨_, rfl, ?_⟩; replace BK465 := KB BK465 hb; replace HB := BS hb; (try clear hb); (try clear hb2); (try clear hk); (try clear hi); have hcz15 := cz4 BK465) | ((with_reducible refine gate_callee (f := 17) rfl ?_); refine goesL_ (some 21) rfl rfl Tryz.func17 KR rfl #[.agg #[.int .i64 a0_0, .int .i64 a0_1, .slice A0_2 l0_2.length c0_2, .slice A0_3 l0_3.length c0_3]] rfl TA ?_; (with_reducible refine (laws_toDiff.calls k a0_0 a0_1 _ _ l0_2 _ _ l0_3 t467 t468 t469 t472 _ ?side1 ?side2 ?side3 ?side4 A7.out).mono ?_); (case side1 => exact CW ((Kd.C_below HR0_2.out HB.out))); (case side2 => exact HC0_2.out); (case side3 => exact CW ((Kd.C_below HR0_3.out HB.out))); (case side4 => exact HC0_3.out); rintro e w16 ⟨v470, v473, rfl, ho0, ho1, hb⟩; refine ⟨_, rfl, ?_⟩; have HO471 := RL ho0; have HO474 := RL ho1; replace BK465 := KB BK465 hb; replace HB := BS hb; (try clear hb); (try clear hb2); (try clear hk); (try clear hi); (try clear ho0); (try clear ho1); obtain ⟨Ao17, co17, eo17⟩ := Kd.R_slice HO471.out; subst eo17; obtain ⟨Ao18, co18, eo18⟩ := Kd.R_slice HO474.out; subst eo18) | ((with_reducible refine gate_callee (f := 20) rfl ?_); refine goesL_ (some 22) rfl rfl Tryz.func20 KR rfl #[.agg #[.int .i64 t467, .int .i64 t468, .slice Ao17 t469.length co17, .slice Ao18 t472.length co18]] rfl TA ?_; (with_reducible refine (spec_BackDiff.calls k t467 t468 _ _ t469 _ _ t472 t475 t476 t477 t480 t483 _ ?side1 ?side2 ?side3 ?side4 A8.out).mono ?_); (case side1 => exact CW ((Kd.R_reads' HO471.out).2.2)); (case side2 => exact (Kd.R_reads' HO471.out).2.1); (case side3 => exact CW ((Kd.R_reads' HO474.out).2.2)); (case side4 => exact (Kd.R_reads' HO474.out).2.1); rintro e w19 ⟨v478, v481, rfl, ho0, ho1, hb⟩; refine ⟨_, rfl, ?_⟩; have HO479 := Aside0.mk (Kd.R_lower (Kd.R_new' (Kd.R_new' ho0 (Kd.R_lt (RW HO471).out)) (Kd.R_lt (RW HO474).out)) (below_size TB)); have HO482 := Aside0.mk (Kd.R_lower (Kd.R_new' (Kd.R_new' ho1 (Kd.R_lt (RW HO471).out)) (Kd.R_lt (RW HO474).out)) (below_size TB)); replace HO471 := Aside0.mk (Kd.R_mono (Kd.R_told (Kd.R_told (Kd.R_old (RW HO471).out hb) (Kd.R_base ho0)) (Kd.R_base ho1)) (fun _ h_ => h_.1)); replace HO474 := Aside0.mk (Kd.R_mono (Kd.R_told (Kd.R_told (Kd.R_old (RW HO474).out hb) (Kd.R_base ho0)) (Kd.R_base ho1)) (fun _ h_ => h_.1)); replace BK465 := KB BK465 hb; replace HB := BS hb; (try clear hb); (try clear hb2); (try clear hk); (try clear hi); (try clear ho0); (try clear ho1)) | ((with_reducible refine gate_dst (N := 4) rfl ?_); refine bE 4 #[.int .i64 0, .int .i64 0, .slice none 0 0, .slice none 0 0] 29 ?_; intro gb484 hg w20 hbox hb; replace HO471 := RB HO471 hb; replace HO474 := RB HO474 hb; replace HO479 := RB HO479 hb; replace HO482 := RB HO482 hb; have BK484 := Aside0.mk (hbox); have GE484 := bG hg; replace HB := BS hb; have NB465_484 := bN BK465 hg; have NB484_465 := bM BK465 hg; replace BK465 := KB BK465 hb; clear hb hbox hg; have hnb21 := NB484_465.out; have hnc21 := NB465_484.out; have hcz22 := cz4 BK484; obtain ⟨Ao23, co23, eo23⟩ := Kd.R_slice HO479.out; subst eo23; obtain ⟨Ao24, co24, eo24⟩ := Kd.R_slice HO482.out; subst eo24; have hcz25 := cz4 BK465) | ((with_reducible refine gate_callee (f := 17) rfl ?_); refine goesL_ (some 26) rfl rfl Tryz.func17 KR rfl #[.agg #[.int .i64 a0_0, .int .i64 a0_1, .slice A0_2 l0_2.length c0_2, .slice A0_3 l0_3.length c0_3]] rfl TA ?_; (with_reducible refine (laws_toDiff.calls k a0_0 a0_1 _ _ l0_2 _ _ l0_3 t485 t486 t487 t490 _ ?side1 ?side2 ?side3 ?side4 A9.out).mono ?_); (case side1 => exact Kd.C_below HR0_2.out TB); (case side2 => exact HC0_2.out); (case side3 => exact Kd.C_below HR0_3.out TB); (case side4 => exact HC0_3.out); rintro e w26 ⟨v488, v491, rfl, ho0, ho1, hb⟩; refine ⟨_, rfl, ?_⟩; have HO489 := Aside0.mk (Kd.R_lower (Kd.R_new' (Kd.R_new' (Kd.R_new' (Kd.R_new' ho0 (Kd.R_lt (by (with_reducible repeat (first | apply Kd.R_alloc | apply Kd.R_drewN | apply Kd.R_drew)); exact (Kd.R_mono (Kd.R_far (p := ⟨gb484, 3, none⟩) (Kd.R_far (p := ⟨gb484, 2, none⟩) (Kd.R_far (p := ⟨gb484, 1, none⟩) (Kd.R_far (p := ⟨gb484, 0, none⟩) (Kd.R_types HO471.out BK484.out (by decide)) (fun _ hk => hk.2) (.int .i64 t475)) (fun _ hk => hk.2) (.int .i64 t476)) (fun _ hk => hk.2) (.slice Ao23 t477.length co23)) (fun _ hk => hk.2) (.slice Ao24 t480.length co24)) (fun _ h_ => h_.1))))) (Kd.R_lt (by (with_reducible repeat (first | apply Kd.R_alloc | apply Kd.R_drewN | apply Kd.R_drew)); exact (Kd.R_mono (Kd.R_far (p := ⟨gb484, 3, none⟩) (Kd.R_far (p := ⟨gb484, 2, none⟩) (Kd.R_far (p := ⟨gb484, 1, none⟩) (Kd.R_far (p := ⟨gb484, 0, none⟩) (Kd.R_types HO474.out BK484.out (by decide)) (fun _ hk => hk.2) (.int .i64 t475)) (fun _ hk => hk.2) (.int .i64 t476)) (fun _ hk => hk.2) (.slice Ao23 t477.length co23)) (fun _ hk => hk.2) (.slice Ao24 t480.length co24)) (fun _ h_ => h_.1))))) (Kd.R_lt (by (with_reducible repeat (first | apply Kd.R_alloc | apply Kd.R_drewN | apply Kd.R_drew)); exact (Kd.R_mono (Kd.R_far (p := ⟨gb484, 3, none⟩) (Kd.R_far (p := ⟨gb484, 2, none⟩) (Kd.R_far (p := ⟨gb484, 1, none⟩) (Kd.R_far (p := ⟨gb484, 0, none⟩) (Kd.R_types HO479.out BK484.out (by decide)) (fun _ hk => hk.2) (.int .i64 t475)) (fun _ hk => hk.2) (.int .i64 t476)) (fun _ hk => hk.2) (.slice Ao23 t477.length co23)) (fun _ hk => hk.2) (.slice Ao24 t480.length co24)) (fun _ h_ => h_.1))))) (Kd.R_lt (by (with_reducible repeat (first | apply Kd.R_alloc | apply Kd.R_drewN | apply Kd.R_drew)); exact (Kd.R_mono (Kd.R_far (p := ⟨gb484, 3, none⟩) (Kd.R_far (p := ⟨gb484, 2, none⟩) (Kd.R_far (p := ⟨gb484, 1, none⟩) (Kd.R_far (p := ⟨gb484, 0, none⟩) (Kd.R_types HO482.out BK484.out (by decide)) (fun _ hk => hk.2) (.int .i64 t475)) (fun _ hk => hk.2) (.int .i64 t476)) (fun _ hk => hk.2) (.slice Ao23 t477.length co23)) (fun _ hk => hk.2) (.slice Ao24 t480.length co24)) (fun _ h_ => h_.1))))) (below_size TB)); have HO492 := Aside0.mk (Kd.R_lower (Kd.R_new' (Kd.R_new' (Kd.R_new' (Kd.R_new' ho1 (Kd.R_lt (by (with_reducible repeat (first | apply Kd.R_alloc | apply Kd.R_drewN | apply Kd.R_drew)); exact (Kd.R_mono (Kd.R_far (p := ⟨gb484, 3, none⟩) (Kd.R_far (p := ⟨gb484, 2, none⟩) (Kd.R_far (p := ⟨gb484, 1, none⟩) (Kd.R_far (p := ⟨gb484, 0, none⟩) (Kd.R_types HO471.out BK484.out (by decide)) (fun _ hk => hk.2) (.int .i64 t475)) (fun _ hk => hk.2) (.int .i64 t476)) (fun _ hk => hk.2) (.slice Ao23 t477.length co23)) (fun _ hk => hk.2) (.slice Ao24 t480.length co24)) (fun _ h_ => h_.1))))) (Kd.R_lt (by (with_reducible repeat (first | apply Kd.R_alloc | apply Kd.R_drewN | apply Kd.R_drew)); exact (Kd.R_mono (Kd.R_far (p := ⟨gb484, 3, none⟩) (Kd.R_far (p := ⟨gb484, 2, none⟩) (Kd.R_far (p := ⟨gb484, 1, none⟩) (Kd.R_far (p := ⟨gb484, 0, none⟩) (Kd.R_types HO474.out BK484.out (by decide)) (fun _ hk => hk.2) (.int .i64 t475)) (fun _ hk => hk.2) (.int .i64 t476)) (fun _ hk => hk.2) (.slice Ao23 t477.length co23)) (fun _ hk => hk.2) (.slice Ao24 t480.length co24)) (fun _ h_ => h_.1))))) (Kd.R_lt (by (with_reducible repeat (first | apply Kd.R_alloc | apply Kd.R_drewN | apply Kd.R_drew)); exact (Kd.R_mono (Kd.R_far (p := ⟨gb484, 3, none⟩) (Kd.R_far (p := ⟨gb484, 2, none⟩) (Kd.R_far (p := ⟨gb484, 1, none⟩) (Kd.R_far (p := ⟨gb484, 0, none⟩) (Kd.R_types HO479.out BK484.out (by decide)) (fun _ hk => hk.2) (.int .i64 t475)) (fun _ hk => hk.2) (.int .i64 t476)) (fun _ hk => hk.2) (.slice Ao23 t477.length co23)) (fun _ hk => hk.2) (.slice Ao24 t480.length co24)) (fun _ h_ => h_.1))))) (Kd.R_lt (by (with_reducible repeat (first | apply Kd.R_alloc | apply Kd.R_drewN | apply Kd.R_drew)); exact (Kd.R_mono (Kd.R_far (p := ⟨gb484, 3, none⟩) (Kd.R_far (p := ⟨gb484, 2, none⟩) (Kd.R_far (p := ⟨gb484, 1, none⟩) (Kd.R_far (p := ⟨gb484, 0, none⟩) (Kd.R_types HO482.out BK484.out (by decide)) (fun _ hk => hk.2) (.int .i64 t475)) (fun _ hk => hk.2) (.int .i64 t476)) (fun _ hk => hk.2) (.slice Ao23 t477.length co23)) (fun _ hk => hk.2) (.slice Ao24 t480.length co24)) (fun _ h_ => h_.1))))) (below_size TB)); replace HO471 := Aside0.mk (Kd.R_mono (Kd.R_told (Kd.R_told (Kd.R_old (by (with_reducible repeat (first | apply Kd.R_alloc | apply Kd.R_drewN | apply Kd.R_drew)); exact (Kd.R_mono (Kd.R_far (p := ⟨gb484, 3, none⟩) (Kd.R_far (p := ⟨gb484, 2, none⟩) (Kd.R_far (p := ⟨gb484, 1, none⟩) (Kd.R_far (p := ⟨gb484, 0, none⟩) (Kd.R_types HO471.out BK484.out (by decide)) (fun _ hk => hk.2) (.int .i64 t475)) (fun _ hk => hk.2) (.int .i64 t476)) (fun _ hk => hk.2) (.slice Ao23 t477.length co23)) (fun _ hk => hk.2) (.slice Ao24 t480.length co24)) (fun _ h_ => h_.1))) hb) (Kd.R_base ho0)) (Kd.R_base ho1)) (fun _ h_ => h_.1)); replace HO474 := Aside0.mk (Kd.R_mono (Kd.R_told (Kd.R_told (Kd.R_old (by (with_reducible repeat (first | apply Kd.R_alloc | apply Kd.R_drewN | apply Kd.R_drew)); exact (Kd.R_mono (Kd.R_far (p := ⟨gb484, 3, none⟩) (Kd.R_far (p := ⟨gb484, 2, none⟩) (Kd.R_far (p := ⟨gb484, 1, none⟩) (Kd.R_far (p := ⟨gb484, 0, none⟩) (Kd.R_types HO474.out BK484.out (by decide)) (fun _ hk => hk.2) (.int .i64 t475)) (fun _ hk => hk.2) (.int .i64 t476)) (fun _ hk => hk.2) (.slice Ao23 t477.length co23)) (fun _ hk => hk.2) (.slice Ao24 t480.length co24)) (fun _ h_ => h_.1))) hb) (Kd.R_base ho0)) (Kd.R_base ho1)) (fun _ h_ => h_.1)); replace HO479 := Aside0.mk (Kd.R_mono (Kd.R_told (Kd.R_told (Kd.R_old (by (with_reducible repeat (first | apply Kd.R_alloc | apply Kd.R_drewN | apply Kd.R_drew)); exact (Kd.R_mono (Kd.R_far (p := ⟨gb484, 3, none⟩) (Kd.R_far (p := ⟨gb484, 2, none⟩) (Kd.R_far (p := ⟨gb484, 1, none⟩) (Kd.R_far (p := ⟨gb484, 0, none⟩) (Kd.R_types HO479.out BK484.out (by decide)) (fun _ hk => hk.2) (.int .i64 t475)) (fun _ hk => hk.2) (.int .i64 t476)) (fun _ hk => hk.2) (.slice Ao23 t477.length co23)) (fun _ hk => hk.2) (.slice Ao24 t480.length co24)) (fun _ h_ => h_.1))) hb) (Kd.R_base ho0)) (Kd.R_base ho1)) (fun _ h_ => h_.1)); replace HO482 := Aside0.mk (Kd.R_mono (Kd.R_told (Kd.R_told (Kd.R_old (by (with_reducible repeat (first | apply Kd.R_alloc | apply Kd.R_drewN | apply Kd.R_drew)); exact (Kd.R_mono (Kd.R_far (p := ⟨gb484, 3, none⟩) (Kd.R_far (p := ⟨gb484, 2, none⟩) (Kd.R_far (p := ⟨gb484, 1, none⟩) (Kd.R_far (p := ⟨gb484, 0, none⟩) (Kd.R_types HO482.out BK484.out (by decide)) (fun _ hk => hk.2) (.int .i64 t475)) (fun _ hk => hk.2) (.int .i64 t476)) (fun _ hk => hk.2) (.slice Ao23 t477.length co23)) (fun _ hk => hk.2) (.slice Ao24 t480.length co24)) (fun _ h_ => h_.1))) hb) (Kd.R_base ho0)) (Kd.R_base ho1)) (fun _ h_ => h_.1)); replace BK465 := Aside0.mk (blk_below (g := gb465) (o := .cells #[.int .i64 a0_0, .int .i64 a0_1, .slice A0_2 l0_2.length c0_2, .slice A0_3 l0_3.length c0_3] 24 (0, 0)) (by (with_reducible repeat (first | refine blk_drewN ?_ _ | refine blk_drew ?_ | refine blk_alloc ?_ _)); refine blk_far ?_ NB465_484.out _; (with_reducible repeat (first | refine blk_drewN ?_ _ | refine blk_drew ?_ | refine blk_alloc ?_ _)); refine blk_far ?_ NB465_484.out _; (with_reducible repeat (first | refine blk_drewN ?_ _ | refine blk_drew ?_ | refine blk_alloc ?_ _)); refine blk_far ?_ NB465_484.out _; (with_reducible repeat (first | refine blk_drewN ?_ _ | refine blk_drew ?_ | refine blk_alloc ?_ _)); refine blk_far ?_ NB465_484.out _; (with_reducible repeat (first | refine blk_drewN ?_ _ | refine blk_drew ?_ | refine blk_alloc ?_ _)); exact BK465.out) hb); replace BK484 := Aside0.mk (blk_below (g := gb484) (o := .cells #[.int .i64 t475, .int .i64 t476, .slice Ao23 t477.length co23, .slice Ao24 t480.length co24] 29 (0, 0)) (by (with_reducible repeat (first | refine blk_drewN ?_ _ | refine blk_drew ?_ | refine blk_alloc ?_ _)); refine blk_put (cs := #[.int .i64 t475, .int .i64 t476, .slice Ao23 t477.length co23, .slice none 0 0]) ?_ 3 _ rfl; (with_reducible repeat (first | refine blk_drewN ?_ _ | refine blk_drew ?_ | refine blk_alloc ?_ _)); refine blk_put (cs := #[.int .i64 t475, .int .i64 t476, .slice none 0 0, .slice none 0 0]) ?_ 2 _ rfl; (with_reducible repeat (first | refine blk_drewN ?_ _ | refine blk_drew ?_ | refine blk_alloc ?_ _)); refine blk_put (cs := #[.int .i64 t475, .int .i64 0, .slice none 0 0, .slice none 0 0]) ?_ 1 _ rfl; (with_reducible repeat (first | refine blk_drewN ?_ _ | refine blk_drew ?_ | refine blk_alloc ?_ _)); refine blk_put (cs := #[.int .i64 0, .int .i64 0, .slice none 0 0, .slice none 0 0]) ?_ 0 _ rfl; (with_reducible repeat (first | refine blk_drewN ?_ _ | refine blk_drew ?_ | refine blk_alloc ?_ _)); exact BK484.out) hb); replace HB := BS hb; (try clear hb); (try clear hb2); (try clear hk); (try clear hi); (try clear ho0); (try clear ho1)) | ((with_reducible refine gate_dst (N := 6) rfl ?_); refine bE 6 #[.int .i64 0, .int .i64 0, .slice none 0 0, .slice none 0 0] 29 ?_; intro gb493 hg w27 hbox hb; replace HO471 := RB HO471 hb; replace HO474 := RB HO474 hb; replace HO479 := RB HO479 hb; replace HO482 := RB HO482 hb; replace HO489 := RB HO489 hb; replace HO492 := RB HO492 hb; have BK493 := Aside0.mk (hbox); have GE493 := bG hg; replace HB := BS hb; have NB465_493 := bN BK465 hg; have NB493_465 := bM BK465 hg; replace BK465 := KB BK465 hb; have NB484_493 := bN BK484 hg; have NB493_484 := bM BK484 hg; replace BK484 := KB BK484 hb; clear hb hbox hg; have hnb28 := NB493_465.out; have hnc28 := NB465_493.out; have hnb29 := NB493_484.out; have hnc29 := NB484_493.out; have hcz30 := cz4 BK493; obtain ⟨Ao31, co31, eo31⟩ := Kd.R_slice HO489.out; subst eo31; obtain ⟨Ao32, co32, eo32⟩ := Kd.R_slice HO492.out; subst eo32) | ((with_reducible refine gate_callee (f := 21) rfl ?_); refine goesL_ (some 29) rfl rfl Tryz.func21 KR rfl #[.agg #[.int .i64 t485, .int .i64 t486, .slice Ao31 t487.length co31, .slice Ao32 t490.length co32]] rfl TA ?_; (with_reducible refine (impl_BackDiff.calls k t485 t486 _ _ t487 _ _ t490 t494 t495 t496 t499 t502 _ ?side1 ?side2 ?side3 ?side4 ?side5 A10.out).mono ?_); (case side1 => refine (Kd.R_reads' (e := 93) (base := w.heap.size) (ok := fun k_ => ((((some k_ ≠ (.slice Ao32 t490.length co32 : Value).ownBlock ∧ some k_ ≠ (.slice Ao17 t469.length co17 : Value).ownBlock) ∧ some k_ ≠ (.slice Ao18 t472.length co18 : Value).ownBlock) ∧ some k_ ≠ (.slice Ao23 t477.length co23 : Value).ownBlock) ∧ some k_ ≠ (.slice Ao24 t480.length co24 : Value).ownBlock)) (n := t487.length) (c := co31) ?_).2.2; exact (by (with_reducible repeat (first | apply Kd.R_alloc | apply Kd.R_drewN | apply Kd.R_drew)); exact (Kd.R_mono (Kd.R_far (p := ⟨gb493, 3, none⟩) (Kd.R_far (p := ⟨gb493, 2, none⟩) (Kd.R_far (p := ⟨gb493, 1, none⟩) (Kd.R_far (p := ⟨gb493, 0, none⟩) (Kd.R_types HO489.out BK493.out (by decide)) (fun _ hk => hk.2) (.int .i64 t485)) (fun _ hk => hk.2) (.int .i64 t486)) (fun _ hk => hk.2) (.slice Ao31 t487.length co31)) (fun _ hk => hk.2) (.slice Ao32 t490.length co32)) (fun _ h_ => h_.1)))); (case side2 => exact (Kd.R_reads' HO489.out).2.1); (case side3 => refine (Kd.R_reads' (e := 93) (base := w.heap.size) (ok := fun k_ => ((((some k_ ≠ (.slice Ao31 t487.length co31 : Value).ownBlock ∧ some k_ ≠ (.slice Ao17 t469.length co17 : Value).ownBlock) ∧ some k_ ≠ (.slice Ao18 t472.length co18 : Value).ownBlock) ∧ some k_ ≠ (.slice Ao23 t477.length co23 : Value).ownBlock) ∧ some k_ ≠ (.slice Ao24 t480.length co24 : Value).ownBlock)) (n := t490.length) (c := co32) ?_).2.2; exact (by (with_reducible repeat (first | apply Kd.R_alloc | apply Kd.R_drewN | apply Kd.R_drew)); exact (Kd.R_mono (Kd.R_far (p := ⟨gb493, 3, none⟩) (Kd.R_far (p := ⟨gb493, 2, none⟩) (Kd.R_far (p := ⟨gb493, 1, none⟩) (Kd.R_far (p := ⟨gb493, 0, none⟩) (Kd.R_types HO492.out BK493.out (by decide)) (fun _ hk => hk.2) (.int .i64 t485)) (fun _ hk => hk.2) (.int .i64 t486)) (fun _ hk => hk.2) (.slice Ao31 t487.length co31)) (fun _ hk => hk.2) (.slice Ao32 t490.length co32)) (fun _ h_ => h_.1)))); (case side4 => exact (Kd.R_reads' HO492.out).2.1); (case side5 => exact GW HGL); rintro e w33 ⟨v497, v500, rfl, ho0, ho1, hb⟩; refine ⟨_, rfl, ?_⟩; have HO498 := Aside0.mk (Kd.R_lower (Kd.R_new' (Kd.R_new' (Kd.R_new' (Kd.R_new' (Kd.R_new' (Kd.R_new' ho0 (Kd.R_lt (by (with_reducible repeat (first | apply Kd.R_alloc | apply Kd.R_drewN | apply Kd.R_drew)); exact (Kd.R_mono (Kd.R_far (p := ⟨gb493, 3, none⟩) (Kd.R_far (p := ⟨gb493, 2, none⟩) (Kd.R_far (p := ⟨gb493, 1, none⟩) (Kd.R_far (p := ⟨gb493, 0, none⟩) (Kd.R_types HO471.out BK493.out (by decide)) (fun _ hk => hk.2) (.int .i64 t485)) (fun _ hk => hk.2) (.int .i64 t486)) (fun _ hk => hk.2) (.slice Ao31 t487.length co31)) (fun _ hk => hk.2) (.slice Ao32 t490.length co32)) (fun _ h_ => h_.1))))) (Kd.R_lt (by (with_reducible repeat (first | apply Kd.R_alloc | apply Kd.R_drewN | apply Kd.R_drew)); exact (Kd.R_mono (Kd.R_far (p := ⟨gb493, 3, none⟩) (Kd.R_far (p := ⟨gb493, 2, none⟩) (Kd.R_far (p := ⟨gb493, 1, none⟩) (Kd.R_far (p := ⟨gb493, 0, none⟩) (Kd.R_types HO474.out BK493.out (by decide)) (fun _ hk => hk.2) (.int .i64 t485)) (fun _ hk => hk.2) (.int .i64 t486)) (fun _ hk => hk.2) (.slice Ao31 t487.length co31)) (fun _ hk => hk.2) (.slice Ao32 t490.length co32)) (fun _ h_ => h_.1))))) (Kd.R_lt (by (with_reducible repeat (first | apply Kd.R_alloc | apply Kd.R_drewN | apply Kd.R_drew)); exact (Kd.R_mono (Kd.R_far (p := ⟨gb493, 3, none⟩) (Kd.R_far (p := ⟨gb493, 2, none⟩) (Kd.R_far (p := ⟨gb493, 1, none⟩) (Kd.R_far (p := ⟨gb493, 0, none⟩) (Kd.R_types HO479.out BK493.out (by decide)) (fun _ hk => hk.2) (.int .i64 t485)) (fun _ hk => hk.2) (.int .i64 t486)) (fun _ hk => hk.2) (.slice Ao31 t487.length co31)) (fun _ hk => hk.2) (.slice Ao32 t490.length co32)) (fun _ h_ => h_.1))))) (Kd.R_lt (by (with_reducible repeat (first | apply Kd.R_alloc | apply Kd.R_drewN | apply Kd.R_drew)); exact (Kd.R_mono (Kd.R_far (p := ⟨gb493, 3, none⟩) (Kd.R_far (p := ⟨gb493, 2, none⟩) (Kd.R_far (p := ⟨gb493, 1, none⟩) (Kd.R_far (p := ⟨gb493, 0, none⟩) (Kd.R_types HO482.out BK493.out (by decide)) (fun _ hk => hk.2) (.int .i64 t485)) (fun _ hk => hk.2) (.int .i64 t486)) (fun _ hk => hk.2) (.slice Ao31 t487.length co31)) (fun _ hk => hk.2) (.slice Ao32 t490.length co32)) (fun _ h_ => h_.1))))) (Kd.R_lt (by (with_reducible repeat (first | apply Kd.R_alloc | apply Kd.R_drewN | apply Kd.R_drew)); exact (Kd.R_mono (Kd.R_far (p := ⟨gb493, 3, none⟩) (Kd.R_far (p := ⟨gb493, 2, none⟩) (Kd.R_far (p := ⟨gb493, 1, none⟩) (Kd.R_far (p := ⟨gb493, 0, none⟩) (Kd.R_types HO489.out BK493.out (by decide)) (fun _ hk => hk.2) (.int .i64 t485)) (fun _ hk => hk.2) (.int .i64 t486)) (fun _ hk => hk.2) (.slice Ao31 t487.length co31)) (fun _ hk => hk.2) (.slice Ao32 t490.length co32)) (fun _ h_ => h_.1))))) (Kd.R_lt (by (with_reducible repeat (first | apply Kd.R_alloc | apply Kd.R_drewN | apply Kd.R_drew)); exact (Kd.R_mono (Kd.R_far (p := ⟨gb493, 3, none⟩) (Kd.R_far (p := ⟨gb493, 2, none⟩) (Kd.R_far (p := ⟨gb493, 1, none⟩) (Kd.R_far (p := ⟨gb493, 0, none⟩) (Kd.R_types HO492.out BK493.out (by decide)) (fun _ hk => hk.2) (.int .i64 t485)) (fun _ hk => hk.2) (.int .i64 t486)) (fun _ hk => hk.2) (.slice Ao31 t487.length co31)) (fun _ hk => hk.2) (.slice Ao32 t490.length co32)) (fun _ h_ => h_.1))))) (below_size TB)); have HO501 := Aside0.mk (Kd.R_lower (Kd.R_new' (Kd.R_new' (Kd.R_new' (Kd.R_new' (Kd.R_new' (Kd.R_new' ho1 (Kd.R_lt (by (with_reducible repeat (first | apply Kd.R_alloc | apply Kd.R_drewN | apply Kd.R_drew)); exact (Kd.R_mono (Kd.R_far (p := ⟨gb493, 3, none⟩) (Kd.R_far (p := ⟨gb493, 2, none⟩) (Kd.R_far (p := ⟨gb493, 1, none⟩) (Kd.R_far (p := ⟨gb493, 0, none⟩) (Kd.R_types HO471.out BK493.out (by decide)) (fun _ hk => hk.2) (.int .i64 t485)) (fun _ hk => hk.2) (.int .i64 t486)) (fun _ hk => hk.2) (.slice Ao31 t487.length co31)) (fun _ hk => hk.2) (.slice Ao32 t490.length co32)) (fun _ h_ => h_.1))))) (Kd.R_lt (by (with_reducible repeat (first | apply Kd.R_alloc | apply Kd.R_drewN | apply Kd.R_drew)); exact (Kd.R_mono (Kd.R_far (p := ⟨gb493, 3, none⟩) (Kd.R_far (p := ⟨gb493, 2, none⟩) (Kd.R_far (p := ⟨gb493, 1, none⟩) (Kd.R_far (p := ⟨gb493, 0, none⟩) (Kd.R_types HO474.out BK493.out (by decide)) (fun _ hk => hk.2) (.int .i64 t485)) (fun _ hk => hk.2) (.int .i64 t486)) (fun _ hk => hk.2) (.slice Ao31 t487.length co31)) (fun _ hk => hk.2) (.slice Ao32 t490.length co32)) (fun _ h_ => h_.1))))) (Kd.R_lt (by (with_reducible repeat (first | apply Kd.R_alloc | apply Kd.R_drewN | apply Kd.R_drew)); exact (Kd.R_mono (Kd.R_far (p := ⟨gb493, 3, none⟩) (Kd.R_far (p := ⟨gb493, 2, none⟩) (Kd.R_far (p := ⟨gb493, 1, none⟩) (Kd.R_far (p := ⟨gb493, 0, none⟩) (Kd.R_types HO479.out BK493.out (by decide)) (fun _ hk => hk.2) (.int .i64 t485)) (fun _ hk => hk.2) (.int .i64 t486)) (fun _ hk => hk.2) (.slice Ao31 t487.length co31)) (fun _ hk => hk.2) (.slice Ao32 t490.length co32)) (fun _ h_ => h_.1))))) (Kd.R_lt (by (with_reducible repeat (first | apply Kd.R_alloc | apply Kd.R_drewN | apply Kd.R_drew)); exact (Kd.R_mono (Kd.R_far (p := ⟨gb493, 3, none⟩) (Kd.R_far (p := ⟨gb493, 2, none⟩) (Kd.R_far (p := ⟨gb493, 1, none⟩) (Kd.R_far (p := ⟨gb493, 0, none⟩) (Kd.R_types HO482.out BK493.out (by decide)) (fun _ hk => hk.2) (.int .i64 t485)) (fun _ hk => hk.2) (.int .i64 t486)) (fun _ hk => hk.2) (.slice Ao31 t487.length co31)) (fun _ hk => hk.2) (.slice Ao32 t490.length co32)) (fun _ h_ => h_.1))))) (Kd.R_lt (by (with_reducible repeat (first | apply Kd.R_alloc | apply Kd.R_drewN | apply Kd.R_drew)); exact (Kd.R_mono (Kd.R_far (p := ⟨gb493, 3, none⟩) (Kd.R_far (p := ⟨gb493, 2, none⟩) (Kd.R_far (p := ⟨gb493, 1, none⟩) (Kd.R_far (p := ⟨gb493, 0, none⟩) (Kd.R_types HO489.out BK493.out (by decide)) (fun _ hk => hk.2) (.int .i64 t485)) (fun _ hk => hk.2) (.int .i64 t486)) (fun _ hk => hk.2) (.slice Ao31 t487.length co31)) (fun _ hk => hk.2) (.slice Ao32 t490.length co32)) (fun _ h_ => h_.1))))) (Kd.R_lt (by (with_reducible repeat (first | apply Kd.R_alloc | apply Kd.R_drewN | apply Kd.R_drew)); exact (Kd.R_mono (Kd.R_far (p := ⟨gb493, 3, none⟩) (Kd.R_far (p := ⟨gb493, 2, none⟩) (Kd.R_far (p := ⟨gb493, 1, none⟩) (Kd.R_far (p := ⟨gb493, 0, none⟩) (Kd.R_types HO492.out BK493.out (by decide)) (fun _ hk => hk.2) (.int .i64 t485)) (fun _ hk => hk.2) (.int .i64 t486)) (fun _ hk => hk.2) (.slice Ao31 t487.length co31)) (fun _ hk => hk.2) (.slice Ao32 t490.length co32)) (fun _ h_ => h_.1))))) (below_size TB)); replace HO471 := Aside0.mk (Kd.R_mono (Kd.R_told (Kd.R_told (Kd.R_old (by (with_reducible repeat (first | apply Kd.R_alloc | apply Kd.R_drewN | apply Kd.R_drew)); exact (Kd.R_mono (Kd.R_far (p := ⟨gb493, 3, none⟩) (Kd.R_far (p := ⟨gb493, 2, none⟩) (Kd.R_far (p := ⟨gb493, 1, none⟩) (Kd.R_far (p := ⟨gb493, 0, none⟩) (Kd.R_types HO471.out BK493.out (by decide)) (fun _ hk => hk.2) (.int .i64 t485)) (fun _ hk => hk.2) (.int .i64 t486)) (fun _ hk => hk.2) (.slice Ao31 t487.length co31)) (fun _ hk => hk.2) (.slice Ao32 t490.length co32)) (fun _ h_ => h_.1))) hb) (Kd.R_base ho0)) (Kd.R_base ho1)) (fun _ h_ => h_.1)); replace HO474 := Aside0.mk (Kd.R_mono (Kd.R_told (Kd.R_told (Kd.R_old (by (with_reducible repeat (first | apply Kd.R_alloc | apply Kd.R_drewN | apply Kd.R_drew)); exact (Kd.R_mono (Kd.R_far (p := ⟨gb493, 3, none⟩) (Kd.R_far (p := ⟨gb493, 2, none⟩) (Kd.R_far (p := ⟨gb493, 1, none⟩) (Kd.R_far (p := ⟨gb493, 0, none⟩) (Kd.R_types HO474.out BK493.out (by decide)) (fun _ hk => hk.2) (.int .i64 t485)) (fun _ hk => hk.2) (.int .i64 t486)) (fun _ hk => hk.2) (.slice Ao31 t487.length co31)) (fun _ hk => hk.2) (.slice Ao32 t490.length co32)) (fun _ h_ => h_.1))) hb) (Kd.R_base ho0)) (Kd.R_base ho1)) (fun _ h_ => h_.1)); replace HO479 := Aside0.mk (Kd.R_mono (Kd.R_told (Kd.R_told (Kd.R_old (by (with_reducible repeat (first | apply Kd.R_alloc | apply Kd.R_drewN | apply Kd.R_drew)); exact (Kd.R_mono (Kd.R_far (p := ⟨gb493, 3, none⟩) (Kd.R_far (p := ⟨gb493, 2, none⟩) (Kd.R_far (p := ⟨gb493, 1, none⟩) (Kd.R_far (p := ⟨gb493, 0, none⟩) (Kd.R_types HO479.out BK493.out (by decide)) (fun _ hk => hk.2) (.int .i64 t485)) (fun _ hk => hk.2) (.int .i64 t486)) (fun _ hk => hk.2) (.slice Ao31 t487.length co31)) (fun _ hk => hk.2) (.slice Ao32 t490.length co32)) (fun _ h_ => h_.1))) hb) (Kd.R_base ho0)) (Kd.R_base ho1)) (fun _ h_ => h_.1)); replace HO482 := Aside0.mk (Kd.R_mono (Kd.R_told (Kd.R_told (Kd.R_old (by (with_reducible repeat (first | apply Kd.R_alloc | apply Kd.R_drewN | apply Kd.R_drew)); exact (Kd.R_mono (Kd.R_far (p := ⟨gb493, 3, none⟩) (Kd.R_far (p := ⟨gb493, 2, none⟩) (Kd.R_far (p := ⟨gb493, 1, none⟩) (Kd.R_far (p := ⟨gb493, 0, none⟩) (Kd.R_types HO482.out BK493.out (by decide)) (fun _ hk => hk.2) (.int .i64 t485)) (fun _ hk => hk.2) (.int .i64 t486)) (fun _ hk => hk.2) (.slice Ao31 t487.length co31)) (fun _ hk => hk.2) (.slice Ao32 t490.length co32)) (fun _ h_ => h_.1))) hb) (Kd.R_base ho0)) (Kd.R_base ho1)) (fun _ h_ => h_.1)); replace HO489 := Aside0.mk (Kd.R_mono (Kd.R_told (Kd.R_told (Kd.R_old (by (with_reducible repeat (first | apply Kd.R_alloc | apply Kd.R_drewN | apply Kd.R_drew)); exact (Kd.R_mono (Kd.R_far (p := ⟨gb493, 3, none⟩) (Kd.R_far (p := ⟨gb493, 2, none⟩) (Kd.R_far (p := ⟨gb493, 1, none⟩) (Kd.R_far (p := ⟨gb493, 0, none⟩) (Kd.R_types HO489.out BK493.out (by decide)) (fun _ hk => hk.2) (.int .i64 t485)) (fun _ hk => hk.2) (.int .i64 t486)) (fun _ hk => hk.2) (.slice Ao31 t487.length co31)) (fun _ hk => hk.2) (.slice Ao32 t490.length co32)) (fun _ h_ => h_.1))) hb) (Kd.R_base ho0)) (Kd.R_base ho1)) (fun _ h_ => h_.1)); replace HO492 := Aside0.mk (Kd.R_mono (Kd.R_told (Kd.R_told (Kd.R_old (by (with_reducible repeat (first | apply Kd.R_alloc | apply Kd.R_drewN | apply Kd.R_drew)); exact (Kd.R_mono (Kd.R_far (p := ⟨gb493, 3, none⟩) (Kd.R_far (p := ⟨gb493, 2, none⟩) (Kd.R_far (p := ⟨gb493, 1, none⟩) (Kd.R_far (p := ⟨gb493, 0, none⟩) (Kd.R_types HO492.out BK493.out (by decide)) (fun _ hk => hk.2) (.int .i64 t485)) (fun _ hk => hk.2) (.int .i64 t486)) (fun _ hk => hk.2) (.slice Ao31 t487.length co31)) (fun _ hk => hk.2) (.slice Ao32 t490.length co32)) (fun _ h_ => h_.1))) hb) (Kd.R_base ho0)) (Kd.R_base ho1)) (fun _ h_ => h_.1)); replace BK465 := Aside0.mk (blk_below (g := gb465) (o := .cells #[.int .i64 a0_0, .int .i64 a0_1, .slice A0_2 l0_2.length c0_2, .slice A0_3 l0_3.length c0_3] 24 (0, 0)) (by (with_reducible repeat (first | refine blk_drewN ?_ _ | refine blk_drew ?_ | refine blk_alloc ?_ _)); refine blk_far ?_ NB465_493.out _; (with_reducible repeat (first | refine blk_drewN ?_ _ | refine blk_drew ?_ | refine blk_alloc ?_ _)); refine blk_far ?_ NB465_493.out _; (with_reducible repeat (first | refine blk_drewN ?_ _ | refine blk_drew ?_ | refine blk_alloc ?_ _)); refine blk_far ?_ NB465_493.out _; (with_reducible repeat (first | refine blk_drewN ?_ _ | refine blk_drew ?_ | refine blk_alloc ?_ _)); refine blk_far ?_ NB465_493.out _; (with_reducible repeat (first | refine blk_drewN ?_ _ | refine blk_drew ?_ | refine blk_alloc ?_ _)); exact BK465.out) hb); replace BK484 := Aside0.mk (blk_below (g := gb484) (o := .cells #[.int .i64 t475, .int .i64 t476, .slice Ao23 t477.length co23, .slice Ao24 t480.length co24] 29 (0, 0)) (by (with_reducible repeat (first | refine blk_drewN ?_ _ | refine blk_drew ?_ | refine blk_alloc ?_ _)); refine blk_far ?_ NB484_493.out _; (with_reducible repeat (first | refine blk_drewN ?_ _ | refine blk_drew ?_ | refine blk_alloc ?_ _)); refine blk_far ?_ NB484_493.out _; (with_reducible repeat (first | refine blk_drewN ?_ _ | refine blk_drew ?_ | refine blk_alloc ?_ _)); refine blk_far ?_ NB484_493.out _; (with_reducible repeat (first | refine blk_drewN ?_ _ | refine blk_drew ?_ | refine blk_alloc ?_ _)); refine blk_far ?_ NB484_493.out _; (with_reducible repeat (first | refine blk_drewN ?_ _ | refine blk_drew ?_ | refine blk_alloc ?_ _)); exact BK484.out) hb); replace BK493 := Aside0.mk (blk_below (g := gb493) (o := .cells #[.int .i64 t485, .int .i64 t486, .slice Ao31 t487.length co31, .slice Ao32 t490.length co32] 29 (0, 0)) (by (with_reducible repeat (first | refine blk_drewN ?_ _ | refine blk_drew ?_ | refine blk_alloc ?_ _)); refine blk_put (cs := #[.int .i64 t485, .int .i64 t486, .slice Ao31 t487.length co31, .slice none 0 0]) ?_ 3 _ rfl; (with_reducible repeat (first | refine blk_drewN ?_ _ | refine blk_drew ?_ | refine blk_alloc ?_ _)); refine blk_put (cs := #[.int .i64 t485, .int .i64 t486, .slice none 0 0, .slice none 0 0]) ?_ 2 _ rfl; (with_reducible repeat (first | refine blk_drewN ?_ _ | refine blk_drew ?_ | refine blk_alloc ?_ _)); refine blk_put (cs := #[.int .i64 t485, .int .i64 0, .slice none 0 0, .slice none 0 0]) ?_ 1 _ rfl; (with_reducible repeat (first | refine blk_drewN ?_ _ | refine blk_drew ?_ | refine blk_alloc ?_ _)); refine blk_put (cs := #[.int .i64 0, .int .i64 0, .slice none 0 0, .slice none 0 0]) ?_ 0 _ rfl; (with_reducible repeat (first | refine blk_drewN ?_ _ | refine blk_drew ?_ | refine blk_alloc ?_ _)); exact BK493.out) hb); replace HB := BS hb; (try clear hb); (try clear hb2); (try clear hk); (try clear hi); (try clear ho0); (try clear ho1)) | ((with_reducible refine gate_dst (N := 7) rfl ?_); refine bE 7 #[.int .i64 0, .int .i64 0, .slice none 0 0, .slice none 0 0] 29 ?_; intro gb503 hg w34 hbox hb; replace HO471 := RB HO471 hb; replace HO474 := RB HO474 hb; replace HO479 := RB HO479 hb; replace HO482 := RB HO482 hb; replace HO489 := RB HO489 hb; replace HO492 := RB HO492 hb; replace HO498 := RB HO498 hb; replace HO501 := RB HO501 hb; have BK503 := Aside0.mk (hbox); have GE503 := bG hg; replace HB := BS hb; have NB465_503 := bN BK465 hg; have NB503_465 := bM BK465 hg; replace BK465 := KB BK465 hb; have NB484_503 := bN BK484 hg; have NB503_484 := bM BK484 hg; replace BK484 := KB BK484 hb; have NB493_503 := bN BK493 hg; have NB503_493 := bM BK493 hg; replace BK493 := KB BK493 hb; clear hb hbox hg; have hnb35 := NB503_465.out; have hnc35 := NB465_503.out; have hnb36 := NB503_484.out; have hnc36 := NB484_503.out; have hnb37 := NB503_493.out; have hnc37 := NB493_503.out; have hcz38 := cz4 BK503; obtain ⟨Ao39, co39, eo39⟩ := Kd.R_slice HO498.out; subst eo39; obtain ⟨Ao40, co40, eo40⟩ := Kd.R_slice HO501.out; subst eo40))
  (try simp only [Act.put, List.setIfInBounds_toArray, List.set_cons_zero, List.set_cons_succ])
  go_cut [40] (fun v40 wc => ∃ (kq : Nat) (x40_10 : Bool), v40 = .bool x40_10 ∧ Aside0 (laws_FnExactBackDiff.j0 kq t483 t502 x40_10 a0_0 a0_1 l0_2 l0_3 t475 t476 t477 t480 t485 t486 t487 t490 t494 t495 t496 t499 = some r) ∧ Aside0 (kq ≤ k) ∧ Aside0 (Kd.R k_Record 93 wc w.heap.size (fun k_ => some k_ ≠ ((.slice Ao24 t480.length co24) : Value).ownBlock ∧ some k_ ≠ ((.slice Ao31 t487.length co31) : Value).ownBlock ∧ some k_ ≠ ((.slice Ao32 t490.length co32) : Value).ownBlock ∧ some k_ ≠ ((.slice Ao39 t496.length co39) : Value).ownBlock ∧ some k_ ≠ ((.slice Ao40 t499.length co40) : Value).ownBlock) (.slice Ao23 t477.length co23) t477) ∧ Aside0 (Kd.R k_Record 93 wc w.heap.size (fun k_ => some k_ ≠ ((.slice Ao23 t477.length co23) : Value).ownBlock ∧ some k_ ≠ ((.slice Ao31 t487.length co31) : Value).ownBlock ∧ some k_ ≠ ((.slice Ao32 t490.length co32) : Value).ownBlock ∧ some k_ ≠ ((.slice Ao39 t496.length co39) : Value).ownBlock ∧ some k_ ≠ ((.slice Ao40 t499.length co40) : Value).ownBlock) (.slice Ao24 t480.length co24) t480) ∧ Aside0 (Kd.R k_Record 93 wc w.heap.size (fun k_ => some k_ ≠ ((.slice Ao23 t477.length co23) : Value).ownBlock ∧ some k_ ≠ ((.slice Ao24 t480.length co24) : Value).ownBlock ∧ some k_ ≠ ((.slice Ao32 t490.length co32) : Value).ownBlock ∧ some k_ ≠ ((.slice Ao39 t496.length co39) : Value).ownBlock ∧ some k_ ≠ ((.slice Ao40 t499.length co40) : Value).ownBlock) (.slice Ao31 t487.length co31) t487) ∧ Aside0 (Kd.R k_Record 93 wc w.heap.size (fun k_ => some k_ ≠ ((.slice Ao23 t477.length co23) : Value).ownBlock ∧ some k_ ≠ ((.slice Ao24 t480.length co24) : Value).ownBlock ∧ some k_ ≠ ((.slice Ao31 t487.length co31) : Value).ownBlock ∧ some k_ ≠ ((.slice Ao39 t496.length co39) : Value).ownBlock ∧ some k_ ≠ ((.slice Ao40 t499.length co40) : Value).ownBlock) (.slice Ao32 t490.length co32) t490) ∧ Aside0 (Kd.R k_Record 93 wc w.heap.size (fun k_ => some k_ ≠ ((.slice Ao23 t477.length co23) : Value).ownBlock ∧ some k_ ≠ ((.slice Ao24 t480.length co24) : Value).ownBlock ∧ some k_ ≠ ((.slice Ao31 t487.length co31) : Value).ownBlock ∧ some k_ ≠ ((.slice Ao32 t490.length co32) : Value).ownBlock ∧ some k_ ≠ ((.slice Ao40 t499.length co40) : Value).ownBlock) (.slice Ao39 t496.length co39) t496) ∧ Aside0 (Kd.R k_Record 93 wc w.heap.size (fun k_ => some k_ ≠ ((.slice Ao23 t477.length co23) : Value).ownBlock ∧ some k_ ≠ ((.slice Ao24 t480.length co24) : Value).ownBlock ∧ some k_ ≠ ((.slice Ao31 t487.length co31) : Value).ownBlock ∧ some k_ ≠ ((.slice Ao32 t490.length co32) : Value).ownBlock ∧ some k_ ≠ ((.slice Ao39 t496.length co39) : Value).ownBlock) (.slice Ao40 t499.length co40) t499) ∧ Aside0 (wc.heap[gb465]? = some (.cells #[.int .i64 a0_0, .int .i64 a0_1, (.slice A0_2 l0_2.length c0_2), (.slice A0_3 l0_3.length c0_3)] 24 (0, 0))) ∧ Aside0 (wc.heap[gb484]? = some (.cells #[.int .i64 t475, .int .i64 t476, (.slice Ao23 t477.length co23), (.slice Ao24 t480.length co24)] 29 (0, 0))) ∧ Aside0 (wc.heap[gb493]? = some (.cells #[.int .i64 t485, .int .i64 t486, (.slice Ao31 t487.length co31), (.slice Ao32 t490.length co32)] 29 (0, 0))) ∧ Aside0 (wc.heap[gb503]? = some (.cells #[.int .i64 t494, .int .i64 t495, (.slice Ao39 t496.length co39), (.slice Ao40 t499.length co40)] 29 (0, 0))) ∧ Aside0 (Below w.heap.size w wc))
  case first =>
   have H := HC11.out
   clear HC11
   obtain ⟨t504, A41, H⟩ := bnd H
   by_cases c42 : t504 = true
   ·subst c42
    replace H := ift H
    have H' := Aside0.mk H
    clear H
    have hnb43 := NB503_465.out
    have hnc43 := NB465_503.out
    have hnb44 := NB503_484.out
    have hnc44 := NB484_503.out
    have hnb45 := NB503_493.out
    have hnc45 := NB493_503.out
    have hcz46 := cz4 BK503
    have hnb47 := NB484_465.out
    have hnc47 := NB465_484.out
    have hnb48 := NB484_493.out
    have hnc48 := NB493_484.out
    have hcz49 := cz4 BK484
    go_wp2_with (first | ((with_reducible refine gate_callee (f := 19) rfl ?_); refine goesL_ (some 34) rfl rfl Tryz.func19 KR rfl #[.agg #[.int .i64 t494, .int .i64 t495, .slice Ao39 t496.length co39, .slice Ao40 t499.length co40], .agg #[.int .i64 t475, .int .i64 t476, .slice Ao23 t477.length co23, .slice Ao24 t480.length co24]] rfl TA ?_; (with_reducible refine (laws_eqDiff.calls k t494 t495 _ _ t496 _ _ t499 t475 t476 _ _ t477 _ _ t480 true _ ?side1 ?side2 ?side3 ?side4 ?side5 ?side6 ?side7 ?side8 A41.out).mono ?_); (case side1 => refine (Kd.R_reads' (e := 93) (base := w.heap.size) (ok := fun k_ => ((((((some k_ ≠ (.slice Ao40 t499.length co40 : Value).ownBlock ∧ some k_ ≠ (.slice Ao17 t469.length co17 : Value).ownBlock) ∧ some k_ ≠ (.slice Ao18 t472.length co18 : Value).ownBlock) ∧ some k_ ≠ (.slice Ao23 t477.length co23 : Value).ownBlock) ∧ some k_ ≠ (.slice Ao24 t480.length co24 : Value).ownBlock) ∧ some k_ ≠ (.slice Ao31 t487.length co31 : Value).ownBlock) ∧ some k_ ≠ (.slice Ao32 t490.length co32 : Value).ownBlock)) (n := t496.length) (c := co39) ?_).2.2; exact (by (with_reducible repeat (first | apply Kd.R_alloc | apply Kd.R_drewN | apply Kd.R_drew)); exact (Kd.R_mono (Kd.R_far (p := ⟨gb503, 3, none⟩) (Kd.R_far (p := ⟨gb503, 2, none⟩) (Kd.R_far (p := ⟨gb503, 1, none⟩) (Kd.R_far (p := ⟨gb503, 0, none⟩) (Kd.R_types HO498.out BK503.out (by decide)) (fun _ hk => hk.2) (.int .i64 t494)) (fun _ hk => hk.2) (.int .i64 t495)) (fun _ hk => hk.2) (.slice Ao39 t496.length co39)) (fun _ hk => hk.2) (.slice Ao40 t499.length co40)) (fun _ h_ => h_.1)))); (case side2 => exact (Kd.R_reads' HO498.out).2.1); (case side3 => refine (Kd.R_reads' (e := 93) (base := w.heap.size) (ok := fun k_ => ((((((some k_ ≠ (.slice Ao39 t496.length co39 : Value).ownBlock ∧ some k_ ≠ (.slice Ao17 t469.length co17 : Value).ownBlock) ∧ some k_ ≠ (.slice Ao18 t472.length co18 : Value).ownBlock) ∧ some k_ ≠ (.slice Ao23 t477.length co23 : Value).ownBlock) ∧ some k_ ≠ (.slice Ao24 t480.length co24 : Value).ownBlock) ∧ some k_ ≠ (.slice Ao31 t487.length co31 : Value).ownBlock) ∧ some k_ ≠ (.slice Ao32 t490.length co32 : Value).ownBlock)) (n := t499.length) (c := co40) ?_).2.2; exact (by (with_reducible repeat (first | apply Kd.R_alloc | apply Kd.R_drewN | apply Kd.R_drew)); exact (Kd.R_mono (Kd.R_far (p := ⟨gb503, 3, none⟩) (Kd.R_far (p := ⟨gb503, 2, none⟩) (Kd.R_far (p := ⟨gb503, 1, none⟩) (Kd.R_far (p := ⟨gb503, 0, none⟩) (Kd.R_types HO501.out BK503.out (by decide)) (fun _ hk => hk.2) (.int .i64 t494)) (fun _ hk => hk.2) (.int .i64 t495)) (fun _ hk => hk.2) (.slice Ao39 t496.length co39)) (fun _ hk => hk.2) (.slice Ao40 t499.length co40)) (fun _ h_ => h_.1)))); (case side4 => exact (Kd.R_reads' HO501.out).2.1); (case side5 => refine (Kd.R_reads' (e := 93) (base := w.heap.size) (ok := fun k_ => ((((((some k_ ≠ (.slice Ao24 t480.length co24 : Value).ownBlock ∧ some k_ ≠ (.slice Ao17 t469.length co17 : Value).ownBlock) ∧ some k_ ≠ (.slice Ao18 t472.length co18 : Value).ownBlock) ∧ some k_ ≠ (.slice Ao31 t487.length co31 : Value).ownBlock) ∧ some k_ ≠ (.slice Ao32 t490.length co32 : Value).ownBlock) ∧ some k_ ≠ (.slice Ao39 t496.length co39 : Value).ownBlock) ∧ some k_ ≠ (.slice Ao40 t499.length co40 : Value).ownBlock)) (n := t477.length) (c := co23) ?_).2.2; exact (by (with_reducible repeat (first | apply Kd.R_alloc | apply Kd.R_drewN | apply Kd.R_drew)); exact (Kd.R_mono (Kd.R_far (p := ⟨gb503, 3, none⟩) (Kd.R_far (p := ⟨gb503, 2, none⟩) (Kd.R_far (p := ⟨gb503, 1, none⟩) (Kd.R_far (p := ⟨gb503, 0, none⟩) (Kd.R_types HO479.out BK503.out (by decide)) (fun _ hk => hk.2) (.int .i64 t494)) (fun _ hk => hk.2) (.int .i64 t495)) (fun _ hk => hk.2) (.slice Ao39 t496.length co39)) (fun _ hk => hk.2) (.slice Ao40 t499.length co40)) (fun _ h_ => h_.1)))); (case side6 => exact (Kd.R_reads' HO479.out).2.1); (case side7 => refine (Kd.R_reads' (e := 93) (base := w.heap.size) (ok := fun k_ => ((((((some k_ ≠ (.slice Ao23 t477.length co23 : Value).ownBlock ∧ some k_ ≠ (.slice Ao17 t469.length co17 : Value).ownBlock) ∧ some k_ ≠ (.slice Ao18 t472.length co18 : Value).ownBlock) ∧ some k_ ≠ (.slice Ao31 t487.length co31 : Value).ownBlock) ∧ some k_ ≠ (.slice Ao32 t490.length co32 : Value).ownBlock) ∧ some k_ ≠ (.slice Ao39 t496.length co39 : Value).ownBlock) ∧ some k_ ≠ (.slice Ao40 t499.length co40 : Value).ownBlock)) (n := t480.length) (c := co24) ?_).2.2; exact (by (with_reducible repeat (first | apply Kd.R_alloc | apply Kd.R_drewN | apply Kd.R_drew)); exact (Kd.R_mono (Kd.R_far (p := ⟨gb503, 3, none⟩) (Kd.R_far (p := ⟨gb503, 2, none⟩) (Kd.R_far (p := ⟨gb503, 1, none⟩) (Kd.R_far (p := ⟨gb503, 0, none⟩) (Kd.R_types HO482.out BK503.out (by decide)) (fun _ hk => hk.2) (.int .i64 t494)) (fun _ hk => hk.2) (.int .i64 t495)) (fun _ hk => hk.2) (.slice Ao39 t496.length co39)) (fun _ hk => hk.2) (.slice Ao40 t499.length co40)) (fun _ h_ => h_.1)))); (case side8 => exact (Kd.R_reads' HO482.out).2.1); rintro e w50 ⟨rfl, hb⟩; refine ⟨_, rfl, ?_⟩; replace HO471 := Aside0.mk (Kd.R_below (by (with_reducible repeat (first | apply Kd.R_alloc | apply Kd.R_drewN | apply Kd.R_drew)); exact (Kd.R_mono (Kd.R_far (p := ⟨gb503, 3, none⟩) (Kd.R_far (p := ⟨gb503, 2, none⟩) (Kd.R_far (p := ⟨gb503, 1, none⟩) (Kd.R_far (p := ⟨gb503, 0, none⟩) (Kd.R_types HO471.out BK503.out (by decide)) (fun _ hk => hk.2) (.int .i64 t494)) (fun _ hk => hk.2) (.int .i64 t495)) (fun _ hk => hk.2) (.slice Ao39 t496.length co39)) (fun _ hk => hk.2) (.slice Ao40 t499.length co40)) (fun _ h_ => h_.1))) hb); replace HO474 := Aside0.mk (Kd.R_below (by (with_reducible repeat (first | apply Kd.R_alloc | apply Kd.R_drewN | apply Kd.R_drew)); exact (Kd.R_mono (Kd.R_far (p := ⟨gb503, 3, none⟩) (Kd.R_far (p := ⟨gb503, 2, none⟩) (Kd.R_far (p := ⟨gb503, 1, none⟩) (Kd.R_far (p := ⟨gb503, 0, none⟩) (Kd.R_types HO474.out BK503.out (by decide)) (fun _ hk => hk.2) (.int .i64 t494)) (fun _ hk => hk.2) (.int .i64 t495)) (fun _ hk => hk.2) (.slice Ao39 t496.length co39)) (fun _ hk => hk.2) (.slice Ao40 t499.length co40)) (fun _ h_ => h_.1))) hb); replace HO479 := Aside0.mk (Kd.R_below (by (with_reducible repeat (first | apply Kd.R_alloc | apply Kd.R_drewN | apply Kd.R_drew)); exact (Kd.R_mono (Kd.R_far (p := ⟨gb503, 3, none⟩) (Kd.R_far (p := ⟨gb503, 2, none⟩) (Kd.R_far (p := ⟨gb503, 1, none⟩) (Kd.R_far (p := ⟨gb503, 0, none⟩) (Kd.R_types HO479.out BK503.out (by decide)) (fun _ hk => hk.2) (.int .i64 t494)) (fun _ hk => hk.2) (.int .i64 t495)) (fun _ hk => hk.2) (.slice Ao39 t496.length co39)) (fun _ hk => hk.2) (.slice Ao40 t499.length co40)) (fun _ h_ => h_.1))) hb); replace HO482 := Aside0.mk (Kd.R_below (by (with_reducible repeat (first | apply Kd.R_alloc | apply Kd.R_drewN | apply Kd.R_drew)); exact (Kd.R_mono (Kd.R_far (p := ⟨gb503, 3, none⟩) (Kd.R_far (p := ⟨gb503, 2, none⟩) (Kd.R_far (p := ⟨gb503, 1, none⟩) (Kd.R_far (p := ⟨gb503, 0, none⟩) (Kd.R_types HO482.out BK503.out (by decide)) (fun _ hk => hk.2) (.int .i64 t494)) (fun _ hk => hk.2) (.int .i64 t495)) (fun _ hk => hk.2) (.slice Ao39 t496.length co39)) (fun _ hk => hk.2) (.slice Ao40 t499.length co40)) (fun _ h_ => h_.1))) hb); replace HO489 := Aside0.mk (Kd.R_below (by (with_reducible repeat (first | apply Kd.R_alloc | apply Kd.R_drewN | apply Kd.R_drew)); exact (Kd.R_mono (Kd.R_far (p := ⟨gb503, 3, none⟩) (Kd.R_far (p := ⟨gb503, 2, none⟩) (Kd.R_far (p := ⟨gb503, 1, none⟩) (Kd.R_far (p := ⟨gb503, 0, none⟩) (Kd.R_types HO489.out BK503.out (by decide)) (fun _ hk => hk.2) (.int .i64 t494)) (fun _ hk => hk.2) (.int .i64 t495)) (fun _ hk => hk.2) (.slice Ao39 t496.length co39)) (fun _ hk => hk.2) (.slice Ao40 t499.length co40)) (fun _ h_ => h_.1))) hb); replace HO492 := Aside0.mk (Kd.R_below (by (with_reducible repeat (first | apply Kd.R_alloc | apply Kd.R_drewN | apply Kd.R_drew)); exact (Kd.R_mono (Kd.R_far (p := ⟨gb503, 3, none⟩) (Kd.R_far (p := ⟨gb503, 2, none⟩) (Kd.R_far (p := ⟨gb503, 1, none⟩) (Kd.R_far (p := ⟨gb503, 0, none⟩) (Kd.R_types HO492.out BK503.out (by decide)) (fun _ hk => hk.2) (.int .i64 t494)) (fun _ hk => hk.2) (.int .i64 t495)) (fun _ hk => hk.2) (.slice Ao39 t496.length co39)) (fun _ hk => hk.2) (.slice Ao40 t499.length co40)) (fun _ h_ => h_.1))) hb); replace HO498 := Aside0.mk (Kd.R_below (by (with_reducible repeat (first | apply Kd.R_alloc | apply Kd.R_drewN | apply Kd.R_drew)); exact (Kd.R_mono (Kd.R_far (p := ⟨gb503, 3, none⟩) (Kd.R_far (p := ⟨gb503, 2, none⟩) (Kd.R_far (p := ⟨gb503, 1, none⟩) (Kd.R_far (p := ⟨gb503, 0, none⟩) (Kd.R_types HO498.out BK503.out (by decide)) (fun _ hk => hk.2) (.int .i64 t494)) (fun _ hk => hk.2) (.int .i64 t495)) (fun _ hk => hk.2) (.slice Ao39 t496.length co39)) (fun _ hk => hk.2) (.slice Ao40 t499.length co40)) (fun _ h_ => h_.1))) hb); replace HO501 := Aside0.mk (Kd.R_below (by (with_reducible repeat (first | apply Kd.R_alloc | apply Kd.R_drewN | apply Kd.R_drew)); exact (Kd.R_mono (Kd.R_far (p := ⟨gb503, 3, none⟩) (Kd.R_far (p := ⟨gb503, 2, none⟩) (Kd.R_far (p := ⟨gb503, 1, none⟩) (Kd.R_far (p := ⟨gb503, 0, none⟩) (Kd.R_types HO501.out BK503.out (by decide)) (fun _ hk => hk.2) (.int .i64 t494)) (fun _ hk => hk.2) (.int .i64 t495)) (fun _ hk => hk.2) (.slice Ao39 t496.length co39)) (fun _ hk => hk.2) (.slice Ao40 t499.length co40)) (fun _ h_ => h_.1))) hb); replace BK465 := Aside0.mk (blk_below (g := gb465) (o := .cells #[.int .i64 a0_0, .int .i64 a0_1, .slice A0_2 l0_2.length c0_2, .slice A0_3 l0_3.length c0_3] 24 (0, 0)) (by (with_reducible repeat (first | refine blk_drewN ?_ _ | refine blk_drew ?_ | refine blk_alloc ?_ _)); refine blk_far ?_ NB465_503.out _; (with_reducible repeat (first | refine blk_drewN ?_ _ | refine blk_drew ?_ | refine blk_alloc ?_ _)); refine blk_far ?_ NB465_503.out _; (with_reducible repeat (first | refine blk_drewN ?_ _ | refine blk_drew ?_ | refine blk_alloc ?_ _)); refine blk_far ?_ NB465_503.out _; (with_reducible repeat (first | refine blk_drewN ?_ _ | refine blk_drew ?_ | refine blk_alloc ?_ _)); refine blk_far ?_ NB465_503.out _; (with_reducible repeat (first | refine blk_drewN ?_ _ | refine blk_drew ?_ | refine blk_alloc ?_ _)); exact BK465.out) hb); replace BK484 := Aside0.mk (blk_below (g := gb484) (o := .cells #[.int .i64 t475, .int .i64 t476, .slice Ao23 t477.length co23, .slice Ao24 t480.length co24] 29 (0, 0)) (by (with_reducible repeat (first | refine blk_drewN ?_ _ | refine blk_drew ?_ | refine blk_alloc ?_ _)); refine blk_far ?_ NB484_503.out _; (with_reducible repeat (first | refine blk_drewN ?_ _ | refine blk_drew ?_ | refine blk_alloc ?_ _)); refine blk_far ?_ NB484_503.out _; (with_reducible repeat (first | refine blk_drewN ?_ _ | refine blk_drew ?_ | refine blk_alloc ?_ _)); refine blk_far ?_ NB484_503.out _; (with_reducible repeat (first | refine blk_drewN ?_ _ | refine blk_drew ?_ | refine blk_alloc ?_ _)); refine blk_far ?_ NB484_503.out _; (with_reducible repeat (first | refine blk_drewN ?_ _ | refine blk_drew ?_ | refine blk_alloc ?_ _)); exact BK484.out) hb); replace BK493 := Aside0.mk (blk_below (g := gb493) (o := .cells #[.int .i64 t485, .int .i64 t486, .slice Ao31 t487.length co31, .slice Ao32 t490.length co32] 29 (0, 0)) (by (with_reducible repeat (first | refine blk_drewN ?_ _ | refine blk_drew ?_ | refine blk_alloc ?_ _)); refine blk_far ?_ NB493_503.out _; (with_reducible repeat (first | refine blk_drewN ?_ _ | refine blk_drew ?_ | refine blk_alloc ?_ _)); refine blk_far ?_ NB493_503.out _; (with_reducible repeat (first | refine blk_drewN ?_ _ | refine blk_drew ?_ | refine blk_alloc ?_ _)); refine blk_far ?_ NB493_503.out _; (with_reducible repeat (first | refine blk_drewN ?_ _ | refine blk_drew ?_ | refine blk_alloc ?_ _)); refine blk_far ?_ NB493_503.out _; (with_reducible repeat (first | refine blk_drewN ?_ _ | refine blk_drew ?_ | refine blk_alloc ?_ _)); exact BK493.out) hb); replace BK503 := Aside0.mk (blk_below (g := gb503) (o := .cells #[.int .i64 t494, .int .i64 t495, .slice Ao39 t496.length co39, .slice Ao40 t499.length co40] 29 (0, 0)) (by (with_reducible repeat (first | refine blk_drewN ?_ _ | refine blk_drew ?_ | refine blk_alloc ?_ _)); refine blk_put (cs := #[.int .i64 t494, .int .i64 t495, .slice Ao39 t496.length co39, .slice none 0 0]) ?_ 3 _ rfl; (with_reducible repeat (first | refine blk_drewN ?_ _ | refine blk_drew ?_ | refine blk_alloc ?_ _)); refine blk_put (cs := #[.int .i64 t494, .int .i64 t495, .slice none 0 0, .slice none 0 0]) ?_ 2 _ rfl; (with_reducible repeat (first | refine blk_drewN ?_ _ | refine blk_drew ?_ | refine blk_alloc ?_ _)); refine blk_put (cs := #[.int .i64 t494, .int .i64 0, .slice none 0 0, .slice none 0 0]) ?_ 1 _ rfl; (with_reducible repeat (first | refine blk_drewN ?_ _ | refine blk_drew ?_ | refine blk_alloc ?_ _)); refine blk_put (cs := #[.int .i64 0, .int .i64 0, .slice none 0 0, .slice none 0 0]) ?_ 0 _ rfl; (with_reducible repeat (first | refine blk_drewN ?_ _ | refine blk_drew ?_ | refine blk_alloc ?_ _)); exact BK503.out) hb); replace HB := BS hb; (try clear hb); (try clear hb2); (try clear hk); (try clear hi)))
    go_meet
    case rel => exact ⟨_, ((t502 != t483)), TF, H', ⟨by first | omega | exact Nat.le_refl _⟩, ⟨by (with_reducible repeat (first | apply Kd.R_alloc | apply Kd.R_drewN | apply Kd.R_drew)); exact Kd.R_mono HO479.out (fun _ hk => ⟨hk.1.1.1.1.1.1, ⟨hk.1.1.1.2, ⟨hk.1.1.2, ⟨hk.1.2, hk.2⟩⟩⟩⟩)⟩, ⟨by (with_reducible repeat (first | apply Kd.R_alloc | apply Kd.R_drewN | apply Kd.R_drew)); exact Kd.R_mono HO482.out (fun _ hk => ⟨hk.1.1.1.1.1.1, ⟨hk.1.1.1.2, ⟨hk.1.1.2, ⟨hk.1.2, hk.2⟩⟩⟩⟩)⟩, ⟨by (with_reducible repeat (first | apply Kd.R_alloc | apply Kd.R_drewN | apply Kd.R_drew)); exact Kd.R_mono HO489.out (fun _ hk => ⟨hk.1.1.1.2, ⟨hk.1.1.2, ⟨hk.1.1.1.1.1.1, ⟨hk.1.2, hk.2⟩⟩⟩⟩)⟩, ⟨by (with_reducible repeat (first | apply Kd.R_alloc | apply Kd.R_drewN | apply Kd.R_drew)); exact Kd.R_mono HO492.out (fun _ hk => ⟨hk.1.1.1.2, ⟨hk.1.1.2, ⟨hk.1.1.1.1.1.1, ⟨hk.1.2, hk.2⟩⟩⟩⟩)⟩, ⟨by (with_reducible repeat (first | apply Kd.R_alloc | apply Kd.R_drewN | apply Kd.R_drew)); exact Kd.R_mono HO498.out (fun _ hk => ⟨hk.1.1.1.2, ⟨hk.1.1.2, ⟨hk.1.2, ⟨hk.2, hk.1.1.1.1.1.1⟩⟩⟩⟩)⟩, ⟨by (with_reducible repeat (first | apply Kd.R_alloc | apply Kd.R_drewN | apply Kd.R_drew)); exact Kd.R_mono HO501.out (fun _ hk => ⟨hk.1.1.1.2, ⟨hk.1.1.2, ⟨hk.1.2, ⟨hk.2, hk.1.1.1.1.1.1⟩⟩⟩⟩)⟩, KW BK465, KW BK484, KW BK493, KW BK503, ⟨TB⟩⟩
   ·replace c42 := Bool.eq_false_iff.mpr c42
    subst c42
    replace H := iff' H
    have H' := Aside0.mk H
    clear H
    have hnb51 := NB503_465.out
    have hnc51 := NB465_503.out
    have hnb52 := NB503_484.out
    have hnc52 := NB484_503.out
    have hnb53 := NB503_493.out
    have hnc53 := NB493_503.out
    have hcz54 := cz4 BK503
    have hnb55 := NB484_465.out
    have hnc55 := NB465_484.out
    have hnb56 := NB484_493.out
    have hnc56 := NB493_484.out
    have hcz57 := cz4 BK484
    go_wp2_with (first | ((with_reducible refine gate_callee (f := 19) rfl ?_); refine goesL_ (some 34) rfl rfl Tryz.func19 KR rfl #[.agg #[.int .i64 t494, .int .i64 t495, .slice Ao39 t496.length co39, .slice Ao40 t499.length co40], .agg #[.int .i64 t475, .int .i64 t476, .slice Ao23 t477.length co23, .slice Ao24 t480.length co24]] rfl TA ?_; (with_reducible refine (laws_eqDiff.calls k t494 t495 _ _ t496 _ _ t499 t475 t476 _ _ t477 _ _ t480 false _ ?side1 ?side2 ?side3 ?side4 ?side5 ?side6 ?side7 ?side8 A41.out).mono ?_); (case side1 => refine (Kd.R_reads' (e := 93) (base := w.heap.size) (ok := fun k_ => ((((((some k_ ≠ (.slice Ao40 t499.length co40 : Value).ownBlock ∧ some k_ ≠ (.slice Ao17 t469.length co17 : Value).ownBlock) ∧ some k_ ≠ (.slice Ao18 t472.length co18 : Value).ownBlock) ∧ some k_ ≠ (.slice Ao23 t477.length co23 : Value).ownBlock) ∧ some k_ ≠ (.slice Ao24 t480.length co24 : Value).ownBlock) ∧ some k_ ≠ (.slice Ao31 t487.length co31 : Value).ownBlock) ∧ some k_ ≠ (.slice Ao32 t490.length co32 : Value).ownBlock)) (n := t496.length) (c := co39) ?_).2.2; exact (by (with_reducible repeat (first | apply Kd.R_alloc | apply Kd.R_drewN | apply Kd.R_drew)); exact (Kd.R_mono (Kd.R_far (p := ⟨gb503, 3, none⟩) (Kd.R_far (p := ⟨gb503, 2, none⟩) (Kd.R_far (p := ⟨gb503, 1, none⟩) (Kd.R_far (p := ⟨gb503, 0, none⟩) (Kd.R_types HO498.out BK503.out (by decide)) (fun _ hk => hk.2) (.int .i64 t494)) (fun _ hk => hk.2) (.int .i64 t495)) (fun _ hk => hk.2) (.slice Ao39 t496.length co39)) (fun _ hk => hk.2) (.slice Ao40 t499.length co40)) (fun _ h_ => h_.1)))); (case side2 => exact (Kd.R_reads' HO498.out).2.1); (case side3 => refine (Kd.R_reads' (e := 93) (base := w.heap.size) (ok := fun k_ => ((((((some k_ ≠ (.slice Ao39 t496.length co39 : Value).ownBlock ∧ some k_ ≠ (.slice Ao17 t469.length co17 : Value).ownBlock) ∧ some k_ ≠ (.slice Ao18 t472.length co18 : Value).ownBlock) ∧ some k_ ≠ (.slice Ao23 t477.length co23 : Value).ownBlock) ∧ some k_ ≠ (.slice Ao24 t480.length co24 : Value).ownBlock) ∧ some k_ ≠ (.slice Ao31 t487.length co31 : Value).ownBlock) ∧ some k_ ≠ (.slice Ao32 t490.length co32 : Value).ownBlock)) (n := t499.length) (c := co40) ?_).2.2; exact (by (with_reducible repeat (first | apply Kd.R_alloc | apply Kd.R_drewN | apply Kd.R_drew)); exact (Kd.R_mono (Kd.R_far (p := ⟨gb503, 3, none⟩) (Kd.R_far (p := ⟨gb503, 2, none⟩) (Kd.R_far (p := ⟨gb503, 1, none⟩) (Kd.R_far (p := ⟨gb503, 0, none⟩) (Kd.R_types HO501.out BK503.out (by decide)) (fun _ hk => hk.2) (.int .i64 t494)) (fun _ hk => hk.2) (.int .i64 t495)) (fun _ hk => hk.2) (.slice Ao39 t496.length co39)) (fun _ hk => hk.2) (.slice Ao40 t499.length co40)) (fun _ h_ => h_.1)))); (case side4 => exact (Kd.R_reads' HO501.out).2.1); (case side5 => refine (Kd.R_reads' (e := 93) (base := w.heap.size) (ok := fun k_ => ((((((some k_ ≠ (.slice Ao24 t480.length co24 : Value).ownBlock ∧ some k_ ≠ (.slice Ao17 t469.length co17 : Value).ownBlock) ∧ some k_ ≠ (.slice Ao18 t472.length co18 : Value).ownBlock) ∧ some k_ ≠ (.slice Ao31 t487.length co31 : Value).ownBlock) ∧ some k_ ≠ (.slice Ao32 t490.length co32 : Value).ownBlock) ∧ some k_ ≠ (.slice Ao39 t496.length co39 : Value).ownBlock) ∧ some k_ ≠ (.slice Ao40 t499.length co40 : Value).ownBlock)) (n := t477.length) (c := co23) ?_).2.2; exact (by (with_reducible repeat (first | apply Kd.R_alloc | apply Kd.R_drewN | apply Kd.R_drew)); exact (Kd.R_mono (Kd.R_far (p := ⟨gb503, 3, none⟩) (Kd.R_far (p := ⟨gb503, 2, none⟩) (Kd.R_far (p := ⟨gb503, 1, none⟩) (Kd.R_far (p := ⟨gb503, 0, none⟩) (Kd.R_types HO479.out BK503.out (by decide)) (fun _ hk => hk.2) (.int .i64 t494)) (fun _ hk => hk.2) (.int .i64 t495)) (fun _ hk => hk.2) (.slice Ao39 t496.length co39)) (fun _ hk => hk.2) (.slice Ao40 t499.length co40)) (fun _ h_ => h_.1)))); (case side6 => exact (Kd.R_reads' HO479.out).2.1); (case side7 => refine (Kd.R_reads' (e := 93) (base := w.heap.size) (ok := fun k_ => ((((((some k_ ≠ (.slice Ao23 t477.length co23 : Value).ownBlock ∧ some k_ ≠ (.slice Ao17 t469.length co17 : Value).ownBlock) ∧ some k_ ≠ (.slice Ao18 t472.length co18 : Value).ownBlock) ∧ some k_ ≠ (.slice Ao31 t487.length co31 : Value).ownBlock) ∧ some k_ ≠ (.slice Ao32 t490.length co32 : Value).ownBlock) ∧ some k_ ≠ (.slice Ao39 t496.length co39 : Value).ownBlock) ∧ some k_ ≠ (.slice Ao40 t499.length co40 : Value).ownBlock)) (n := t480.length) (c := co24) ?_).2.2; exact (by (with_reducible repeat (first | apply Kd.R_alloc | apply Kd.R_drewN | apply Kd.R_drew)); exact (Kd.R_mono (Kd.R_far (p := ⟨gb503, 3, none⟩) (Kd.R_far (p := ⟨gb503, 2, none⟩) (Kd.R_far (p := ⟨gb503, 1, none⟩) (Kd.R_far (p := ⟨gb503, 0, none⟩) (Kd.R_types HO482.out BK503.out (by decide)) (fun _ hk => hk.2) (.int .i64 t494)) (fun _ hk => hk.2) (.int .i64 t495)) (fun _ hk => hk.2) (.slice Ao39 t496.length co39)) (fun _ hk => hk.2) (.slice Ao40 t499.length co40)) (fun _ h_ => h_.1)))); (case side8 => exact (Kd.R_reads' HO482.out).2.1); rintro e w58 ⟨rfl, hb⟩; refine ⟨_, rfl, ?_⟩; replace HO471 := Aside0.mk (Kd.R_below (by (with_reducible repeat (first | apply Kd.R_alloc | apply Kd.R_drewN | apply Kd.R_drew)); exact (Kd.R_mono (Kd.R_far (p := ⟨gb503, 3, none⟩) (Kd.R_far (p := ⟨gb503, 2, none⟩) (Kd.R_far (p := ⟨gb503, 1, none⟩) (Kd.R_far (p := ⟨gb503, 0, none⟩) (Kd.R_types HO471.out BK503.out (by decide)) (fun _ hk => hk.2) (.int .i64 t494)) (fun _ hk => hk.2) (.int .i64 t495)) (fun _ hk => hk.2) (.slice Ao39 t496.length co39)) (fun _ hk => hk.2) (.slice Ao40 t499.length co40)) (fun _ h_ => h_.1))) hb); replace HO474 := Aside0.mk (Kd.R_below (by (with_reducible repeat (first | apply Kd.R_alloc | apply Kd.R_drewN | apply Kd.R_drew)); exact (Kd.R_mono (Kd.R_far (p := ⟨gb503, 3, none⟩) (Kd.R_far (p := ⟨gb503, 2, none⟩) (Kd.R_far (p := ⟨gb503, 1, none⟩) (Kd.R_far (p := ⟨gb503, 0, none⟩) (Kd.R_types HO474.out BK503.out (by decide)) (fun _ hk => hk.2) (.int .i64 t494)) (fun _ hk => hk.2) (.int .i64 t495)) (fun _ hk => hk.2) (.slice Ao39 t496.length co39)) (fun _ hk => hk.2) (.slice Ao40 t499.length co40)) (fun _ h_ => h_.1))) hb); replace HO479 := Aside0.mk (Kd.R_below (by (with_reducible repeat (first | apply Kd.R_alloc | apply Kd.R_drewN | apply Kd.R_drew)); exact (Kd.R_mono (Kd.R_far (p := ⟨gb503, 3, none⟩) (Kd.R_far (p := ⟨gb503, 2, none⟩) (Kd.R_far (p := ⟨gb503, 1, none⟩) (Kd.R_far (p := ⟨gb503, 0, none⟩) (Kd.R_types HO479.out BK503.out (by decide)) (fun _ hk => hk.2) (.int .i64 t494)) (fun _ hk => hk.2) (.int .i64 t495)) (fun _ hk => hk.2) (.slice Ao39 t496.length co39)) (fun _ hk => hk.2) (.slice Ao40 t499.length co40)) (fun _ h_ => h_.1))) hb); replace HO482 := Aside0.mk (Kd.R_below (by (with_reducible repeat (first | apply Kd.R_alloc | apply Kd.R_drewN | apply Kd.R_drew)); exact (Kd.R_mono (Kd.R_far (p := ⟨gb503, 3, none⟩) (Kd.R_far (p := ⟨gb503, 2, none⟩) (Kd.R_far (p := ⟨gb503, 1, none⟩) (Kd.R_far (p := ⟨gb503, 0, none⟩) (Kd.R_types HO482.out BK503.out (by decide)) (fun _ hk => hk.2) (.int .i64 t494)) (fun _ hk => hk.2) (.int .i64 t495)) (fun _ hk => hk.2) (.slice Ao39 t496.length co39)) (fun _ hk => hk.2) (.slice Ao40 t499.length co40)) (fun _ h_ => h_.1))) hb); replace HO489 := Aside0.mk (Kd.R_below (by (with_reducible repeat (first | apply Kd.R_alloc | apply Kd.R_drewN | apply Kd.R_drew)); exact (Kd.R_mono (Kd.R_far (p := ⟨gb503, 3, none⟩) (Kd.R_far (p := ⟨gb503, 2, none⟩) (Kd.R_far (p := ⟨gb503, 1, none⟩) (Kd.R_far (p := ⟨gb503, 0, none⟩) (Kd.R_types HO489.out BK503.out (by decide)) (fun _ hk => hk.2) (.int .i64 t494)) (fun _ hk => hk.2) (.int .i64 t495)) (fun _ hk => hk.2) (.slice Ao39 t496.length co39)) (fun _ hk => hk.2) (.slice Ao40 t499.length co40)) (fun _ h_ => h_.1))) hb); replace HO492 := Aside0.mk (Kd.R_below (by (with_reducible repeat (first | apply Kd.R_alloc | apply Kd.R_drewN | apply Kd.R_drew)); exact (Kd.R_mono (Kd.R_far (p := ⟨gb503, 3, none⟩) (Kd.R_far (p := ⟨gb503, 2, none⟩) (Kd.R_far (p := ⟨gb503, 1, none⟩) (Kd.R_far (p := ⟨gb503, 0, none⟩) (Kd.R_types HO492.out BK503.out (by decide)) (fun _ hk => hk.2) (.int .i64 t494)) (fun _ hk => hk.2) (.int .i64 t495)) (fun _ hk => hk.2) (.slice Ao39 t496.length co39)) (fun _ hk => hk.2) (.slice Ao40 t499.length co40)) (fun _ h_ => h_.1))) hb); replace HO498 := Aside0.mk (Kd.R_below (by (with_reducible repeat (first | apply Kd.R_alloc | apply Kd.R_drewN | apply Kd.R_drew)); exact (Kd.R_mono (Kd.R_far (p := ⟨gb503, 3, none⟩) (Kd.R_far (p := ⟨gb503, 2, none⟩) (Kd.R_far (p := ⟨gb503, 1, none⟩) (Kd.R_far (p := ⟨gb503, 0, none⟩) (Kd.R_types HO498.out BK503.out (by decide)) (fun _ hk => hk.2) (.int .i64 t494)) (fun _ hk => hk.2) (.int .i64 t495)) (fun _ hk => hk.2) (.slice Ao39 t496.length co39)) (fun _ hk => hk.2) (.slice Ao40 t499.length co40)) (fun _ h_ => h_.1))) hb); replace HO501 := Aside0.mk (Kd.R_below (by (with_reducible repeat (first | apply Kd.R_alloc | apply Kd.R_drewN | apply Kd.R_drew)); exact (Kd.R_mono (Kd.R_far (p := ⟨gb503, 3, none⟩) (Kd.R_far (p := ⟨gb503, 2, none⟩) (Kd.R_far (p := ⟨gb503, 1, none⟩) (Kd.R_far (p := ⟨gb503, 0, none⟩) (Kd.R_types HO501.out BK503.out (by decide)) (fun _ hk => hk.2) (.int .i64 t494)) (fun _ hk => hk.2) (.int .i64 t495)) (fun _ hk => hk.2) (.slice Ao39 t496.length co39)) (fun _ hk => hk.2) (.slice Ao40 t499.length co40)) (fun _ h_ => h_.1))) hb); replace BK465 := Aside0.mk (blk_below (g := gb465) (o := .cells #[.int .i64 a0_0, .int .i64 a0_1, .slice A0_2 l0_2.length c0_2, .slice A0_3 l0_3.length c0_3] 24 (0, 0)) (by (with_reducible repeat (first | refine blk_drewN ?_ _ | refine blk_drew ?_ | refine blk_alloc ?_ _)); refine blk_far ?_ NB465_503.out _; (with_reducible repeat (first | refine blk_drewN ?_ _ | refine blk_drew ?_ | refine blk_alloc ?_ _)); refine blk_far ?_ NB465_503.out _; (with_reducible repeat (first | refine blk_drewN ?_ _ | refine blk_drew ?_ | refine blk_alloc ?_ _)); refine blk_far ?_ NB465_503.out _; (with_reducible repeat (first | refine blk_drewN ?_ _ | refine blk_drew ?_ | refine blk_alloc ?_ _)); refine blk_far ?_ NB465_503.out _; (with_reducible repeat (first | refine blk_drewN ?_ _ | refine blk_drew ?_ | refine blk_alloc ?_ _)); exact BK465.out) hb); replace BK484 := Aside0.mk (blk_below (g := gb484) (o := .cells #[.int .i64 t475, .int .i64 t476, .slice Ao23 t477.length co23, .slice Ao24 t480.length co24] 29 (0, 0)) (by (with_reducible repeat (first | refine blk_drewN ?_ _ | refine blk_drew ?_ | refine blk_alloc ?_ _)); refine blk_far ?_ NB484_503.out _; (with_reducible repeat (first | refine blk_drewN ?_ _ | refine blk_drew ?_ | refine blk_alloc ?_ _)); refine blk_far ?_ NB484_503.out _; (with_reducible repeat (first | refine blk_drewN ?_ _ | refine blk_drew ?_ | refine blk_alloc ?_ _)); refine blk_far ?_ NB484_503.out _; (with_reducible repeat (first | refine blk_drewN ?_ _ | refine blk_drew ?_ | refine blk_alloc ?_ _)); refine blk_far ?_ NB484_503.out _; (with_reducible repeat (first | refine blk_drewN ?_ _ | refine blk_drew ?_ | refine blk_alloc ?_ _)); exact BK484.out) hb); replace BK493 := Aside0.mk (blk_below (g := gb493) (o := .cells #[.int .i64 t485, .int .i64 t486, .slice Ao31 t487.length co31, .slice Ao32 t490.length co32] 29 (0, 0)) (by (with_reducible repeat (first | refine blk_drewN ?_ _ | refine blk_drew ?_ | refine blk_alloc ?_ _)); refine blk_far ?_ NB493_503.out _; (with_reducible repeat (first | refine blk_drewN ?_ _ | refine blk_drew ?_ | refine blk_alloc ?_ _)); refine blk_far ?_ NB493_503.out _; (with_reducible repeat (first | refine blk_drewN ?_ _ | refine blk_drew ?_ | refine blk_alloc ?_ _)); refine blk_far ?_ NB493_503.out _; (with_reducible repeat (first | refine blk_drewN ?_ _ | refine blk_drew ?_ | refine blk_alloc ?_ _)); refine blk_far ?_ NB493_503.out _; (with_reducible repeat (first | refine blk_drewN ?_ _ | refine blk_drew ?_ | refine blk_alloc ?_ _)); exact BK493.out) hb); replace BK503 := Aside0.mk (blk_below (g := gb503) (o := .cells #[.int .i64 t494, .int .i64 t495, .slice Ao39 t496.length co39, .slice Ao40 t499.length co40] 29 (0, 0)) (by (with_reducible repeat (first | refine blk_drewN ?_ _ | refine blk_drew ?_ | refine blk_alloc ?_ _)); refine blk_put (cs := #[.int .i64 t494, .int .i64 t495, .slice Ao39 t496.length co39, .slice none 0 0]) ?_ 3 _ rfl; (with_reducible repeat (first | refine blk_drewN ?_ _ | refine blk_drew ?_ | refine blk_alloc ?_ _)); refine blk_put (cs := #[.int .i64 t494, .int .i64 t495, .slice none 0 0, .slice none 0 0]) ?_ 2 _ rfl; (with_reducible repeat (first | refine blk_drewN ?_ _ | refine blk_drew ?_ | refine blk_alloc ?_ _)); refine blk_put (cs := #[.int .i64 t494, .int .i64 0, .slice none 0 0, .slice none 0 0]) ?_ 1 _ rfl; (with_reducible repeat (first | refine blk_drewN ?_ _ | refine blk_drew ?_ | refine blk_alloc ?_ _)); refine blk_put (cs := #[.int .i64 0, .int .i64 0, .slice none 0 0, .slice none 0 0]) ?_ 0 _ rfl; (with_reducible repeat (first | refine blk_drewN ?_ _ | refine blk_drew ?_ | refine blk_alloc ?_ _)); exact BK503.out) hb); replace HB := BS hb; (try clear hb); (try clear hb2); (try clear hk); (try clear hi)))
    go_meet
    case rel => exact ⟨_, (true), TF, H', ⟨by first | omega | exact Nat.le_refl _⟩, ⟨by (with_reducible repeat (first | apply Kd.R_alloc | apply Kd.R_drewN | apply Kd.R_drew)); exact Kd.R_mono HO479.out (fun _ hk => ⟨hk.1.1.1.1.1.1, ⟨hk.1.1.1.2, ⟨hk.1.1.2, ⟨hk.1.2, hk.2⟩⟩⟩⟩)⟩, ⟨by (with_reducible repeat (first | apply Kd.R_alloc | apply Kd.R_drewN | apply Kd.R_drew)); exact Kd.R_mono HO482.out (fun _ hk => ⟨hk.1.1.1.1.1.1, ⟨hk.1.1.1.2, ⟨hk.1.1.2, ⟨hk.1.2, hk.2⟩⟩⟩⟩)⟩, ⟨by (with_reducible repeat (first | apply Kd.R_alloc | apply Kd.R_drewN | apply Kd.R_drew)); exact Kd.R_mono HO489.out (fun _ hk => ⟨hk.1.1.1.2, ⟨hk.1.1.2, ⟨hk.1.1.1.1.1.1, ⟨hk.1.2, hk.2⟩⟩⟩⟩)⟩, ⟨by (with_reducible repeat (first | apply Kd.R_alloc | apply Kd.R_drewN | apply Kd.R_drew)); exact Kd.R_mono HO492.out (fun _ hk => ⟨hk.1.1.1.2, ⟨hk.1.1.2, ⟨hk.1.1.1.1.1.1, ⟨hk.1.2, hk.2⟩⟩⟩⟩)⟩, ⟨by (with_reducible repeat (first | apply Kd.R_alloc | apply Kd.R_drewN | apply Kd.R_drew)); exact Kd.R_mono HO498.out (fun _ hk => ⟨hk.1.1.1.2, ⟨hk.1.1.2, ⟨hk.1.2, ⟨hk.2, hk.1.1.1.1.1.1⟩⟩⟩⟩)⟩, ⟨by (with_reducible repeat (first | apply Kd.R_alloc | apply Kd.R_drewN | apply Kd.R_drew)); exact Kd.R_mono HO501.out (fun _ hk => ⟨hk.1.1.1.2, ⟨hk.1.1.2, ⟨hk.1.2, ⟨hk.2, hk.1.1.1.1.1.1⟩⟩⟩⟩)⟩, KW BK465, KW BK484, KW BK493, KW BK503, ⟨TB⟩⟩
  case rest =>
   clear HC11
   try clear c1
   try clear c2
   try clear p2
   try clear c3
   try clear c3b0
   try clear c4
   try clear c5
   try clear c15
   try clear c17
   try clear c19
   try clear c20
   try clear c21
   try clear c28
   try clear c29
   try clear c35
   try clear c36
   try clear c37
   try clear c42
   try clear c43
   try clear c44
   try clear c45
   try clear c47
   try clear c48
   try clear c51
   try clear c52
   try clear c53
   try clear c55
   try clear c56
   try clear hcz13
   try clear hcz15
   try clear hcz22
   try clear hcz25
   try clear hcz30
   try clear hcz38
   try clear hcz46
   try clear hcz49
   try clear hcz54
   try clear hcz57
   try clear hcz5
   try clear hfz13_0
   try clear hfz13_1
   try clear hfz13_2
   try clear hfz13_3
   try clear hfz15_0
   try clear hfz15_1
   try clear hfz15_2
   try clear hfz15_3
   try clear hfz22_0
   try clear hfz22_1
   try clear hfz22_2
   try clear hfz22_3
   try clear hfz25_0
   try clear hfz25_1
   try clear hfz25_2
   try clear hfz25_3
   try clear hfz30_0
   try clear hfz30_1
   try clear hfz30_2
   try clear hfz30_3
   try clear hfz38_0
   try clear hfz38_1
   try clear hfz38_2
   try clear hfz38_3
   try clear hfz46_0
   try clear hfz46_1
   try clear hfz46_2
   try clear hfz46_3
   try clear hfz49_0
   try clear hfz49_1
   try clear hfz49_2
   try clear hfz49_3
   try clear hfz54_0
   try clear hfz54_1
   try clear hfz54_2
   try clear hfz54_3
   try clear hfz57_0
   try clear hfz57_1
   try clear hfz57_2
   try clear hfz57_3
   try clear hfz5_0
   try clear hfz5_1
   try clear hfz5_2
   try clear hfz5_3
   obtain ⟨kq, x40_10, rfl, HA, HJ10, HO_485002, HO_485003, HO_494002, HO_494003, HO_504002, HO_504003, BK465, BK484, BK493, BK503, HB⟩ := hcut
   cases kq with
   | zero => exact absurd HA.out (by simp [laws_FnExactBackDiff.j0])
   | succ kj10 =>
    have H := HA.out
    clear HA
    simp only [laws_FnExactBackDiff.j0] at H
    by_cases c59 : x40_10 = true
    ·subst c59
     replace H := ift H
     obtain rfl := Option.some.inj H
     go_wp2
     go_ret
     exact ⟨TE, TB⟩
    ·replace c59 := Bool.eq_false_iff.mpr c59
     subst c59
     replace H := iff' H
     obtain ⟨⟨t505, t506, t507, t510⟩, A60, H⟩ := bnd H
     try dsimp only at H
     obtain ⟨t513, A61, H⟩ := bnd H
     by_cases c62 : t513 = true
     ·subst c62
      replace H := ift H
      obtain ⟨⟨t514, t515, t516⟩, A63, H⟩ := bnd H
      try dsimp only at H
      have HC64 := Aside0.mk H
      clear H
      try go_wp2
      replace HO_485002 := Aside0.mk (Kd.R_drew HO_485002.out)
      replace HO_485003 := Aside0.mk (Kd.R_drew HO_485003.out)
      replace HO_494002 := Aside0.mk (Kd.R_drew HO_494002.out)
      replace HO_494003 := Aside0.mk (Kd.R_drew HO_494003.out)
      replace HO_504002 := Aside0.mk (Kd.R_drew HO_504002.out)
      replace HO_504003 := Aside0.mk (Kd.R_drew HO_504003.out)
      replace BK465 := Aside0.mk (blk_drew BK465.out)
      replace BK484 := Aside0.mk (blk_drew BK484.out)
      replace BK493 := Aside0.mk (blk_drew BK493.out)
      replace BK503 := Aside0.mk (blk_drew BK503.out)
      replace HB := Aside0.mk (below_drew1 HB.out)
      refine start_ (n := 5) (S := fun w' => w'.cell? ⟨gb493, 0, none⟩ = some (.int .i64 t485) ∧ w'.cell? ⟨gb493, 1, none⟩ = some (.int .i64 t486) ∧ w'.cell? ⟨gb493, 2, none⟩ = some (.slice Ao31 t487.length co31) ∧ w'.cell? ⟨gb493, 3, none⟩ = some (.slice Ao32 t490.length co32) ∧ w'.cell? ⟨gb465, 0, none⟩ = some (.int .i64 a0_0) ∧ w'.cell? ⟨gb465, 1, none⟩ = some (.int .i64 a0_1) ∧ w'.cell? ⟨gb465, 2, none⟩ = some (.slice A0_2 l0_2.length c0_2) ∧ w'.cell? ⟨gb465, 3, none⟩ = some (.slice A0_3 l0_3.length c0_3)) (ds := []) #[false, false, false, false, false] KR rfl rfl ⟨bc 0 BK493, bc 1 BK493, bc 2 BK493, bc 3 BK493, bc 0 BK465, bc 1 BK465, bc 2 BK465, bc 3 BK465⟩ (fun hHeld => ?_)
      generalize wc.drew = w65 at HO_485002 HO_485003 HO_494002 HO_494003 HO_504002 HO_504003 BK465 BK484 BK493 BK503 HB hHeld ⊢
      refine take_ (i := 0) (N := some 41) (v := ?_) (a' := ?_) #[true, false, false, false, false] rfl rfl KR (fun _ _ _ h => h) (Or.inl ⟨by rfl, ?_⟩) hHeld ?_ ?_
      rotate_left
      ·rintro w' ⟨s0, s1, s2, s3, s4, s5, s6, s7⟩
       go_simp
       with_reducible rfl
      rotate_left
      ·simp only [Act.put, List.setIfInBounds_toArray, List.set_cons_zero, List.set_cons_succ, i64_w, i32_w]
       rfl
      refine take_ (i := 1) (N := some 42) (v := ?_) (a' := ?_) #[true, true, false, false, false] rfl rfl KR (fun _ _ _ h => h) (Or.inl ⟨by rfl, ?_⟩) hHeld ?_ ?_
      rotate_left
      ·rintro w' ⟨s0, s1, s2, s3, s4, s5, s6, s7⟩
       go_simp
       with_reducible rfl
      rotate_left
      ·simp only [Act.put, List.setIfInBounds_toArray, List.set_cons_zero, List.set_cons_succ, i64_w, i32_w]
       rfl
      refine one_ (i := 2) (N := some 43) (mL 5 7) rfl rfl KR (by decide) (fun K hK => ?_)
      refine goes_ Tryz.func17 KR rfl #[.agg #[.int .i64 a0_0, .int .i64 a0_1, .slice A0_2 l0_2.length c0_2, .slice A0_3 l0_3.length c0_3]] (by rfl) rfl rfl TA ?_
      with_reducible refine (laws_toDiff.calls kj10 a0_0 a0_1 _ _ l0_2 _ _ l0_3 t505 t506 t507 t510 _ ?side1 ?side2 ?side3 ?side4 A60.out).mono ?_
      (case side1 => exact CW ((Kd.C_below HR0_2.out HB.out)))
      (case side2 => exact HC0_2.out)
      (case side3 => exact CW ((Kd.C_below HR0_3.out HB.out)))
      (case side4 => exact HC0_3.out)
      rintro e w66 ⟨v508, v511, rfl, ho0, ho1, hb⟩
      refine ⟨_, rfl, ?_⟩
      have HO509 := Aside0.mk (Kd.R_lower (Kd.R_new' (Kd.R_new' (Kd.R_new' (Kd.R_new' (Kd.R_new' (Kd.R_new' ho0 (Kd.R_lt (RW HO_485002).out)) (Kd.R_lt (RW HO_485003).out)) (Kd.R_lt (RW HO_494002).out)) (Kd.R_lt (RW HO_494003).out)) (Kd.R_lt (RW HO_504002).out)) (Kd.R_lt (RW HO_504003).out)) (below_size TB))
      have HO512 := Aside0.mk (Kd.R_lower (Kd.R_new' (Kd.R_new' (Kd.R_new' (Kd.R_new' (Kd.R_new' (Kd.R_new' ho1 (Kd.R_lt (RW HO_485002).out)) (Kd.R_lt (RW HO_485003).out)) (Kd.R_lt (RW HO_494002).out)) (Kd.R_lt (RW HO_494003).out)) (Kd.R_lt (RW HO_504002).out)) (Kd.R_lt (RW HO_504003).out)) (below_size TB))
      replace HO_485002 := Aside0.mk (Kd.R_mono (Kd.R_told (Kd.R_told (Kd.R_old (RW HO_485002).out hb) (Kd.R_base ho0)) (Kd.R_base ho1)) (fun _ h_ => h_.1))
      replace HO_485003 := Aside0.mk (Kd.R_mono (Kd.R_told (Kd.R_told (Kd.R_old (RW HO_485003).out hb) (Kd.R_base ho0)) (Kd.R_base ho1)) (fun _ h_ => h_.1))
      replace HO_494002 := Aside0.mk (Kd.R_mono (Kd.R_told (Kd.R_told (Kd.R_old (RW HO_494002).out hb) (Kd.R_base ho0)) (Kd.R_base ho1)) (fun _ h_ => h_.1))
      replace HO_494003 := Aside0.mk (Kd.R_mono (Kd.R_told (Kd.R_told (Kd.R_old (RW HO_494003).out hb) (Kd.R_base ho0)) (Kd.R_base ho1)) (fun _ h_ => h_.1))
      replace HO_504002 := Aside0.mk (Kd.R_mono (Kd.R_told (Kd.R_told (Kd.R_old (RW HO_504002).out hb) (Kd.R_base ho0)) (Kd.R_base ho1)) (fun _ h_ => h_.1))
      replace HO_504003 := Aside0.mk (Kd.R_mono (Kd.R_told (Kd.R_told (Kd.R_old (RW HO_504003).out hb) (Kd.R_base ho0)) (Kd.R_base ho1)) (fun _ h_ => h_.1))
      replace BK465 := KB BK465 hb
      replace BK484 := KB BK484 hb
      replace BK493 := KB BK493 hb
      replace BK503 := KB BK503 hb
      replace HB := BS hb
      (try clear hb)
      (try clear hb2)
      (try clear hk)
      (try clear hi)
      (try clear ho0)
      (try clear ho1)
      obtain ⟨Ao67, co67, eo67⟩ := Kd.R_slice HO509.out
      (first | subst eo67 | (injection eo67 with f1_ f2_ f3_; have f4_ := f1_.symm; have f5_ := f3_.symm; clear f1_ f2_ f3_; subst f4_; subst f5_))
      obtain ⟨Ao68, co68, eo68⟩ := Kd.R_slice HO512.out
      (first | subst eo68 | (injection eo68 with f1_ f2_ f3_; have f4_ := f1_.symm; have f5_ := f3_.symm; clear f1_ f2_ f3_; subst f4_; subst f5_))
      refine hK.out _ _ ⟨bc 0 BK493, bc 1 BK493, bc 2 BK493, bc 3 BK493, bc 0 BK465, bc 1 BK465, bc 2 BK465, bc 3 BK465⟩ (fun hHeld => ?_)
      clear hK K
      refine nA ?_
      refine one_ (i := 3) (N := some 44) (mL 5 15) rfl rfl KR (by decide) (fun K hK => ?_)
      refine goes_ Tryz.func19 KR rfl #[.agg #[.int .i64 t485, .int .i64 t486, .slice Ao31 t487.length co31, .slice Ao32 t490.length co32], .agg #[.int .i64 t505, .int .i64 t506, .slice Ao67 t507.length co67, .slice Ao68 t510.length co68]] (by rfl) rfl rfl TA ?_
      with_reducible refine (laws_eqDiff.calls kj10 t485 t486 _ _ t487 _ _ t490 t505 t506 _ _ t507 _ _ t510 true _ ?side1 ?side2 ?side3 ?side4 ?side5 ?side6 ?side7 ?side8 A61.out).mono ?_
      (case side1 => exact CW ((Kd.R_reads' HO_494002.out).2.2))
      (case side2 => exact (Kd.R_reads' HO_494002.out).2.1)
      (case side3 => exact CW ((Kd.R_reads' HO_494003.out).2.2))
      (case side4 => exact (Kd.R_reads' HO_494003.out).2.1)
      (case side5 => exact CW ((Kd.R_reads' HO509.out).2.2))
      (case side6 => exact (Kd.R_reads' HO509.out).2.1)
      (case side7 => exact CW ((Kd.R_reads' HO512.out).2.2))
      (case side8 => exact (Kd.R_reads' HO512.out).2.1)
      rintro e w69 ⟨rfl, hb⟩
      refine ⟨_, rfl, ?_⟩
      replace HO_485002 := RB HO_485002 hb
      replace HO_485003 := RB HO_485003 hb
      replace HO_494002 := RB HO_494002 hb
      replace HO_494003 := RB HO_494003 hb
      replace HO_504002 := RB HO_504002 hb
      replace HO_504003 := RB HO_504003 hb
      replace HO509 := RB HO509 hb
      replace HO512 := RB HO512 hb
      replace BK465 := KB BK465 hb
      replace BK484 := KB BK484 hb
      replace BK493 := KB BK493 hb
      replace BK503 := KB BK503 hb
      replace HB := BS hb
      (try clear hb)
      (try clear hb2)
      (try clear hk)
      (try clear hi)
      refine hK.out _ _ ⟨bc 0 BK493, bc 1 BK493, bc 2 BK493, bc 3 BK493, bc 0 BK465, bc 1 BK465, bc 2 BK465, bc 3 BK465⟩ (fun hHeld => ?_)
      clear hK K
      refine nA ?_
      refine pure_ (i := 4) (N := some 45) (v := ?_) (a' := ?_) #[true, true, true, true, true] rfl rfl KR (fun _ _ _ h => h) (Or.inl ⟨by rfl, ?_⟩) ?_ ?_
      rotate_left
      ·intro w'
       go_simp
       with_reducible rfl
      rotate_left
      ·simp only [Act.put, List.setIfInBounds_toArray, List.set_cons_zero, List.set_cons_succ, i64_w, i32_w]
       rfl
      refine done_ KR ?_
      have hnb70 := NB493_465.out
      have hnc70 := NB465_493.out
      have hnb71 := NB493_484.out
      have hnc71 := NB484_493.out
      have hnb72 := NB493_503.out
      have hnc72 := NB503_493.out
      have hcz73 := cz4 BK493
      go_upto_region 14 with (first | ((with_reducible refine gate_callee (f := 22) rfl ?_); refine goesL_ (some 48) rfl rfl Tryz.func22 KR rfl #[.agg #[.int .i64 t485, .int .i64 t486, .slice Ao31 t487.length co31, .slice Ao32 t490.length co32], .int .i64 1] rfl TA ?_; (with_reducible refine (laws_markDiff.calls kj10 t485 t486 (fun k_ => some k_ = (.slice Ao31 t487.length co31 : Value).ownBlock) (.slice Ao31 t487.length co31) t487 (fun k_ => some k_ = (.slice Ao32 t490.length co32 : Value).ownBlock) (.slice Ao32 t490.length co32) t490 1 t514 t515 t516 w _ ?side1 ?side2 ?side3 ?side4 ?side5 A63.out).mono ?_); (case side1 => repeat (first | (with_reducible first | exact HB.out | apply below_alloc | apply pw_below_drewN | apply below_drew1 | refine below_set ?_ GE465.out | refine below_set ?_ GE484.out | refine below_set ?_ GE493.out | refine below_set ?_ GE503.out) | exact HB.out)); (case side2 => exact Kd.R_tight rfl HO_494002.out); (case side3 => exact fun k_ e_ => (HO_494002.out.1 k_ e_.symm).1.1.2.2.1); (case side4 => exact Kd.R_tight rfl HO_494003.out); (case side5 => exact fun k_ e_ => (HO_494003.out.1 k_ e_.symm).1.1.2.2.1); rintro e w74 ⟨rfl, hy0, hy1, hb, hkp⟩; refine ⟨_, rfl, ?_⟩; replace HO_485002 := Aside0.mk (Kd.R_mono (ok' := fun k_ => some k_ ≠ (.slice Ao24 t480.length co24 : Value).ownBlock ∧ some k_ ≠ (.slice Ao31 t487.length co31 : Value).ownBlock ∧ some k_ ≠ (.slice Ao32 t490.length co32 : Value).ownBlock ∧ some k_ ≠ (.slice Ao39 t496.length co39 : Value).ownBlock ∧ some k_ ≠ (.slice Ao40 t499.length co40 : Value).ownBlock ∧ some k_ ≠ (.slice Ao67 t507.length co67 : Value).ownBlock ∧ some k_ ≠ (.slice Ao68 t510.length co68 : Value).ownBlock) (Kd.R_keptB (HO_485002.out) hkp (fun k_ hk_ hs_ => Or.elim hs_ (fun e_ => (hk_.1.1.2.1) e_) (fun e_ => (hk_.1.1.2.2.1) e_))) (fun k_ hk_ => ⟨hk_.1.1.1.1, hk_.1.1.1.2.1, hk_.1.1.1.2.2.1, hk_.1.1.1.2.2.2.1, hk_.1.1.1.2.2.2.2, hk_.1.1.2, hk_.1.2⟩)); replace HO_485003 := Aside0.mk (Kd.R_mono (ok' := fun k_ => some k_ ≠ (.slice Ao23 t477.length co23 : Value).ownBlock ∧ some k_ ≠ (.slice Ao31 t487.length co31 : Value).ownBlock ∧ some k_ ≠ (.slice Ao32 t490.length co32 : Value).ownBlock ∧ some k_ ≠ (.slice Ao39 t496.length co39 : Value).ownBlock ∧ some k_ ≠ (.slice Ao40 t499.length co40 : Value).ownBlock ∧ some k_ ≠ (.slice Ao67 t507.length co67 : Value).ownBlock ∧ some k_ ≠ (.slice Ao68 t510.length co68 : Value).ownBlock) (Kd.R_keptB (HO_485003.out) hkp (fun k_ hk_ hs_ => Or.elim hs_ (fun e_ => (hk_.1.1.2.1) e_) (fun e_ => (hk_.1.1.2.2.1) e_))) (fun k_ hk_ => ⟨hk_.1.1.1.1, hk_.1.1.1.2.1, hk_.1.1.1.2.2.1, hk_.1.1.1.2.2.2.1, hk_.1.1.1.2.2.2.2, hk_.1.1.2, hk_.1.2⟩)); replace HO_504002 := Aside0.mk (Kd.R_mono (ok' := fun k_ => some k_ ≠ (.slice Ao23 t477.length co23 : Value).ownBlock ∧ some k_ ≠ (.slice Ao24 t480.length co24 : Value).ownBlock ∧ some k_ ≠ (.slice Ao31 t487.length co31 : Value).ownBlock ∧ some k_ ≠ (.slice Ao32 t490.length co32 : Value).ownBlock ∧ some k_ ≠ (.slice Ao40 t499.length co40 : Value).ownBlock ∧ some k_ ≠ (.slice Ao67 t507.length co67 : Value).ownBlock ∧ some k_ ≠ (.slice Ao68 t510.length co68 : Value).ownBlock) (Kd.R_keptB (HO_504002.out) hkp (fun k_ hk_ hs_ => Or.elim hs_ (fun e_ => (hk_.1.1.2.2.1) e_) (fun e_ => (hk_.1.1.2.2.2.1) e_))) (fun k_ hk_ => ⟨hk_.1.1.1.1, hk_.1.1.1.2.1, hk_.1.1.1.2.2.1, hk_.1.1.1.2.2.2.1, hk_.1.1.1.2.2.2.2, hk_.1.1.2, hk_.1.2⟩)); replace HO_504003 := Aside0.mk (Kd.R_mono (ok' := fun k_ => some k_ ≠ (.slice Ao23 t477.length co23 : Value).ownBlock ∧ some k_ ≠ (.slice Ao24 t480.length co24 : Value).ownBlock ∧ some k_ ≠ (.slice Ao31 t487.length co31 : Value).ownBlock ∧ some k_ ≠ (.slice Ao32 t490.length co32 : Value).ownBlock ∧ some k_ ≠ (.slice Ao39 t496.length co39 : Value).ownBlock ∧ some k_ ≠ (.slice Ao67 t507.length co67 : Value).ownBlock ∧ some k_ ≠ (.slice Ao68 t510.length co68 : Value).ownBlock) (Kd.R_keptB (HO_504003.out) hkp (fun k_ hk_ hs_ => Or.elim hs_ (fun e_ => (hk_.1.1.2.2.1) e_) (fun e_ => (hk_.1.1.2.2.2.1) e_))) (fun k_ hk_ => ⟨hk_.1.1.1.1, hk_.1.1.1.2.1, hk_.1.1.1.2.2.1, hk_.1.1.1.2.2.2.1, hk_.1.1.1.2.2.2.2, hk_.1.1.2, hk_.1.2⟩)); replace BK465 := Aside0.mk (blk_kept (KW BK465).out hkp (fun hs_ => Or.elim hs_ (fun e_ => (fun e_ => (Kd.R_ne HO_494002.out BK465.out (by decide)) e_) e_) (fun e_ => (fun e_ => (Kd.R_ne HO_494003.out BK465.out (by decide)) e_) e_))); replace BK484 := Aside0.mk (blk_kept (KW BK484).out hkp (fun hs_ => Or.elim hs_ (fun e_ => (fun e_ => (Kd.R_ne HO_494002.out BK484.out (by decide)) e_) e_) (fun e_ => (fun e_ => (Kd.R_ne HO_494003.out BK484.out (by decide)) e_) e_))); replace BK493 := Aside0.mk (blk_kept (KW BK493).out hkp (fun hs_ => Or.elim hs_ (fun e_ => (fun e_ => (Kd.R_ne HO_494002.out BK493.out (by decide)) e_) e_) (fun e_ => (fun e_ => (Kd.R_ne HO_494003.out BK493.out (by decide)) e_) e_))); replace BK503 := Aside0.mk (blk_kept (KW BK503).out hkp (fun hs_ => Or.elim hs_ (fun e_ => (fun e_ => (Kd.R_ne HO_494002.out BK503.out (by decide)) e_) e_) (fun e_ => (fun e_ => (Kd.R_ne HO_494003.out BK503.out (by decide)) e_) e_))); replace HO_494002 := Aside0.mk (Kd.R_reok rfl hy0 (fun k_ e_ => HO_494002.out.1 k_ e_)); replace HO_494003 := Aside0.mk (Kd.R_reok rfl hy1 (fun k_ e_ => HO_494003.out.1 k_ e_)); replace HO509 := Aside0.mk (Kd.R_mono (ok' := fun k_ => some k_ ≠ (.slice Ao23 t477.length co23 : Value).ownBlock ∧ some k_ ≠ (.slice Ao24 t480.length co24 : Value).ownBlock ∧ some k_ ≠ (.slice Ao31 t487.length co31 : Value).ownBlock ∧ some k_ ≠ (.slice Ao32 t490.length co32 : Value).ownBlock ∧ some k_ ≠ (.slice Ao39 t496.length co39 : Value).ownBlock ∧ some k_ ≠ (.slice Ao40 t499.length co40 : Value).ownBlock ∧ some k_ ≠ (.slice Ao68 t510.length co68 : Value).ownBlock) (Kd.R_keptB (HO509.out) hkp (fun k_ hk_ hs_ => Or.elim hs_ (fun e_ => (hk_.1.1.1.2) e_) (fun e_ => (hk_.1.1.2) e_))) (fun k_ hk_ => ⟨hk_.1.1.1.1.1.1.2, hk_.1.1.1.1.1.2, hk_.1.1.1.1.2, hk_.1.1.1.2, hk_.1.1.2, hk_.1.2, hk_.1.1.1.1.1.1.1⟩)); replace HO512 := Aside0.mk (Kd.R_mono (ok' := fun k_ => some k_ ≠ (.slice Ao23 t477.length co23 : Value).ownBlock ∧ some k_ ≠ (.slice Ao24 t480.length co24 : Value).ownBlock ∧ some k_ ≠ (.slice Ao31 t487.length co31 : Value).ownBlock ∧ some k_ ≠ (.slice Ao32 t490.length co32 : Value).ownBlock ∧ some k_ ≠ (.slice Ao39 t496.length co39 : Value).ownBlock ∧ some k_ ≠ (.slice Ao40 t499.length co40 : Value).ownBlock ∧ some k_ ≠ (.slice Ao67 t507.length co67 : Value).ownBlock) (Kd.R_keptB (HO512.out) hkp (fun k_ hk_ hs_ => Or.elim hs_ (fun e_ => (hk_.1.1.1.2) e_) (fun e_ => (hk_.1.1.2) e_))) (fun k_ hk_ => ⟨hk_.1.1.1.1.1.1.2, hk_.1.1.1.1.1.2, hk_.1.1.1.1.2, hk_.1.1.1.2, hk_.1.1.2, hk_.1.2, hk_.1.1.1.1.1.1.1⟩)); replace HB := Aside0.mk (hb); (try clear hb); (try clear hkp); (try clear hy0); (try clear hy1)))
      (try simp only [Act.put, List.setIfInBounds_toArray, List.set_cons_zero, List.set_cons_succ])
      go_cut [61] (fun v61 wc => ∃ (kq : Nat) (x61_63 : Bool), v61 = .bool x61_63 ∧ Aside0 (laws_FnExactBackDiff.j1 kq t483 x61_63 a0_0 a0_1 l0_2 l0_3 t475 t476 t477 t480 t494 t495 t496 t499 = some r) ∧ Aside0 (kq ≤ kj10) ∧ Aside0 (Kd.R k_Record 93 wc w.heap.size (fun k_ => some k_ ≠ ((.slice Ao24 t480.length co24) : Value).ownBlock ∧ some k_ ≠ ((.slice Ao31 t487.length co31) : Value).ownBlock ∧ some k_ ≠ ((.slice Ao32 t490.length co32) : Value).ownBlock ∧ some k_ ≠ ((.slice Ao39 t496.length co39) : Value).ownBlock ∧ some k_ ≠ ((.slice Ao40 t499.length co40) : Value).ownBlock) (.slice Ao23 t477.length co23) t477) ∧ Aside0 (Kd.R k_Record 93 wc w.heap.size (fun k_ => some k_ ≠ ((.slice Ao23 t477.length co23) : Value).ownBlock ∧ some k_ ≠ ((.slice Ao31 t487.length co31) : Value).ownBlock ∧ some k_ ≠ ((.slice Ao32 t490.length co32) : Value).ownBlock ∧ some k_ ≠ ((.slice Ao39 t496.length co39) : Value).ownBlock ∧ some k_ ≠ ((.slice Ao40 t499.length co40) : Value).ownBlock) (.slice Ao24 t480.length co24) t480) ∧ Aside0 (Kd.R k_Record 93 wc w.heap.size (fun k_ => some k_ ≠ ((.slice Ao23 t477.length co23) : Value).ownBlock ∧ some k_ ≠ ((.slice Ao24 t480.length co24) : Value).ownBlock ∧ some k_ ≠ ((.slice Ao32 t490.length co32) : Value).ownBlock ∧ some k_ ≠ ((.slice Ao39 t496.length co39) : Value).ownBlock ∧ some k_ ≠ ((.slice Ao40 t499.length co40) : Value).ownBlock) (.slice Ao31 t487.length co31) t515) ∧ Aside0 (Kd.R k_Record 93 wc w.heap.size (fun k_ => some k_ ≠ ((.slice Ao23 t477.length co23) : Value).ownBlock ∧ some k_ ≠ ((.slice Ao24 t480.length co24) : Value).ownBlock ∧ some k_ ≠ ((.slice Ao31 t487.length co31) : Value).ownBlock ∧ some k_ ≠ ((.slice Ao39 t496.length co39) : Value).ownBlock ∧ some k_ ≠ ((.slice Ao40 t499.length co40) : Value).ownBlock) (.slice Ao32 t490.length co32) t516) ∧ Aside0 (Kd.R k_Record 93 wc w.heap.size (fun k_ => some k_ ≠ ((.slice Ao23 t477.length co23) : Value).ownBlock ∧ some k_ ≠ ((.slice Ao24 t480.length co24) : Value).ownBlock ∧ some k_ ≠ ((.slice Ao31 t487.length co31) : Value).ownBlock ∧ some k_ ≠ ((.slice Ao32 t490.length co32) : Value).ownBlock ∧ some k_ ≠ ((.slice Ao40 t499.length co40) : Value).ownBlock) (.slice Ao39 t496.length co39) t496) ∧ Aside0 (Kd.R k_Record 93 wc w.heap.size (fun k_ => some k_ ≠ ((.slice Ao23 t477.length co23) : Value).ownBlock ∧ some k_ ≠ ((.slice Ao24 t480.length co24) : Value).ownBlock ∧ some k_ ≠ ((.slice Ao31 t487.length co31) : Value).ownBlock ∧ some k_ ≠ ((.slice Ao32 t490.length co32) : Value).ownBlock ∧ some k_ ≠ ((.slice Ao39 t496.length co39) : Value).ownBlock) (.slice Ao40 t499.length co40) t499) ∧ Aside0 (wc.heap[gb465]? = some (.cells #[.int .i64 a0_0, .int .i64 a0_1, (.slice A0_2 l0_2.length c0_2), (.slice A0_3 l0_3.length c0_3)] 24 (0, 0))) ∧ Aside0 (wc.heap[gb484]? = some (.cells #[.int .i64 t475, .int .i64 t476, (.slice Ao23 t477.length co23), (.slice Ao24 t480.length co24)] 29 (0, 0))) ∧ Aside0 (wc.heap[gb493]? = some (.cells #[.int .i64 t485, .int .i64 t486, (.slice Ao31 t487.length co31), (.slice Ao32 t490.length co32)] 29 (0, 0))) ∧ Aside0 (wc.heap[gb503]? = some (.cells #[.int .i64 t494, .int .i64 t495, (.slice Ao39 t496.length co39), (.slice Ao40 t499.length co40)] 29 (0, 0))) ∧ Aside0 (Below w.heap.size w wc))
      case first =>
       have H := HC64.out
       clear HC64
       by_cases c75 : t514 < 0
       ·rw [if_pos c75] at H
        have c75b0 : decide (t514 < 0) = true := decide_eq_true c75
        clear c75
        (first | rw [c75b0] | (simp only [i64_w, i32_w]; rw [c75b0]) | skip)
        have H' := Aside0.mk H
        clear H
        go_wp2
        go_meet
        case rel => exact ⟨_, (true), TF, H', ⟨by have := HJ10.out; first | omega | exact Nat.le_refl _⟩, ⟨by (with_reducible repeat (first | apply Kd.R_alloc | apply Kd.R_drewN | apply Kd.R_drew)); exact Kd.R_mono HO_485002.out (fun _ hk => ⟨hk.1, ⟨hk.2.1, ⟨hk.2.2.1, ⟨hk.2.2.2.1, hk.2.2.2.2.1⟩⟩⟩⟩)⟩, ⟨by (with_reducible repeat (first | apply Kd.R_alloc | apply Kd.R_drewN | apply Kd.R_drew)); exact Kd.R_mono HO_485003.out (fun _ hk => ⟨hk.1, ⟨hk.2.1, ⟨hk.2.2.1, ⟨hk.2.2.2.1, hk.2.2.2.2.1⟩⟩⟩⟩)⟩, ⟨by (with_reducible repeat (first | apply Kd.R_alloc | apply Kd.R_drewN | apply Kd.R_drew)); exact Kd.R_mono HO_494002.out (fun _ hk => ⟨hk.1.1.1, ⟨hk.1.1.2.1, ⟨hk.1.1.2.2.1, ⟨hk.1.1.2.2.2.1, hk.1.1.2.2.2.2⟩⟩⟩⟩)⟩, ⟨by (with_reducible repeat (first | apply Kd.R_alloc | apply Kd.R_drewN | apply Kd.R_drew)); exact Kd.R_mono HO_494003.out (fun _ hk => ⟨hk.1.1.1, ⟨hk.1.1.2.1, ⟨hk.1.1.2.2.1, ⟨hk.1.1.2.2.2.1, hk.1.1.2.2.2.2⟩⟩⟩⟩)⟩, ⟨by (with_reducible repeat (first | apply Kd.R_alloc | apply Kd.R_drewN | apply Kd.R_drew)); exact Kd.R_mono HO_504002.out (fun _ hk => ⟨hk.1, ⟨hk.2.1, ⟨hk.2.2.1, ⟨hk.2.2.2.1, hk.2.2.2.2.1⟩⟩⟩⟩)⟩, ⟨by (with_reducible repeat (first | apply Kd.R_alloc | apply Kd.R_drewN | apply Kd.R_drew)); exact Kd.R_mono HO_504003.out (fun _ hk => ⟨hk.1, ⟨hk.2.1, ⟨hk.2.2.1, ⟨hk.2.2.2.1, hk.2.2.2.2.1⟩⟩⟩⟩)⟩, KW BK465, KW BK484, KW BK493, KW BK503, ⟨TB⟩⟩
       ·rw [if_neg c75] at H
        have c75b0 : decide (t514 < 0) = false := decide_eq_false c75
        clear c75
        (first | rw [c75b0] | (simp only [i64_w, i32_w]; rw [c75b0]) | skip)
        obtain ⟨t517, A76, H⟩ := bnd H
        by_cases c77 : t517 = true
        ·subst c77
         replace H := ift H
         have H' := Aside0.mk H
         clear H
         have hnb78 := NB503_465.out
         have hnc78 := NB465_503.out
         have hnb79 := NB503_484.out
         have hnc79 := NB484_503.out
         have hnb80 := NB503_493.out
         have hnc80 := NB493_503.out
         have hcz81 := cz4 BK503
         have hnb82 := NB484_465.out
         have hnc82 := NB465_484.out
         have hnb83 := NB484_493.out
         have hnc83 := NB493_484.out
         have hcz84 := cz4 BK484
         go_wp2_with (first | (go_at_call 19; (with_reducible refine (laws_eqDiff.calls kj10 t494 t495 _ _ t496 _ _ t499 t475 t476 _ _ t477 _ _ t480 true _ ?side1 ?side2 ?side3 ?side4 ?side5 ?side6 ?side7 ?side8 A76.out).mono ?_); (case side1 => exact CW ((Kd.R_reads' HO_504002.out).2.2)); (case side2 => exact (Kd.R_reads' HO_504002.out).2.1); (case side3 => exact CW ((Kd.R_reads' HO_504003.out).2.2)); (case side4 => exact (Kd.R_reads' HO_504003.out).2.1); (case side5 => exact CW ((Kd.R_reads' HO_485002.out).2.2)); (case side6 => exact (Kd.R_reads' HO_485002.out).2.1); (case side7 => exact CW ((Kd.R_reads' HO_485003.out).2.2)); (case side8 => exact (Kd.R_reads' HO_485003.out).2.1); rintro e w85 ⟨rfl, hb⟩; replace HO_485002 := RB HO_485002 hb; replace HO_485003 := RB HO_485003 hb; replace HO_494002 := RB HO_494002 hb; replace HO_494003 := RB HO_494003 hb; replace HO_504002 := RB HO_504002 hb; replace HO_504003 := RB HO_504003 hb; replace HO509 := RB HO509 hb; replace HO512 := RB HO512 hb; replace BK465 := KB BK465 hb; replace BK484 := KB BK484 hb; replace BK493 := KB BK493 hb; replace BK503 := KB BK503 hb; replace HB := BS hb; (try clear hb); (try clear hb2); (try clear hk); (try clear hi)))
         go_meet
         case rel => exact ⟨_, ((t502 != t483)), TF, H', ⟨by have := HJ10.out; first | omega | exact Nat.le_refl _⟩, ⟨by (with_reducible repeat (first | apply Kd.R_alloc | apply Kd.R_drewN | apply Kd.R_drew)); exact Kd.R_mono HO_485002.out (fun _ hk => ⟨hk.1, ⟨hk.2.1, ⟨hk.2.2.1, ⟨hk.2.2.2.1, hk.2.2.2.2.1⟩⟩⟩⟩)⟩, ⟨by (with_reducible repeat (first | apply Kd.R_alloc | apply Kd.R_drewN | apply Kd.R_drew)); exact Kd.R_mono HO_485003.out (fun _ hk => ⟨hk.1, ⟨hk.2.1, ⟨hk.2.2.1, ⟨hk.2.2.2.1, hk.2.2.2.2.1⟩⟩⟩⟩)⟩, ⟨by (with_reducible repeat (first | apply Kd.R_alloc | apply Kd.R_drewN | apply Kd.R_drew)); exact Kd.R_mono HO_494002.out (fun _ hk => ⟨hk.1.1.1, ⟨hk.1.1.2.1, ⟨hk.1.1.2.2.1, ⟨hk.1.1.2.2.2.1, hk.1.1.2.2.2.2⟩⟩⟩⟩)⟩, ⟨by (with_reducible repeat (first | apply Kd.R_alloc | apply Kd.R_drewN | apply Kd.R_drew)); exact Kd.R_mono HO_494003.out (fun _ hk => ⟨hk.1.1.1, ⟨hk.1.1.2.1, ⟨hk.1.1.2.2.1, ⟨hk.1.1.2.2.2.1, hk.1.1.2.2.2.2⟩⟩⟩⟩)⟩, ⟨by (with_reducible repeat (first | apply Kd.R_alloc | apply Kd.R_drewN | apply Kd.R_drew)); exact Kd.R_mono HO_504002.out (fun _ hk => ⟨hk.1, ⟨hk.2.1, ⟨hk.2.2.1, ⟨hk.2.2.2.1, hk.2.2.2.2.1⟩⟩⟩⟩)⟩, ⟨by (with_reducible repeat (first | apply Kd.R_alloc | apply Kd.R_drewN | apply Kd.R_drew)); exact Kd.R_mono HO_504003.out (fun _ hk => ⟨hk.1, ⟨hk.2.1, ⟨hk.2.2.1, ⟨hk.2.2.2.1, hk.2.2.2.2.1⟩⟩⟩⟩)⟩, KW BK465, KW BK484, KW BK493, KW BK503, ⟨TB⟩⟩
        ·replace c77 := Bool.eq_false_iff.mpr c77
         subst c77
         replace H := iff' H
         have H' := Aside0.mk H
         clear H
         have hnb86 := NB503_465.out
         have hnc86 := NB465_503.out
         have hnb87 := NB503_484.out
         have hnc87 := NB484_503.out
         have hnb88 := NB503_493.out
         have hnc88 := NB493_503.out
         have hcz89 := cz4 BK503
         have hnb90 := NB484_465.out
         have hnc90 := NB465_484.out
         have hnb91 := NB484_493.out
         have hnc91 := NB493_484.out
         have hcz92 := cz4 BK484
         go_wp2_with (first | (go_at_call 19; (with_reducible refine (laws_eqDiff.calls kj10 t494 t495 _ _ t496 _ _ t499 t475 t476 _ _ t477 _ _ t480 false _ ?side1 ?side2 ?side3 ?side4 ?side5 ?side6 ?side7 ?side8 A76.out).mono ?_); (case side1 => exact CW ((Kd.R_reads' HO_504002.out).2.2)); (case side2 => exact (Kd.R_reads' HO_504002.out).2.1); (case side3 => exact CW ((Kd.R_reads' HO_504003.out).2.2)); (case side4 => exact (Kd.R_reads' HO_504003.out).2.1); (case side5 => exact CW ((Kd.R_reads' HO_485002.out).2.2)); (case side6 => exact (Kd.R_reads' HO_485002.out).2.1); (case side7 => exact CW ((Kd.R_reads' HO_485003.out).2.2)); (case side8 => exact (Kd.R_reads' HO_485003.out).2.1); rintro e w93 ⟨rfl, hb⟩; replace HO_485002 := RB HO_485002 hb; replace HO_485003 := RB HO_485003 hb; replace HO_494002 := RB HO_494002 hb; replace HO_494003 := RB HO_494003 hb; replace HO_504002 := RB HO_504002 hb; replace HO_504003 := RB HO_504003 hb; replace HO509 := RB HO509 hb; replace HO512 := RB HO512 hb; replace BK465 := KB BK465 hb; replace BK484 := KB BK484 hb; replace BK493 := KB BK493 hb; replace BK503 := KB BK503 hb; replace HB := BS hb; (try clear hb); (try clear hb2); (try clear hk); (try clear hi)))
         go_meet
         case rel => exact ⟨_, (true), TF, H', ⟨by have := HJ10.out; first | omega | exact Nat.le_refl _⟩, ⟨by (with_reducible repeat (first | apply Kd.R_alloc | apply Kd.R_drewN | apply Kd.R_drew)); exact Kd.R_mono HO_485002.out (fun _ hk => ⟨hk.1, ⟨hk.2.1, ⟨hk.2.2.1, ⟨hk.2.2.2.1, hk.2.2.2.2.1⟩⟩⟩⟩)⟩, ⟨by (with_reducible repeat (first | apply Kd.R_alloc | apply Kd.R_drewN | apply Kd.R_drew)); exact Kd.R_mono HO_485003.out (fun _ hk => ⟨hk.1, ⟨hk.2.1, ⟨hk.2.2.1, ⟨hk.2.2.2.1, hk.2.2.2.2.1⟩⟩⟩⟩)⟩, ⟨by (with_reducible repeat (first | apply Kd.R_alloc | apply Kd.R_drewN | apply Kd.R_drew)); exact Kd.R_mono HO_494002.out (fun _ hk => ⟨hk.1.1.1, ⟨hk.1.1.2.1, ⟨hk.1.1.2.2.1, ⟨hk.1.1.2.2.2.1, hk.1.1.2.2.2.2⟩⟩⟩⟩)⟩, ⟨by (with_reducible repeat (first | apply Kd.R_alloc | apply Kd.R_drewN | apply Kd.R_drew)); exact Kd.R_mono HO_494003.out (fun _ hk => ⟨hk.1.1.1, ⟨hk.1.1.2.1, ⟨hk.1.1.2.2.1, ⟨hk.1.1.2.2.2.1, hk.1.1.2.2.2.2⟩⟩⟩⟩)⟩, ⟨by (with_reducible repeat (first | apply Kd.R_alloc | apply Kd.R_drewN | apply Kd.R_drew)); exact Kd.R_mono HO_504002.out (fun _ hk => ⟨hk.1, ⟨hk.2.1, ⟨hk.2.2.1, ⟨hk.2.2.2.1, hk.2.2.2.2.1⟩⟩⟩⟩)⟩, ⟨by (with_reducible repeat (first | apply Kd.R_alloc | apply Kd.R_drewN | apply Kd.R_drew)); exact Kd.R_mono HO_504003.out (fun _ hk => ⟨hk.1, ⟨hk.2.1, ⟨hk.2.2.1, ⟨hk.2.2.2.1, hk.2.2.2.2.1⟩⟩⟩⟩)⟩, KW BK465, KW BK484, KW BK493, KW BK503, ⟨TB⟩⟩
      case rest =>
       clear HC64
       try clear c1
       try clear c2
       try clear p2
       try clear c3
       try clear c3b0
       try clear c4
       try clear c5
       try clear c6
       try clear c7
       try clear c8
       try clear c9
       try clear c15
       try clear c17
       try clear c19
       try clear c20
       try clear c21
       try clear c22
       try clear c28
       try clear c29
       try clear c35
       try clear c36
       try clear c37
       try clear c42
       try clear c43
       try clear c44
       try clear c45
       try clear c47
       try clear c48
       try clear c51
       try clear c52
       try clear c53
       try clear c55
       try clear c56
       try clear c59
       try clear c62
       try clear c70
       try clear c71
       try clear c72
       try clear c75
       try clear c75b0
       try clear c77
       try clear c78
       try clear c79
       try clear c80
       try clear c82
       try clear c83
       try clear c86
       try clear c87
       try clear c88
       try clear c90
       try clear c91
       try clear hcz13
       try clear hcz15
       try clear hcz22
       try clear hcz25
       try clear hcz30
       try clear hcz38
       try clear hcz46
       try clear hcz49
       try clear hcz54
       try clear hcz57
       try clear hcz5
       try clear hcz73
       try clear hcz81
       try clear hcz84
       try clear hcz89
       try clear hcz92
       try clear hfz13_0
       try clear hfz13_1
       try clear hfz13_2
       try clear hfz13_3
       try clear hfz15_0
       try clear hfz15_1
       try clear hfz15_2
       try clear hfz15_3
       try clear hfz22_0
       try clear hfz22_1
       try clear hfz22_2
       try clear hfz22_3
       try clear hfz25_0
       try clear hfz25_1
       try clear hfz25_2
       try clear hfz25_3
       try clear hfz30_0
       try clear hfz30_1
       try clear hfz30_2
       try clear hfz30_3
       try clear hfz38_0
       try clear hfz38_1
       try clear hfz38_2
       try clear hfz38_3
       try clear hfz46_0
       try clear hfz46_1
       try clear hfz46_2
       try clear hfz46_3
       try clear hfz49_0
       try clear hfz49_1
       try clear hfz49_2
       try clear hfz49_3
       try clear hfz54_0
       try clear hfz54_1
       try clear hfz54_2
       try clear hfz54_3
       try clear hfz57_0
       try clear hfz57_1
       try clear hfz57_2
       try clear hfz57_3
       try clear hfz5_0
       try clear hfz5_1
       try clear hfz5_2
       try clear hfz5_3
       try clear hfz73_0
       try clear hfz73_1
       try clear hfz73_2
       try clear hfz73_3
       try clear hfz81_0
       try clear hfz81_1
       try clear hfz81_2
       try clear hfz81_3
       try clear hfz84_0
       try clear hfz84_1
       try clear hfz84_2
       try clear hfz84_3
       try clear hfz89_0
       try clear hfz89_1
       try clear hfz89_2
       try clear hfz89_3
       try clear hfz92_0
       try clear hfz92_1
       try clear hfz92_2
       try clear hfz92_3
       try clear p2
       obtain ⟨kq, x61_63, rfl, HA, HJ63, HO_485002, HO_485003, HO_494002, HO_494003, HO_504002, HO_504003, BK465, BK484, BK493, BK503, HB⟩ := hcut
       have hl494002_63 := (Kd.R_reads' HO_494002.out).1
       rw [hl494002_63] at HO_494002
       (try simp only [hl494002_63])
       (try simp only [hl494002_63] at BK465)
       (try simp only [hl494002_63] at BK484)
       (try simp only [hl494002_63] at BK493)
       (try simp only [hl494002_63] at BK503)
       (try simp only [hl494002_63] at HO_485002)
       (try simp only [hl494002_63] at HO_485003)
       (try simp only [hl494002_63] at HO_494003)
       (try simp only [hl494002_63] at HO_504002)
       (try simp only [hl494002_63] at HO_504003)
       have hl494003_63 := (Kd.R_reads' HO_494003.out).1
       rw [hl494003_63] at HO_494003
       (try simp only [hl494003_63])
       (try simp only [hl494003_63] at BK465)
       (try simp only [hl494003_63] at BK484)
       (try simp only [hl494003_63] at BK493)
       (try simp only [hl494003_63] at BK503)
       (try simp only [hl494003_63] at HO_485002)
       (try simp only [hl494003_63] at HO_485003)
       (try simp only [hl494003_63] at HO_494002)
       (try simp only [hl494003_63] at HO_504002)
       (try simp only [hl494003_63] at HO_504003)
       cases kq with
       | zero => exact absurd HA.out (by simp [laws_FnExactBackDiff.j1])
       | succ kj63 =>
        have H := HA.out
        clear HA
        simp only [laws_FnExactBackDiff.j1] at H
        by_cases c94 : x61_63 = true
        ·subst c94
         replace H := ift H
         obtain rfl := Option.some.inj H
         go_wp2
         go_ret
         exact ⟨TE, TB⟩
        ·replace c94 := Bool.eq_false_iff.mpr c94
         subst c94
         replace H := iff' H
         obtain ⟨⟨t518, t519, t520⟩, A95, H⟩ := bnd H
         try dsimp only at H
         obtain ⟨t521, A96, H⟩ := bnd H
         by_cases c97 : t521 < 0
         ·rw [if_pos c97] at H
          have c97b0 : decide (t521 < 0) = true := decide_eq_true c97
          clear c97
          obtain rfl := Option.some.inj H
          have hnb98 := NB503_465.out
          have hnc98 := NB465_503.out
          have hnb99 := NB503_484.out
          have hnc99 := NB484_503.out
          have hnb100 := NB503_493.out
          have hnc100 := NB493_503.out
          have hcz101 := cz4 BK503
          go_wp2_with (first | ((with_reducible refine gate_callee (f := 22) rfl ?_); refine goesL_ (some 64) rfl rfl Tryz.func22 KR rfl #[.agg #[.int .i64 t494, .int .i64 t495, .slice Ao39 t496.length co39, .slice Ao40 t499.length co40], .int .i64 1] rfl TA ?_; (with_reducible refine (laws_markDiff.calls kj63 t494 t495 (fun k_ => some k_ = (.slice Ao39 t496.length co39 : Value).ownBlock) (.slice Ao39 t496.length co39) t496 (fun k_ => some k_ = (.slice Ao40 t499.length co40 : Value).ownBlock) (.slice Ao40 t499.length co40) t499 1 t518 t519 t520 w _ ?side1 ?side2 ?side3 ?side4 ?side5 A95.out).mono ?_); (case side1 => repeat (first | (with_reducible first | exact HB.out | apply below_alloc | apply pw_below_drewN | apply below_drew1 | refine below_set ?_ GE465.out | refine below_set ?_ GE484.out | refine below_set ?_ GE493.out | refine below_set ?_ GE503.out) | exact HB.out)); (case side2 => exact Kd.R_tight rfl HO_504002.out); (case side3 => exact fun k_ e_ => (HO_504002.out.1 k_ e_.symm).2.2.2.2); (case side4 => exact Kd.R_tight rfl HO_504003.out); (case side5 => exact fun k_ e_ => (HO_504003.out.1 k_ e_.symm).2.2.2.2); rintro e w102 ⟨rfl, hy0, hy1, hb, hkp⟩; refine ⟨_, rfl, ?_⟩; replace HO_485002 := Aside0.mk (Kd.R_mono (ok' := fun k_ => some k_ ≠ (.slice Ao24 t480.length co24 : Value).ownBlock ∧ some k_ ≠ (.slice Ao31 t515.length co31 : Value).ownBlock ∧ some k_ ≠ (.slice Ao32 t516.length co32 : Value).ownBlock ∧ some k_ ≠ (.slice Ao39 t496.length co39 : Value).ownBlock ∧ some k_ ≠ (.slice Ao40 t499.length co40 : Value).ownBlock) (Kd.R_keptB (HO_485002.out) hkp (fun k_ hk_ hs_ => Or.elim hs_ (fun e_ => (hk_.2.2.2.1) e_) (fun e_ => (hk_.2.2.2.2) e_))) (fun k_ hk_ => ⟨hk_.1.1, hk_.1.2.1, hk_.1.2.2.1, hk_.1.2.2.2.1, hk_.1.2.2.2.2⟩)); replace HO_485003 := Aside0.mk (Kd.R_mono (ok' := fun k_ => some k_ ≠ (.slice Ao23 t477.length co23 : Value).ownBlock ∧ some k_ ≠ (.slice Ao31 t515.length co31 : Value).ownBlock ∧ some k_ ≠ (.slice Ao32 t516.length co32 : Value).ownBlock ∧ some k_ ≠ (.slice Ao39 t496.length co39 : Value).ownBlock ∧ some k_ ≠ (.slice Ao40 t499.length co40 : Value).ownBlock) (Kd.R_keptB (HO_485003.out) hkp (fun k_ hk_ hs_ => Or.elim hs_ (fun e_ => (hk_.2.2.2.1) e_) (fun e_ => (hk_.2.2.2.2) e_))) (fun k_ hk_ => ⟨hk_.1.1, hk_.1.2.1, hk_.1.2.2.1, hk_.1.2.2.2.1, hk_.1.2.2.2.2⟩)); replace HO_494002 := Aside0.mk (Kd.R_mono (ok' := fun k_ => some k_ ≠ (.slice Ao23 t477.length co23 : Value).ownBlock ∧ some k_ ≠ (.slice Ao24 t480.length co24 : Value).ownBlock ∧ some k_ ≠ (.slice Ao32 t516.length co32 : Value).ownBlock ∧ some k_ ≠ (.slice Ao39 t496.length co39 : Value).ownBlock ∧ some k_ ≠ (.slice Ao40 t499.length co40 : Value).ownBlock) (Kd.R_keptB (HO_494002.out) hkp (fun k_ hk_ hs_ => Or.elim hs_ (fun e_ => (hk_.2.2.2.1) e_) (fun e_ => (hk_.2.2.2.2) e_))) (fun k_ hk_ => ⟨hk_.1.1, hk_.1.2.1, hk_.1.2.2.1, hk_.1.2.2.2.1, hk_.1.2.2.2.2⟩)); replace HO_494003 := Aside0.mk (Kd.R_mono (ok' := fun k_ => some k_ ≠ (.slice Ao23 t477.length co23 : Value).ownBlock ∧ some k_ ≠ (.slice Ao24 t480.length co24 : Value).ownBlock ∧ some k_ ≠ (.slice Ao31 t515.length co31 : Value).ownBlock ∧ some k_ ≠ (.slice Ao39 t496.length co39 : Value).ownBlock ∧ some k_ ≠ (.slice Ao40 t499.length co40 : Value).ownBlock) (Kd.R_keptB (HO_494003.out) hkp (fun k_ hk_ hs_ => Or.elim hs_ (fun e_ => (hk_.2.2.2.1) e_) (fun e_ => (hk_.2.2.2.2) e_))) (fun k_ hk_ => ⟨hk_.1.1, hk_.1.2.1, hk_.1.2.2.1, hk_.1.2.2.2.1, hk_.1.2.2.2.2⟩)); replace BK465 := Aside0.mk (blk_kept (KW BK465).out hkp (fun hs_ => Or.elim hs_ (fun e_ => (fun e_ => (Kd.R_ne HO_504002.out BK465.out (by decide)) e_) e_) (fun e_ => (fun e_ => (Kd.R_ne HO_504003.out BK465.out (by decide)) e_) e_))); replace BK484 := Aside0.mk (blk_kept (KW BK484).out hkp (fun hs_ => Or.elim hs_ (fun e_ => (fun e_ => (Kd.R_ne HO_504002.out BK484.out (by decide)) e_) e_) (fun e_ => (fun e_ => (Kd.R_ne HO_504003.out BK484.out (by decide)) e_) e_))); replace BK493 := Aside0.mk (blk_kept (KW BK493).out hkp (fun hs_ => Or.elim hs_ (fun e_ => (fun e_ => (Kd.R_ne HO_504002.out BK493.out (by decide)) e_) e_) (fun e_ => (fun e_ => (Kd.R_ne HO_504003.out BK493.out (by decide)) e_) e_))); replace BK503 := Aside0.mk (blk_kept (KW BK503).out hkp (fun hs_ => Or.elim hs_ (fun e_ => (fun e_ => (Kd.R_ne HO_504002.out BK503.out (by decide)) e_) e_) (fun e_ => (fun e_ => (Kd.R_ne HO_504003.out BK503.out (by decide)) e_) e_))); replace HO_504002 := Aside0.mk (Kd.R_reok rfl hy0 (fun k_ e_ => HO_504002.out.1 k_ e_)); replace HO_504003 := Aside0.mk (Kd.R_reok rfl hy1 (fun k_ e_ => HO_504003.out.1 k_ e_)); replace HB := Aside0.mk (hb); (try clear hb); (try clear hkp); (try clear hy0); (try clear hy1); have hcz103 := cz4 BK503) | ((with_reducible refine gate_callee (f := 23) rfl ?_); refine goesL_ (some 67) rfl rfl Tryz.func23 KR rfl #[.agg #[.int .i64 t494, .int .i64 t495, .slice Ao39 t519.length co39, .slice Ao40 t520.length co40], .int .i64 1] rfl (by (try simp only [List.map_toArray, List.map_cons, List.map_nil]); first | done | (rw [show t519.length = t496.length from (Kd.R_reads' HO_504002.out).1.symm, show t520.length = t499.length from (Kd.R_reads' HO_504003.out).1.symm] <;> rfl) | rfl | (simp only [List.length_drop, List.length_take]; rfl)) ?_; (with_reducible refine (laws_heldDiff.calls kj63 t494 t495 _ _ t519 _ _ t520 1 t521 _ ?side1 ?side2 ?side3 ?side4 A96.out).mono ?_); (case side1 => exact CW ((Kd.R_reads' HO_504002.out).2.2)); (case side2 => rw [show t519.length = t496.length from (Kd.R_reads' HO_504002.out).1.symm]; exact (Kd.R_reads' HO_504002.out).2.1); (case side3 => exact CW ((Kd.R_reads' HO_504003.out).2.2)); (case side4 => rw [show t520.length = t499.length from (Kd.R_reads' HO_504003.out).1.symm]; exact (Kd.R_reads' HO_504003.out).2.1); rintro e w104 ⟨rfl, hb⟩; refine ⟨_, rfl, ?_⟩; replace HO_485002 := RB HO_485002 hb; replace HO_485003 := RB HO_485003 hb; replace HO_494002 := RB HO_494002 hb; replace HO_494003 := RB HO_494003 hb; replace HO_504002 := RB HO_504002 hb; replace HO_504003 := RB HO_504003 hb; replace BK465 := KB BK465 hb; replace BK484 := KB BK484 hb; replace BK493 := KB BK493 hb; replace BK503 := KB BK503 hb; replace HB := BS hb; (try clear hb); (try clear hb2); (try clear hk); (try clear hi)))
          go_ret
          exact ⟨TE, TB⟩
         ·rw [if_neg c97] at H
          have c97b0 : decide (t521 < 0) = false := decide_eq_false c97
          clear c97
          by_cases c105 : t521 = t518
          ·rw [if_pos c105] at H
           have c105b0 : (t521 == t518) = true := beq_iff_eq.mpr c105
           have c105b1 : (t521 != t518) = false := bne_eq_false_iff_eq.mpr c105
           clear c105
           obtain ⟨⟨t522, t523, t524, t527⟩, A106, H⟩ := bnd H
           try dsimp only at H
           obtain ⟨⟨t530, t531, t532, t535, t538⟩, A107, H⟩ := bnd H
           try dsimp only at H
           have HC108 := Aside0.mk H
           clear H
           have hnb109 := NB503_465.out
           have hnc109 := NB465_503.out
           have hnb110 := NB503_484.out
           have hnc110 := NB484_503.out
           have hnb111 := NB503_493.out
           have hnc111 := NB493_503.out
           have hcz112 := cz4 BK503
           go_upto_region 25 with (first | ((with_reducible refine gate_callee (f := 22) rfl ?_); refine goesL_ (some 64) rfl rfl Tryz.func22 KR rfl #[.agg #[.int .i64 t494, .int .i64 t495, .slice Ao39 t496.length co39, .slice Ao40 t499.length co40], .int .i64 1] rfl TA ?_; (with_reducible refine (laws_markDiff.calls kj63 t494 t495 (fun k_ => some k_ = (.slice Ao39 t496.length co39 : Value).ownBlock) (.slice Ao39 t496.length co39) t496 (fun k_ => some k_ = (.slice Ao40 t499.length co40 : Value).ownBlock) (.slice Ao40 t499.length co40) t499 1 t518 t519 t520 w _ ?side1 ?side2 ?side3 ?side4 ?side5 A95.out).mono ?_); (case side1 => repeat (first | (with_reducible first | exact HB.out | apply below_alloc | apply pw_below_drewN | apply below_drew1 | refine below_set ?_ GE465.out | refine below_set ?_ GE484.out | refine below_set ?_ GE493.out | refine below_set ?_ GE503.out) | exact HB.out)); (case side2 => exact Kd.R_tight rfl HO_504002.out); (case side3 => exact fun k_ e_ => (HO_504002.out.1 k_ e_.symm).2.2.2.2); (case side4 => exact Kd.R_tight rfl HO_504003.out); (case side5 => exact fun k_ e_ => (HO_504003.out.1 k_ e_.symm).2.2.2.2); rintro e w113 ⟨rfl, hy0, hy1, hb, hkp⟩; refine ⟨_, rfl, ?_⟩; replace HO_485002 := Aside0.mk (Kd.R_mono (ok' := fun k_ => some k_ ≠ (.slice Ao24 t480.length co24 : Value).ownBlock ∧ some k_ ≠ (.slice Ao31 t515.length co31 : Value).ownBlock ∧ some k_ ≠ (.slice Ao32 t516.length co32 : Value).ownBlock ∧ some k_ ≠ (.slice Ao39 t496.length co39 : Value).ownBlock ∧ some k_ ≠ (.slice Ao40 t499.length co40 : Value).ownBlock) (Kd.R_keptB (HO_485002.out) hkp (fun k_ hk_ hs_ => Or.elim hs_ (fun e_ => (hk_.2.2.2.1) e_) (fun e_ => (hk_.2.2.2.2) e_))) (fun k_ hk_ => ⟨hk_.1.1, hk_.1.2.1, hk_.1.2.2.1, hk_.1.2.2.2.1, hk_.1.2.2.2.2⟩)); replace HO_485003 := Aside0.mk (Kd.R_mono (ok' := fun k_ => some k_ ≠ (.slice Ao23 t477.length co23 : Value).ownBlock ∧ some k_ ≠ (.slice Ao31 t515.length co31 : Value).ownBlock ∧ some k_ ≠ (.slice Ao32 t516.length co32 : Value).ownBlock ∧ some k_ ≠ (.slice Ao39 t496.length co39 : Value).ownBlock ∧ some k_ ≠ (.slice Ao40 t499.length co40 : Value).ownBlock) (Kd.R_keptB (HO_485003.out) hkp (fun k_ hk_ hs_ => Or.elim hs_ (fun e_ => (hk_.2.2.2.1) e_) (fun e_ => (hk_.2.2.2.2) e_))) (fun k_ hk_ => ⟨hk_.1.1, hk_.1.2.1, hk_.1.2.2.1, hk_.1.2.2.2.1, hk_.1.2.2.2.2⟩)); replace HO_494002 := Aside0.mk (Kd.R_mono (ok' := fun k_ => some k_ ≠ (.slice Ao23 t477.length co23 : Value).ownBlock ∧ some k_ ≠ (.slice Ao24 t480.length co24 : Value).ownBlock ∧ some k_ ≠ (.slice Ao32 t516.length co32 : Value).ownBlock ∧ some k_ ≠ (.slice Ao39 t496.length co39 : Value).ownBlock ∧ some k_ ≠ (.slice Ao40 t499.length co40 : Value).ownBlock) (Kd.R_keptB (HO_494002.out) hkp (fun k_ hk_ hs_ => Or.elim hs_ (fun e_ => (hk_.2.2.2.1) e_) (fun e_ => (hk_.2.2.2.2) e_))) (fun k_ hk_ => ⟨hk_.1.1, hk_.1.2.1, hk_.1.2.2.1, hk_.1.2.2.2.1, hk_.1.2.2.2.2⟩)); replace HO_494003 := Aside0.mk (Kd.R_mono (ok' := fun k_ => some k_ ≠ (.slice Ao23 t477.length co23 : Value).ownBlock ∧ some k_ ≠ (.slice Ao24 t480.length co24 : Value).ownBlock ∧ some k_ ≠ (.slice Ao31 t515.length co31 : Value).ownBlock ∧ some k_ ≠ (.slice Ao39 t496.length co39 : Value).ownBlock ∧ some k_ ≠ (.slice Ao40 t499.length co40 : Value).ownBlock) (Kd.R_keptB (HO_494003.out) hkp (fun k_ hk_ hs_ => Or.elim hs_ (fun e_ => (hk_.2.2.2.1) e_) (fun e_ => (hk_.2.2.2.2) e_))) (fun k_ hk_ => ⟨hk_.1.1, hk_.1.2.1, hk_.1.2.2.1, hk_.1.2.2.2.1, hk_.1.2.2.2.2⟩)); replace BK465 := Aside0.mk (blk_kept (KW BK465).out hkp (fun hs_ => Or.elim hs_ (fun e_ => (fun e_ => (Kd.R_ne HO_504002.out BK465.out (by decide)) e_) e_) (fun e_ => (fun e_ => (Kd.R_ne HO_504003.out BK465.out (by decide)) e_) e_))); replace BK484 := Aside0.mk (blk_kept (KW BK484).out hkp (fun hs_ => Or.elim hs_ (fun e_ => (fun e_ => (Kd.R_ne HO_504002.out BK484.out (by decide)) e_) e_) (fun e_ => (fun e_ => (Kd.R_ne HO_504003.out BK484.out (by decide)) e_) e_))); replace BK493 := Aside0.mk (blk_kept (KW BK493).out hkp (fun hs_ => Or.elim hs_ (fun e_ => (fun e_ => (Kd.R_ne HO_504002.out BK493.out (by decide)) e_) e_) (fun e_ => (fun e_ => (Kd.R_ne HO_504003.out BK493.out (by decide)) e_) e_))); replace BK503 := Aside0.mk (blk_kept (KW BK503).out hkp (fun hs_ => Or.elim hs_ (fun e_ => (fun e_ => (Kd.R_ne HO_504002.out BK503.out (by decide)) e_) e_) (fun e_ => (fun e_ => (Kd.R_ne HO_504003.out BK503.out (by decide)) e_) e_))); replace HO_504002 := Aside0.mk (Kd.R_reok rfl hy0 (fun k_ e_ => HO_504002.out.1 k_ e_)); replace HO_504003 := Aside0.mk (Kd.R_reok rfl hy1 (fun k_ e_ => HO_504003.out.1 k_ e_)); replace HB := Aside0.mk (hb); (try clear hb); (try clear hkp); (try clear hy0); (try clear hy1); have hcz114 := cz4 BK503) | ((with_reducible refine gate_callee (f := 23) rfl ?_); refine goesL_ (some 67) rfl rfl Tryz.func23 KR rfl #[.agg #[.int .i64 t494, .int .i64 t495, .slice Ao39 t519.length co39, .slice Ao40 t520.length co40], .int .i64 1] rfl (by (try simp only [List.map_toArray, List.map_cons, List.map_nil]); first | done | (rw [show t519.length = t496.length from (Kd.R_reads' HO_504002.out).1.symm, show t520.length = t499.length from (Kd.R_reads' HO_504003.out).1.symm] <;> rfl) | rfl | (simp only [List.length_drop, List.length_take]; rfl)) ?_; (with_reducible refine (laws_heldDiff.calls kj63 t494 t495 _ _ t519 _ _ t520 1 t521 _ ?side1 ?side2 ?side3 ?side4 A96.out).mono ?_); (case side1 => exact CW ((Kd.R_reads' HO_504002.out).2.2)); (case side2 => rw [show t519.length = t496.length from (Kd.R_reads' HO_504002.out).1.symm]; exact (Kd.R_reads' HO_504002.out).2.1); (case side3 => exact CW ((Kd.R_reads' HO_504003.out).2.2)); (case side4 => rw [show t520.length = t499.length from (Kd.R_reads' HO_504003.out).1.symm]; exact (Kd.R_reads' HO_504003.out).2.1); rintro e w115 ⟨rfl, hb⟩; refine ⟨_, rfl, ?_⟩; replace HO_485002 := RB HO_485002 hb; replace HO_485003 := RB HO_485003 hb; replace HO_494002 := RB HO_494002 hb; replace HO_494003 := RB HO_494003 hb; replace HO_504002 := RB HO_504002 hb; replace HO_504003 := RB HO_504003 hb; replace BK465 := KB BK465 hb; replace BK484 := KB BK484 hb; replace BK493 := KB BK493 hb; replace BK503 := KB BK503 hb; replace HB := BS hb; (try clear hb); (try clear hb2); (try clear hk); (try clear hi); have hnb116 := NB465_484.out; have hnc116 := NB484_465.out; have hnb117 := NB465_493.out; have hnc117 := NB493_465.out; have hcz118 := cz4 BK465) | ((with_reducible refine gate_callee (f := 17) rfl ?_); refine goesL_ (some 75) rfl rfl Tryz.func17 KR rfl #[.agg #[.int .i64 a0_0, .int .i64 a0_1, .slice A0_2 l0_2.length c0_2, .slice A0_3 l0_3.length c0_3]] rfl TA ?_; (with_reducible refine (laws_toDiff.calls kj63 a0_0 a0_1 _ _ l0_2 _ _ l0_3 t522 t523 t524 t527 _ ?side1 ?side2 ?side3 ?side4 A106.out).mono ?_); (case side1 => exact CW ((Kd.C_below HR0_2.out HB.out))); (case side2 => exact HC0_2.out); (case side3 => exact CW ((Kd.C_below HR0_3.out HB.out))); (case side4 => exact HC0_3.out); rintro e w119 ⟨v525, v528, rfl, ho0, ho1, hb⟩; refine ⟨_, rfl, ?_⟩; have HO526 := Aside0.mk (Kd.R_lower (Kd.R_new' (Kd.R_new' (Kd.R_new' (Kd.R_new' (Kd.R_new' (Kd.R_new' ho0 (Kd.R_lt (RW HO_485002).out)) (Kd.R_lt (RW HO_485003).out)) (Kd.R_lt (RW HO_494002).out)) (Kd.R_lt (RW HO_494003).out)) (Kd.R_lt (RW HO_504002).out)) (Kd.R_lt (RW HO_504003).out)) (below_size TB)); have HO529 := Aside0.mk (Kd.R_lower (Kd.R_new' (Kd.R_new' (Kd.R_new' (Kd.R_new' (Kd.R_new' (Kd.R_new' ho1 (Kd.R_lt (RW HO_485002).out)) (Kd.R_lt (RW HO_485003).out)) (Kd.R_lt (RW HO_494002).out)) (Kd.R_lt (RW HO_494003).out)) (Kd.R_lt (RW HO_504002).out)) (Kd.R_lt (RW HO_504003).out)) (below_size TB)); replace HO_485002 := Aside0.mk (Kd.R_mono (Kd.R_told (Kd.R_told (Kd.R_old (RW HO_485002).out hb) (Kd.R_base ho0)) (Kd.R_base ho1)) (fun _ h_ => h_.1)); replace HO_485003 := Aside0.mk (Kd.R_mono (Kd.R_told (Kd.R_told (Kd.R_old (RW HO_485003).out hb) (Kd.R_base ho0)) (Kd.R_base ho1)) (fun _ h_ => h_.1)); replace HO_494002 := Aside0.mk (Kd.R_mono (Kd.R_told (Kd.R_told (Kd.R_old (RW HO_494002).out hb) (Kd.R_base ho0)) (Kd.R_base ho1)) (fun _ h_ => h_.1)); replace HO_494003 := Aside0.mk (Kd.R_mono (Kd.R_told (Kd.R_told (Kd.R_old (RW HO_494003).out hb) (Kd.R_base ho0)) (Kd.R_base ho1)) (fun _ h_ => h_.1)); replace HO_504002 := Aside0.mk (Kd.R_mono (Kd.R_told (Kd.R_told (Kd.R_old (RW HO_504002).out hb) (Kd.R_base ho0)) (Kd.R_base ho1)) (fun _ h_ => h_.1)); replace HO_504003 := Aside0.mk (Kd.R_mono (Kd.R_told (Kd.R_told (Kd.R_old (RW HO_504003).out hb) (Kd.R_base ho0)) (Kd.R_base ho1)) (fun _ h_ => h_.1)); replace BK465 := KB BK465 hb; replace BK484 := KB BK484 hb; replace BK493 := KB BK493 hb; replace BK503 := KB BK503 hb; replace HB := BS hb; (try clear hb); (try clear hb2); (try clear hk); (try clear hi); (try clear ho0); (try clear ho1); obtain ⟨Ao120, co120, eo120⟩ := Kd.R_slice HO526.out; subst eo120; obtain ⟨Ao121, co121, eo121⟩ := Kd.R_slice HO529.out; subst eo121) | ((with_reducible refine gate_callee (f := 21) rfl ?_); refine goesL_ (some 76) rfl rfl Tryz.func21 KR rfl #[.agg #[.int .i64 t522, .int .i64 t523, .slice Ao120 t524.length co120, .slice Ao121 t527.length co121]] rfl TA ?_; (with_reducible refine (impl_BackDiff.calls kj63 t522 t523 _ _ t524 _ _ t527 t530 t531 t532 t535 t538 _ ?side1 ?side2 ?side3 ?side4 ?side5 A107.out).mono ?_); (case side1 => exact CW ((Kd.R_reads' HO526.out).2.2)); (case side2 => exact (Kd.R_reads' HO526.out).2.1); (case side3 => exact CW ((Kd.R_reads' HO529.out).2.2)); (case side4 => exact (Kd.R_reads' HO529.out).2.1); (case side5 => exact GW HGL); rintro e w122 ⟨v533, v536, rfl, ho0, ho1, hb⟩; refine ⟨_, rfl, ?_⟩; have HO534 := Aside0.mk (Kd.R_lower (Kd.R_new' (Kd.R_new' (Kd.R_new' (Kd.R_new' (Kd.R_new' (Kd.R_new' (Kd.R_new' (Kd.R_new' ho0 (Kd.R_lt (RW HO_485002).out)) (Kd.R_lt (RW HO_485003).out)) (Kd.R_lt (RW HO_494002).out)) (Kd.R_lt (RW HO_494003).out)) (Kd.R_lt (RW HO_504002).out)) (Kd.R_lt (RW HO_504003).out)) (Kd.R_lt (RW HO526).out)) (Kd.R_lt (RW HO529).out)) (below_size TB)); have HO537 := Aside0.mk (Kd.R_lower (Kd.R_new' (Kd.R_new' (Kd.R_new' (Kd.R_new' (Kd.R_new' (Kd.R_new' (Kd.R_new' (Kd.R_new' ho1 (Kd.R_lt (RW HO_485002).out)) (Kd.R_lt (RW HO_485003).out)) (Kd.R_lt (RW HO_494002).out)) (Kd.R_lt (RW HO_494003).out)) (Kd.R_lt (RW HO_504002).out)) (Kd.R_lt (RW HO_504003).out)) (Kd.R_lt (RW HO526).out)) (Kd.R_lt (RW HO529).out)) (below_size TB)); replace HO_485002 := Aside0.mk (Kd.R_mono (Kd.R_told (Kd.R_told (Kd.R_old (RW HO_485002).out hb) (Kd.R_base ho0)) (Kd.R_base ho1)) (fun _ h_ => h_.1)); replace HO_485003 := Aside0.mk (Kd.R_mono (Kd.R_told (Kd.R_told (Kd.R_old (RW HO_485003).out hb) (Kd.R_base ho0)) (Kd.R_base ho1)) (fun _ h_ => h_.1)); replace HO_494002 := Aside0.mk (Kd.R_mono (Kd.R_told (Kd.R_told (Kd.R_old (RW HO_494002).out hb) (Kd.R_base ho0)) (Kd.R_base ho1)) (fun _ h_ => h_.1)); replace HO_494003 := Aside0.mk (Kd.R_mono (Kd.R_told (Kd.R_told (Kd.R_old (RW HO_494003).out hb) (Kd.R_base ho0)) (Kd.R_base ho1)) (fun _ h_ => h_.1)); replace HO_504002 := Aside0.mk (Kd.R_mono (Kd.R_told (Kd.R_told (Kd.R_old (RW HO_504002).out hb) (Kd.R_base ho0)) (Kd.R_base ho1)) (fun _ h_ => h_.1)); replace HO_504003 := Aside0.mk (Kd.R_mono (Kd.R_told (Kd.R_told (Kd.R_old (RW HO_504003).out hb) (Kd.R_base ho0)) (Kd.R_base ho1)) (fun _ h_ => h_.1)); replace HO526 := Aside0.mk (Kd.R_mono (Kd.R_told (Kd.R_told (Kd.R_old (RW HO526).out hb) (Kd.R_base ho0)) (Kd.R_base ho1)) (fun _ h_ => h_.1)); replace HO529 := Aside0.mk (Kd.R_mono (Kd.R_told (Kd.R_told (Kd.R_old (RW HO529).out hb) (Kd.R_base ho0)) (Kd.R_base ho1)) (fun _ h_ => h_.1)); replace BK465 := KB BK465 hb; replace BK484 := KB BK484 hb; replace BK493 := KB BK493 hb; replace BK503 := KB BK503 hb; replace HB := BS hb; (try clear hb); (try clear hb2); (try clear hk); (try clear hi); (try clear ho0); (try clear ho1)) | ((with_reducible refine gate_dst (N := 12) rfl ?_); refine bE 12 #[.int .i64 0, .int .i64 0, .slice none 0 0, .slice none 0 0] 29 ?_; intro gb539 hg w123 hbox hb; replace HO_485002 := RB HO_485002 hb; replace HO_485003 := RB HO_485003 hb; replace HO_494002 := RB HO_494002 hb; replace HO_494003 := RB HO_494003 hb; replace HO_504002 := RB HO_504002 hb; replace HO_504003 := RB HO_504003 hb; replace HO526 := RB HO526 hb; replace HO529 := RB HO529 hb; replace HO534 := RB HO534 hb; replace HO537 := RB HO537 hb; have BK539 := Aside0.mk (hbox); have GE539 := bG hg; replace HB := BS hb; have NB465_539 := bN BK465 hg; have NB539_465 := bM BK465 hg; replace BK465 := KB BK465 hb; have NB484_539 := bN BK484 hg; have NB539_484 := bM BK484 hg; replace BK484 := KB BK484 hb; have NB493_539 := bN BK493 hg; have NB539_493 := bM BK493 hg; replace BK493 := KB BK493 hb; have NB503_539 := bN BK503 hg; have NB539_503 := bM BK503 hg; replace BK503 := KB BK503 hb; clear hb hbox hg; have hnb124 := NB539_465.out; have hnc124 := NB465_539.out; have hnb125 := NB539_484.out; have hnc125 := NB484_539.out; have hnb126 := NB539_493.out; have hnc126 := NB493_539.out; have hnb127 := NB539_503.out; have hnc127 := NB503_539.out; have hcz128 := cz4 BK539; obtain ⟨Ao129, co129, eo129⟩ := Kd.R_slice HO534.out; subst eo129; obtain ⟨Ao130, co130, eo130⟩ := Kd.R_slice HO537.out; subst eo130))
           (try simp only [Act.put, List.setIfInBounds_toArray, List.set_cons_zero, List.set_cons_succ])
           go_cut [87] (fun v87 wc => ∃ (kq : Nat) (x87_107 : Bool), v87 = .bool x87_107 ∧ Aside0 (laws_FnExactBackDiff.j2 kq t518 x87_107 t494 t495 t519 t520 = some r) ∧ Aside0 (kq ≤ kj63) ∧ Aside0 (Kd.R k_Record 93 wc w.heap.size (fun k_ => some k_ ≠ ((.slice Ao24 t480.length co24) : Value).ownBlock ∧ some k_ ≠ ((.slice Ao31 t515.length co31) : Value).ownBlock ∧ some k_ ≠ ((.slice Ao32 t516.length co32) : Value).ownBlock ∧ some k_ ≠ ((.slice Ao39 t496.length co39) : Value).ownBlock ∧ some k_ ≠ ((.slice Ao40 t499.length co40) : Value).ownBlock ∧ some k_ ≠ ((.slice Ao129 t532.length co129) : Value).ownBlock ∧ some k_ ≠ ((.slice Ao130 t535.length co130) : Value).ownBlock) (.slice Ao23 t477.length co23) t477) ∧ Aside0 (Kd.R k_Record 93 wc w.heap.size (fun k_ => some k_ ≠ ((.slice Ao23 t477.length co23) : Value).ownBlock ∧ some k_ ≠ ((.slice Ao31 t515.length co31) : Value).ownBlock ∧ some k_ ≠ ((.slice Ao32 t516.length co32) : Value).ownBlock ∧ some k_ ≠ ((.slice Ao39 t496.length co39) : Value).ownBlock ∧ some k_ ≠ ((.slice Ao40 t499.length co40) : Value).ownBlock ∧ some k_ ≠ ((.slice Ao129 t532.length co129) : Value).ownBlock ∧ some k_ ≠ ((.slice Ao130 t535.length co130) : Value).ownBlock) (.slice Ao24 t480.length co24) t480) ∧ Aside0 (Kd.R k_Record 93 wc w.heap.size (fun k_ => some k_ ≠ ((.slice Ao23 t477.length co23) : Value).ownBlock ∧ some k_ ≠ ((.slice Ao24 t480.length co24) : Value).ownBlock ∧ some k_ ≠ ((.slice Ao32 t516.length co32) : Value).ownBlock ∧ some k_ ≠ ((.slice Ao39 t496.length co39) : Value).ownBlock ∧ some k_ ≠ ((.slice Ao40 t499.length co40) : Value).ownBlock ∧ some k_ ≠ ((.slice Ao129 t532.length co129) : Value).ownBlock ∧ some k_ ≠ ((.slice Ao130 t535.length co130) : Value).ownBlock) (.slice Ao31 t515.length co31) t515) ∧ Aside0 (Kd.R k_Record 93 wc w.heap.size (fun k_ => some k_ ≠ ((.slice Ao23 t477.length co23) : Value).ownBlock ∧ some k_ ≠ ((.slice Ao24 t480.length co24) : Value).ownBlock ∧ some k_ ≠ ((.slice Ao31 t515.length co31) : Value).ownBlock ∧ some k_ ≠ ((.slice Ao39 t496.length co39) : Value).ownBlock ∧ some k_ ≠ ((.slice Ao40 t499.length co40) : Value).ownBlock ∧ some k_ ≠ ((.slice Ao129 t532.length co129) : Value).ownBlock ∧ some k_ ≠ ((.slice Ao130 t535.length co130) : Value).ownBlock) (.slice Ao32 t516.length co32) t516) ∧ Aside0 (Kd.R k_Record 93 wc w.heap.size (fun k_ => some k_ ≠ ((.slice Ao23 t477.length co23) : Value).ownBlock ∧ some k_ ≠ ((.slice Ao24 t480.length co24) : Value).ownBlock ∧ some k_ ≠ ((.slice Ao31 t515.length co31) : Value).ownBlock ∧ some k_ ≠ ((.slice Ao32 t516.length co32) : Value).ownBlock ∧ some k_ ≠ ((.slice Ao40 t499.length co40) : Value).ownBlock ∧ some k_ ≠ ((.slice Ao129 t532.length co129) : Value).ownBlock ∧ some k_ ≠ ((.slice Ao130 t535.length co130) : Value).ownBlock) (.slice Ao39 t496.length co39) t519) ∧ Aside0 (Kd.R k_Record 93 wc w.heap.size (fun k_ => some k_ ≠ ((.slice Ao23 t477.length co23) : Value).ownBlock ∧ some k_ ≠ ((.slice Ao24 t480.length co24) : Value).ownBlock ∧ some k_ ≠ ((.slice Ao31 t515.length co31) : Value).ownBlock ∧ some k_ ≠ ((.slice Ao32 t516.length co32) : Value).ownBlock ∧ some k_ ≠ ((.slice Ao39 t496.length co39) : Value).ownBlock ∧ some k_ ≠ ((.slice Ao129 t532.length co129) : Value).ownBlock ∧ some k_ ≠ ((.slice Ao130 t535.length co130) : Value).ownBlock) (.slice Ao40 t499.length co40) t520) ∧ Aside0 (Kd.R k_Record 93 wc w.heap.size (fun k_ => some k_ ≠ ((.slice Ao23 t477.length co23) : Value).ownBlock ∧ some k_ ≠ ((.slice Ao24 t480.length co24) : Value).ownBlock ∧ some k_ ≠ ((.slice Ao31 t515.length co31) : Value).ownBlock ∧ some k_ ≠ ((.slice Ao32 t516.length co32) : Value).ownBlock ∧ some k_ ≠ ((.slice Ao39 t496.length co39) : Value).ownBlock ∧ some k_ ≠ ((.slice Ao40 t499.length co40) : Value).ownBlock ∧ some k_ ≠ ((.slice Ao130 t535.length co130) : Value).ownBlock) (.slice Ao129 t532.length co129) t532) ∧ Aside0 (Kd.R k_Record 93 wc w.heap.size (fun k_ => some k_ ≠ ((.slice Ao23 t477.length co23) : Value).ownBlock ∧ some k_ ≠ ((.slice Ao24 t480.length co24) : Value).ownBlock ∧ some k_ ≠ ((.slice Ao31 t515.length co31) : Value).ownBlock ∧ some k_ ≠ ((.slice Ao32 t516.length co32) : Value).ownBlock ∧ some k_ ≠ ((.slice Ao39 t496.length co39) : Value).ownBlock ∧ some k_ ≠ ((.slice Ao40 t499.length co40) : Value).ownBlock ∧ some k_ ≠ ((.slice Ao129 t532.length co129) : Value).ownBlock) (.slice Ao130 t535.length co130) t535) ∧ Aside0 (wc.heap[gb465]? = some (.cells #[.int .i64 a0_0, .int .i64 a0_1, (.slice A0_2 l0_2.length c0_2), (.slice A0_3 l0_3.length c0_3)] 24 (0, 0))) ∧ Aside0 (wc.heap[gb484]? = some (.cells #[.int .i64 t475, .int .i64 t476, (.slice Ao23 t477.length co23), (.slice Ao24 t480.length co24)] 29 (0, 0))) ∧ Aside0 (wc.heap[gb493]? = some (.cells #[.int .i64 t485, .int .i64 t486, (.slice Ao31 t515.length co31), (.slice Ao32 t516.length co32)] 29 (0, 0))) ∧ Aside0 (wc.heap[gb503]? = some (.cells #[.int .i64 t494, .int .i64 t495, (.slice Ao39 t496.length co39), (.slice Ao40 t499.length co40)] 29 (0, 0))) ∧ Aside0 (wc.heap[gb539]? = some (.cells #[.int .i64 t530, .int .i64 t531, (.slice Ao129 t532.length co129), (.slice Ao130 t535.length co130)] 29 (0, 0))) ∧ Aside0 (Below w.heap.size w wc))
           case first =>
            have H := HC108.out
            clear HC108
            obtain ⟨t540, A131, H⟩ := bnd H
            by_cases c132 : t540 = true
            ·subst c132
             replace H := ift H
             have H' := Aside0.mk H
             clear H
             have hnb133 := NB539_465.out
             have hnc133 := NB465_539.out
             have hnb134 := NB539_484.out
             have hnc134 := NB484_539.out
             have hnb135 := NB539_493.out
             have hnc135 := NB493_539.out
             have hnb136 := NB539_503.out
             have hnc136 := NB503_539.out
             have hcz137 := cz4 BK539
             have hnb138 := NB484_465.out
             have hnc138 := NB465_484.out
             have hnb139 := NB484_493.out
             have hnc139 := NB493_484.out
             have hnb140 := NB484_503.out
             have hnc140 := NB503_484.out
             have hcz141 := cz4 BK484
             go_wp2_with (first | ((with_reducible refine gate_callee (f := 19) rfl ?_); refine goesL_ (some 81) rfl rfl Tryz.func19 KR rfl #[.agg #[.int .i64 t530, .int .i64 t531, .slice Ao129 t532.length co129, .slice Ao130 t535.length co130], .agg #[.int .i64 t475, .int .i64 t476, .slice Ao23 t477.length co23, .slice Ao24 t480.length co24]] rfl TA ?_; (with_reducible refine (laws_eqDiff.calls kj63 t530 t531 _ _ t532 _ _ t535 t475 t476 _ _ t477 _ _ t480 true _ ?side1 ?side2 ?side3 ?side4 ?side5 ?side6 ?side7 ?side8 A131.out).mono ?_); (case side1 => refine (Kd.R_reads' (e := 93) (base := w.heap.size) (ok := fun k_ => ((((((((some k_ ≠ (.slice Ao130 t535.length co130 : Value).ownBlock ∧ some k_ ≠ (.slice Ao23 t477.length co23 : Value).ownBlock) ∧ some k_ ≠ (.slice Ao24 t480.length co24 : Value).ownBlock) ∧ some k_ ≠ (.slice Ao31 t515.length co31 : Value).ownBlock) ∧ some k_ ≠ (.slice Ao32 t516.length co32 : Value).ownBlock) ∧ some k_ ≠ (.slice Ao39 t496.length co39 : Value).ownBlock) ∧ some k_ ≠ (.slice Ao40 t499.length co40 : Value).ownBlock) ∧ some k_ ≠ (.slice Ao120 t524.length co120 : Value).ownBlock) ∧ some k_ ≠ (.slice Ao121 t527.length co121 : Value).ownBlock)) (n := t532.length) (c := co129) ?_).2.2; exact (by (with_reducible repeat (first | apply Kd.R_alloc | apply Kd.R_drewN | apply Kd.R_drew)); exact (Kd.R_mono (Kd.R_far (p := ⟨gb539, 3, none⟩) (Kd.R_far (p := ⟨gb539, 2, none⟩) (Kd.R_far (p := ⟨gb539, 1, none⟩) (Kd.R_far (p := ⟨gb539, 0, none⟩) (Kd.R_types HO534.out BK539.out (by decide)) (fun _ hk => hk.2) (.int .i64 t530)) (fun _ hk => hk.2) (.int .i64 t531)) (fun _ hk => hk.2) (.slice Ao129 t532.length co129)) (fun _ hk => hk.2) (.slice Ao130 t535.length co130)) (fun _ h_ => h_.1)))); (case side2 => exact (Kd.R_reads' HO534.out).2.1); (case side3 => refine (Kd.R_reads' (e := 93) (base := w.heap.size) (ok := fun k_ => ((((((((some k_ ≠ (.slice Ao129 t532.length co129 : Value).ownBlock ∧ some k_ ≠ (.slice Ao23 t477.length co23 : Value).ownBlock) ∧ some k_ ≠ (.slice Ao24 t480.length co24 : Value).ownBlock) ∧ some k_ ≠ (.slice Ao31 t515.length co31 : Value).ownBlock) ∧ some k_ ≠ (.slice Ao32 t516.length co32 : Value).ownBlock) ∧ some k_ ≠ (.slice Ao39 t496.length co39 : Value).ownBlock) ∧ some k_ ≠ (.slice Ao40 t499.length co40 : Value).ownBlock) ∧ some k_ ≠ (.slice Ao120 t524.length co120 : Value).ownBlock) ∧ some k_ ≠ (.slice Ao121 t527.length co121 : Value).ownBlock)) (n := t535.length) (c := co130) ?_).2.2; exact (by (with_reducible repeat (first | apply Kd.R_alloc | apply Kd.R_drewN | apply Kd.R_drew)); exact (Kd.R_mono (Kd.R_far (p := ⟨gb539, 3, none⟩) (Kd.R_far (p := ⟨gb539, 2, none⟩) (Kd.R_far (p := ⟨gb539, 1, none⟩) (Kd.R_far (p := ⟨gb539, 0, none⟩) (Kd.R_types HO537.out BK539.out (by decide)) (fun _ hk => hk.2) (.int .i64 t530)) (fun _ hk => hk.2) (.int .i64 t531)) (fun _ hk => hk.2) (.slice Ao129 t532.length co129)) (fun _ hk => hk.2) (.slice Ao130 t535.length co130)) (fun _ h_ => h_.1)))); (case side4 => exact (Kd.R_reads' HO537.out).2.1); (case side5 => refine (Kd.R_reads' (e := 93) (base := w.heap.size) (ok := fun k_ => (((((some k_ ≠ (.slice Ao24 t480.length co24 : Value).ownBlock ∧ (some k_ ≠ (.slice Ao31 t515.length co31 : Value).ownBlock ∧ (some k_ ≠ (.slice Ao32 t516.length co32 : Value).ownBlock ∧ (some k_ ≠ (.slice Ao39 t496.length co39 : Value).ownBlock ∧ some k_ ≠ (.slice Ao40 t499.length co40 : Value).ownBlock)))) ∧ some k_ ≠ (.slice Ao120 t524.length co120 : Value).ownBlock) ∧ some k_ ≠ (.slice Ao121 t527.length co121 : Value).ownBlock) ∧ some k_ ≠ (.slice Ao129 t532.length co129 : Value).ownBlock) ∧ some k_ ≠ (.slice Ao130 t535.length co130 : Value).ownBlock)) (n := t477.length) (c := co23) ?_).2.2; exact (by (with_reducible repeat (first | apply Kd.R_alloc | apply Kd.R_drewN | apply Kd.R_drew)); exact (Kd.R_mono (Kd.R_far (p := ⟨gb539, 3, none⟩) (Kd.R_far (p := ⟨gb539, 2, none⟩) (Kd.R_far (p := ⟨gb539, 1, none⟩) (Kd.R_far (p := ⟨gb539, 0, none⟩) (Kd.R_types HO_485002.out BK539.out (by decide)) (fun _ hk => hk.2) (.int .i64 t530)) (fun _ hk => hk.2) (.int .i64 t531)) (fun _ hk => hk.2) (.slice Ao129 t532.length co129)) (fun _ hk => hk.2) (.slice Ao130 t535.length co130)) (fun _ h_ => h_.1)))); (case side6 => exact (Kd.R_reads' HO_485002.out).2.1); (case side7 => refine (Kd.R_reads' (e := 93) (base := w.heap.size) (ok := fun k_ => (((((some k_ ≠ (.slice Ao23 t477.length co23 : Value).ownBlock ∧ (some k_ ≠ (.slice Ao31 t515.length co31 : Value).ownBlock ∧ (some k_ ≠ (.slice Ao32 t516.length co32 : Value).ownBlock ∧ (some k_ ≠ (.slice Ao39 t496.length co39 : Value).ownBlock ∧ some k_ ≠ (.slice Ao40 t499.length co40 : Value).ownBlock)))) ∧ some k_ ≠ (.slice Ao120 t524.length co120 : Value).ownBlock) ∧ some k_ ≠ (.slice Ao121 t527.length co121 : Value).ownBlock) ∧ some k_ ≠ (.slice Ao129 t532.length co129 : Value).ownBlock) ∧ some k_ ≠ (.slice Ao130 t535.length co130 : Value).ownBlock)) (n := t480.length) (c := co24) ?_).2.2; exact (by (with_reducible repeat (first | apply Kd.R_alloc | apply Kd.R_drewN | apply Kd.R_drew)); exact (Kd.R_mono (Kd.R_far (p := ⟨gb539, 3, none⟩) (Kd.R_far (p := ⟨gb539, 2, none⟩) (Kd.R_far (p := ⟨gb539, 1, none⟩) (Kd.R_far (p := ⟨gb539, 0, none⟩) (Kd.R_types HO_485003.out BK539.out (by decide)) (fun _ hk => hk.2) (.int .i64 t530)) (fun _ hk => hk.2) (.int .i64 t531)) (fun _ hk => hk.2) (.slice Ao129 t532.length co129)) (fun _ hk => hk.2) (.slice Ao130 t535.length co130)) (fun _ h_ => h_.1)))); (case side8 => exact (Kd.R_reads' HO_485003.out).2.1); rintro e w142 ⟨rfl, hb⟩; refine ⟨_, rfl, ?_⟩; replace HO_485002 := Aside0.mk (Kd.R_below (by (with_reducible repeat (first | apply Kd.R_alloc | apply Kd.R_drewN | apply Kd.R_drew)); exact (Kd.R_mono (Kd.R_far (p := ⟨gb539, 3, none⟩) (Kd.R_far (p := ⟨gb539, 2, none⟩) (Kd.R_far (p := ⟨gb539, 1, none⟩) (Kd.R_far (p := ⟨gb539, 0, none⟩) (Kd.R_types HO_485002.out BK539.out (by decide)) (fun _ hk => hk.2) (.int .i64 t530)) (fun _ hk => hk.2) (.int .i64 t531)) (fun _ hk => hk.2) (.slice Ao129 t532.length co129)) (fun _ hk => hk.2) (.slice Ao130 t535.length co130)) (fun _ h_ => h_.1))) hb); replace HO_485003 := Aside0.mk (Kd.R_below (by (with_reducible repeat (first | apply Kd.R_alloc | apply Kd.R_drewN | apply Kd.R_drew)); exact (Kd.R_mono (Kd.R_far (p := ⟨gb539, 3, none⟩) (Kd.R_far (p := ⟨gb539, 2, none⟩) (Kd.R_far (p := ⟨gb539, 1, none⟩) (Kd.R_far (p := ⟨gb539, 0, none⟩) (Kd.R_types HO_485003.out BK539.out (by decide)) (fun _ hk => hk.2) (.int .i64 t530)) (fun _ hk => hk.2) (.int .i64 t531)) (fun _ hk => hk.2) (.slice Ao129 t532.length co129)) (fun _ hk => hk.2) (.slice Ao130 t535.length co130)) (fun _ h_ => h_.1))) hb); replace HO_494002 := Aside0.mk (Kd.R_below (by (with_reducible repeat (first | apply Kd.R_alloc | apply Kd.R_drewN | apply Kd.R_drew)); exact (Kd.R_mono (Kd.R_far (p := ⟨gb539, 3, none⟩) (Kd.R_far (p := ⟨gb539, 2, none⟩) (Kd.R_far (p := ⟨gb539, 1, none⟩) (Kd.R_far (p := ⟨gb539, 0, none⟩) (Kd.R_types HO_494002.out BK539.out (by decide)) (fun _ hk => hk.2) (.int .i64 t530)) (fun _ hk => hk.2) (.int .i64 t531)) (fun _ hk => hk.2) (.slice Ao129 t532.length co129)) (fun _ hk => hk.2) (.slice Ao130 t535.length co130)) (fun _ h_ => h_.1))) hb); replace HO_494003 := Aside0.mk (Kd.R_below (by (with_reducible repeat (first | apply Kd.R_alloc | apply Kd.R_drewN | apply Kd.R_drew)); exact (Kd.R_mono (Kd.R_far (p := ⟨gb539, 3, none⟩) (Kd.R_far (p := ⟨gb539, 2, none⟩) (Kd.R_far (p := ⟨gb539, 1, none⟩) (Kd.R_far (p := ⟨gb539, 0, none⟩) (Kd.R_types HO_494003.out BK539.out (by decide)) (fun _ hk => hk.2) (.int .i64 t530)) (fun _ hk => hk.2) (.int .i64 t531)) (fun _ hk => hk.2) (.slice Ao129 t532.length co129)) (fun _ hk => hk.2) (.slice Ao130 t535.length co130)) (fun _ h_ => h_.1))) hb); replace HO_504002 := Aside0.mk (Kd.R_below (by (with_reducible repeat (first | apply Kd.R_alloc | apply Kd.R_drewN | apply Kd.R_drew)); exact (Kd.R_mono (Kd.R_far (p := ⟨gb539, 3, none⟩) (Kd.R_far (p := ⟨gb539, 2, none⟩) (Kd.R_far (p := ⟨gb539, 1, none⟩) (Kd.R_far (p := ⟨gb539, 0, none⟩) (Kd.R_types HO_504002.out BK539.out (by decide)) (fun _ hk => hk.2) (.int .i64 t530)) (fun _ hk => hk.2) (.int .i64 t531)) (fun _ hk => hk.2) (.slice Ao129 t532.length co129)) (fun _ hk => hk.2) (.slice Ao130 t535.length co130)) (fun _ h_ => h_.1))) hb); replace HO_504003 := Aside0.mk (Kd.R_below (by (with_reducible repeat (first | apply Kd.R_alloc | apply Kd.R_drewN | apply Kd.R_drew)); exact (Kd.R_mono (Kd.R_far (p := ⟨gb539, 3, none⟩) (Kd.R_far (p := ⟨gb539, 2, none⟩) (Kd.R_far (p := ⟨gb539, 1, none⟩) (Kd.R_far (p := ⟨gb539, 0, none⟩) (Kd.R_types HO_504003.out BK539.out (by decide)) (fun _ hk => hk.2) (.int .i64 t530)) (fun _ hk => hk.2) (.int .i64 t531)) (fun _ hk => hk.2) (.slice Ao129 t532.length co129)) (fun _ hk => hk.2) (.slice Ao130 t535.length co130)) (fun _ h_ => h_.1))) hb); replace HO526 := Aside0.mk (Kd.R_below (by (with_reducible repeat (first | apply Kd.R_alloc | apply Kd.R_drewN | apply Kd.R_drew)); exact (Kd.R_mono (Kd.R_far (p := ⟨gb539, 3, none⟩) (Kd.R_far (p := ⟨gb539, 2, none⟩) (Kd.R_far (p := ⟨gb539, 1, none⟩) (Kd.R_far (p := ⟨gb539, 0, none⟩) (Kd.R_types HO526.out BK539.out (by decide)) (fun _ hk => hk.2) (.int .i64 t530)) (fun _ hk => hk.2) (.int .i64 t531)) (fun _ hk => hk.2) (.slice Ao129 t532.length co129)) (fun _ hk => hk.2) (.slice Ao130 t535.length co130)) (fun _ h_ => h_.1))) hb); replace HO529 := Aside0.mk (Kd.R_below (by (with_reducible repeat (first | apply Kd.R_alloc | apply Kd.R_drewN | apply Kd.R_drew)); exact (Kd.R_mono (Kd.R_far (p := ⟨gb539, 3, none⟩) (Kd.R_far (p := ⟨gb539, 2, none⟩) (Kd.R_far (p := ⟨gb539, 1, none⟩) (Kd.R_far (p := ⟨gb539, 0, none⟩) (Kd.R_types HO529.out BK539.out (by decide)) (fun _ hk => hk.2) (.int .i64 t530)) (fun _ hk => hk.2) (.int .i64 t531)) (fun _ hk => hk.2) (.slice Ao129 t532.length co129)) (fun _ hk => hk.2) (.slice Ao130 t535.length co130)) (fun _ h_ => h_.1))) hb); replace HO534 := Aside0.mk (Kd.R_below (by (with_reducible repeat (first | apply Kd.R_alloc | apply Kd.R_drewN | apply Kd.R_drew)); exact (Kd.R_mono (Kd.R_far (p := ⟨gb539, 3, none⟩) (Kd.R_far (p := ⟨gb539, 2, none⟩) (Kd.R_far (p := ⟨gb539, 1, none⟩) (Kd.R_far (p := ⟨gb539, 0, none⟩) (Kd.R_types HO534.out BK539.out (by decide)) (fun _ hk => hk.2) (.int .i64 t530)) (fun _ hk => hk.2) (.int .i64 t531)) (fun _ hk => hk.2) (.slice Ao129 t532.length co129)) (fun _ hk => hk.2) (.slice Ao130 t535.length co130)) (fun _ h_ => h_.1))) hb); replace HO537 := Aside0.mk (Kd.R_below (by (with_reducible repeat (first | apply Kd.R_alloc | apply Kd.R_drewN | apply Kd.R_drew)); exact (Kd.R_mono (Kd.R_far (p := ⟨gb539, 3, none⟩) (Kd.R_far (p := ⟨gb539, 2, none⟩) (Kd.R_far (p := ⟨gb539, 1, none⟩) (Kd.R_far (p := ⟨gb539, 0, none⟩) (Kd.R_types HO537.out BK539.out (by decide)) (fun _ hk => hk.2) (.int .i64 t530)) (fun _ hk => hk.2) (.int .i64 t531)) (fun _ hk => hk.2) (.slice Ao129 t532.length co129)) (fun _ hk => hk.2) (.slice Ao130 t535.length co130)) (fun _ h_ => h_.1))) hb); replace BK465 := Aside0.mk (blk_below (g := gb465) (o := .cells #[.int .i64 a0_0, .int .i64 a0_1, .slice A0_2 l0_2.length c0_2, .slice A0_3 l0_3.length c0_3] 24 (0, 0)) (by (with_reducible repeat (first | refine blk_drewN ?_ _ | refine blk_drew ?_ | refine blk_alloc ?_ _)); refine blk_far ?_ NB465_539.out _; (with_reducible repeat (first | refine blk_drewN ?_ _ | refine blk_drew ?_ | refine blk_alloc ?_ _)); refine blk_far ?_ NB465_539.out _; (with_reducible repeat (first | refine blk_drewN ?_ _ | refine blk_drew ?_ | refine blk_alloc ?_ _)); refine blk_far ?_ NB465_539.out _; (with_reducible repeat (first | refine blk_drewN ?_ _ | refine blk_drew ?_ | refine blk_alloc ?_ _)); refine blk_far ?_ NB465_539.out _; (with_reducible repeat (first | refine blk_drewN ?_ _ | refine blk_drew ?_ | refine blk_alloc ?_ _)); exact BK465.out) hb); replace BK484 := Aside0.mk (blk_below (g := gb484) (o := .cells #[.int .i64 t475, .int .i64 t476, .slice Ao23 t477.length co23, .slice Ao24 t480.length co24] 29 (0, 0)) (by (with_reducible repeat (first | refine blk_drewN ?_ _ | refine blk_drew ?_ | refine blk_alloc ?_ _)); refine blk_far ?_ NB484_539.out _; (with_reducible repeat (first | refine blk_drewN ?_ _ | refine blk_drew ?_ | refine blk_alloc ?_ _)); refine blk_far ?_ NB484_539.out _; (with_reducible repeat (first | refine blk_drewN ?_ _ | refine blk_drew ?_ | refine blk_alloc ?_ _)); refine blk_far ?_ NB484_539.out _; (with_reducible repeat (first | refine blk_drewN ?_ _ | refine blk_drew ?_ | refine blk_alloc ?_ _)); refine blk_far ?_ NB484_539.out _; (with_reducible repeat (first | refine blk_drewN ?_ _ | refine blk_drew ?_ | refine blk_alloc ?_ _)); exact BK484.out) hb); replace BK493 := Aside0.mk (blk_below (g := gb493) (o := .cells #[.int .i64 t485, .int .i64 t486, .slice Ao31 t515.length co31, .slice Ao32 t516.length co32] 29 (0, 0)) (by (with_reducible repeat (first | refine blk_drewN ?_ _ | refine blk_drew ?_ | refine blk_alloc ?_ _)); refine blk_far ?_ NB493_539.out _; (with_reducible repeat (first | refine blk_drewN ?_ _ | refine blk_drew ?_ | refine blk_alloc ?_ _)); refine blk_far ?_ NB493_539.out _; (with_reducible repeat (first | refine blk_drewN ?_ _ | refine blk_drew ?_ | refine blk_alloc ?_ _)); refine blk_far ?_ NB493_539.out _; (with_reducible repeat (first | refine blk_drewN ?_ _ | refine blk_drew ?_ | refine blk_alloc ?_ _)); refine blk_far ?_ NB493_539.out _; (with_reducible repeat (first | refine blk_drewN ?_ _ | refine blk_drew ?_ | refine blk_alloc ?_ _)); exact BK493.out) hb); replace BK503 := Aside0.mk (blk_below (g := gb503) (o := .cells #[.int .i64 t494, .int .i64 t495, .slice Ao39 t496.length co39, .slice Ao40 t499.length co40] 29 (0, 0)) (by (with_reducible repeat (first | refine blk_drewN ?_ _ | refine blk_drew ?_ | refine blk_alloc ?_ _)); refine blk_far ?_ NB503_539.out _; (with_reducible repeat (first | refine blk_drewN ?_ _ | refine blk_drew ?_ | refine blk_alloc ?_ _)); refine blk_far ?_ NB503_539.out _; (with_reducible repeat (first | refine blk_drewN ?_ _ | refine blk_drew ?_ | refine blk_alloc ?_ _)); refine blk_far ?_ NB503_539.out _; (with_reducible repeat (first | refine blk_drewN ?_ _ | refine blk_drew ?_ | refine blk_alloc ?_ _)); refine blk_far ?_ NB503_539.out _; (with_reducible repeat (first | refine blk_drewN ?_ _ | refine blk_drew ?_ | refine blk_alloc ?_ _)); exact BK503.out) hb); replace BK539 := Aside0.mk (blk_below (g := gb539) (o := .cells #[.int .i64 t530, .int .i64 t531, .slice Ao129 t532.length co129, .slice Ao130 t535.length co130] 29 (0, 0)) (by (with_reducible repeat (first | refine blk_drewN ?_ _ | refine blk_drew ?_ | refine blk_alloc ?_ _)); refine blk_put (cs := #[.int .i64 t530, .int .i64 t531, .slice Ao129 t532.length co129, .slice none 0 0]) ?_ 3 _ rfl; (with_reducible repeat (first | refine blk_drewN ?_ _ | refine blk_drew ?_ | refine blk_alloc ?_ _)); refine blk_put (cs := #[.int .i64 t530, .int .i64 t531, .slice none 0 0, .slice none 0 0]) ?_ 2 _ rfl; (with_reducible repeat (first | refine blk_drewN ?_ _ | refine blk_drew ?_ | refine blk_alloc ?_ _)); refine blk_put (cs := #[.int .i64 t530, .int .i64 0, .slice none 0 0, .slice none 0 0]) ?_ 1 _ rfl; (with_reducible repeat (first | refine blk_drewN ?_ _ | refine blk_drew ?_ | refine blk_alloc ?_ _)); refine blk_put (cs := #[.int .i64 0, .int .i64 0, .slice none 0 0, .slice none 0 0]) ?_ 0 _ rfl; (with_reducible repeat (first | refine blk_drewN ?_ _ | refine blk_drew ?_ | refine blk_alloc ?_ _)); exact BK539.out) hb); replace HB := BS hb; (try clear hb); (try clear hb2); (try clear hk); (try clear hi)))
             go_meet
             case rel => exact ⟨_, ((t538 != t483)), TF, H', ⟨by have := HJ10.out; have := HJ63.out; first | omega | exact Nat.le_refl _⟩, ⟨by (try simp only [hl494002_63]); (try simp only [hl494003_63]); (with_reducible repeat (first | apply Kd.R_alloc | apply Kd.R_drewN | apply Kd.R_drew)); exact Kd.R_mono HO_485002.out (fun _ hk => ⟨hk.1.1.1.1.1, ⟨hk.1.1.1.1.2.1, ⟨hk.1.1.1.1.2.2.1, ⟨hk.1.1.1.1.2.2.2.1, ⟨hk.1.1.1.1.2.2.2.2, ⟨hk.1.2, hk.2⟩⟩⟩⟩⟩⟩)⟩, ⟨by (try simp only [hl494002_63]); (try simp only [hl494003_63]); (with_reducible repeat (first | apply Kd.R_alloc | apply Kd.R_drewN | apply Kd.R_drew)); exact Kd.R_mono HO_485003.out (fun _ hk => ⟨hk.1.1.1.1.1, ⟨hk.1.1.1.1.2.1, ⟨hk.1.1.1.1.2.2.1, ⟨hk.1.1.1.1.2.2.2.1, ⟨hk.1.1.1.1.2.2.2.2, ⟨hk.1.2, hk.2⟩⟩⟩⟩⟩⟩)⟩, ⟨by (try simp only [hl494002_63]); (try simp only [hl494003_63]); (with_reducible repeat (first | apply Kd.R_alloc | apply Kd.R_drewN | apply Kd.R_drew)); exact Kd.R_mono HO_494002.out (fun _ hk => ⟨hk.1.1.1.1.1, ⟨hk.1.1.1.1.2.1, ⟨hk.1.1.1.1.2.2.1, ⟨hk.1.1.1.1.2.2.2.1, ⟨hk.1.1.1.1.2.2.2.2, ⟨hk.1.2, hk.2⟩⟩⟩⟩⟩⟩)⟩, ⟨by (try simp only [hl494002_63]); (try simp only [hl494003_63]); (with_reducible repeat (first | apply Kd.R_alloc | apply Kd.R_drewN | apply Kd.R_drew)); exact Kd.R_mono HO_494003.out (fun _ hk => ⟨hk.1.1.1.1.1, ⟨hk.1.1.1.1.2.1, ⟨hk.1.1.1.1.2.2.1, ⟨hk.1.1.1.1.2.2.2.1, ⟨hk.1.1.1.1.2.2.2.2, ⟨hk.1.2, hk.2⟩⟩⟩⟩⟩⟩)⟩, ⟨by (try simp only [hl494002_63]); (try simp only [hl494003_63]); (with_reducible repeat (first | apply Kd.R_alloc | apply Kd.R_drewN | apply Kd.R_drew)); exact Kd.R_mono HO_504002.out (fun _ hk => ⟨hk.1.1.1.1.1, ⟨hk.1.1.1.1.2.1, ⟨hk.1.1.1.1.2.2.1, ⟨hk.1.1.1.1.2.2.2.1, ⟨hk.1.1.1.1.2.2.2.2, ⟨hk.1.2, hk.2⟩⟩⟩⟩⟩⟩)⟩, ⟨by (try simp only [hl494002_63]); (try simp only [hl494003_63]); (with_reducible repeat (first | apply Kd.R_alloc | apply Kd.R_drewN | apply Kd.R_drew)); exact Kd.R_mono HO_504003.out (fun _ hk => ⟨hk.1.1.1.1.1, ⟨hk.1.1.1.1.2.1, ⟨hk.1.1.1.1.2.2.1, ⟨hk.1.1.1.1.2.2.2.1, ⟨hk.1.1.1.1.2.2.2.2, ⟨hk.1.2, hk.2⟩⟩⟩⟩⟩⟩)⟩, ⟨by (try simp only [hl494002_63]); (try simp only [hl494003_63]); (with_reducible repeat (first | apply Kd.R_alloc | apply Kd.R_drewN | apply Kd.R_drew)); exact Kd.R_mono HO534.out (fun _ hk => ⟨hk.1.1.1.1.1.1.1.2, ⟨hk.1.1.1.1.1.1.2, ⟨hk.1.1.1.1.1.2, ⟨hk.1.1.1.1.2, ⟨hk.1.1.1.2, ⟨hk.1.1.2, hk.1.1.1.1.1.1.1.1⟩⟩⟩⟩⟩⟩)⟩, ⟨by (try simp only [hl494002_63]); (try simp only [hl494003_63]); (with_reducible repeat (first | apply Kd.R_alloc | apply Kd.R_drewN | apply Kd.R_drew)); exact Kd.R_mono HO537.out (fun _ hk => ⟨hk.1.1.1.1.1.1.1.2, ⟨hk.1.1.1.1.1.1.2, ⟨hk.1.1.1.1.1.2, ⟨hk.1.1.1.1.2, ⟨hk.1.1.1.2, ⟨hk.1.1.2, hk.1.1.1.1.1.1.1.1⟩⟩⟩⟩⟩⟩)⟩, ⟨by (try simp only [hl494002_63]); (try simp only [hl494003_63]); (with_reducible repeat (first | refine blk_drewN ?_ _ | refine blk_drew ?_ | refine blk_alloc ?_ _)); exact BK465.out⟩, ⟨by (try simp only [hl494002_63]); (try simp only [hl494003_63]); (with_reducible repeat (first | refine blk_drewN ?_ _ | refine blk_drew ?_ | refine blk_alloc ?_ _)); exact BK484.out⟩, ⟨by (try simp only [hl494002_63]); (try simp only [hl494003_63]); (with_reducible repeat (first | refine blk_drewN ?_ _ | refine blk_drew ?_ | refine blk_alloc ?_ _)); exact BK493.out⟩, ⟨by (try simp only [hl494002_63]); (try simp only [hl494003_63]); (with_reducible repeat (first | refine blk_drewN ?_ _ | refine blk_drew ?_ | refine blk_alloc ?_ _)); exact BK503.out⟩, ⟨by (try simp only [hl494002_63]); (try simp only [hl494003_63]); (with_reducible repeat (first | refine blk_drewN ?_ _ | refine blk_drew ?_ | refine blk_alloc ?_ _)); exact BK539.out⟩, ⟨TB⟩⟩
            ·replace c132 := Bool.eq_false_iff.mpr c132
             subst c132
             replace H := iff' H
             have H' := Aside0.mk H
             clear H
             have hnb143 := NB539_465.out
             have hnc143 := NB465_539.out
             have hnb144 := NB539_484.out
             have hnc144 := NB484_539.out
             have hnb145 := NB539_493.out
             have hnc145 := NB493_539.out
             have hnb146 := NB539_503.out
             have hnc146 := NB503_539.out
             have hcz147 := cz4 BK539
             have hnb148 := NB484_465.out
             have hnc148 := NB465_484.out
             have hnb149 := NB484_493.out
             have hnc149 := NB493_484.out
             have hnb150 := NB484_503.out
             have hnc150 := NB503_484.out
             have hcz151 := cz4 BK484
             go_wp2_with (first | ((with_reducible refine gate_callee (f := 19) rfl ?_); refine goesL_ (some 81) rfl rfl Tryz.func19 KR rfl #[.agg #[.int .i64 t530, .int .i64 t531, .slice Ao129 t532.length co129, .slice Ao130 t535.length co130], .agg #[.int .i64 t475, .int .i64 t476, .slice Ao23 t477.length co23, .slice Ao24 t480.length co24]] rfl TA ?_; (with_reducible refine (laws_eqDiff.calls kj63 t530 t531 _ _ t532 _ _ t535 t475 t476 _ _ t477 _ _ t480 false _ ?side1 ?side2 ?side3 ?side4 ?side5 ?side6 ?side7 ?side8 A131.out).mono ?_); (case side1 => refine (Kd.R_reads' (e := 93) (base := w.heap.size) (ok := fun k_ => ((((((((some k_ ≠ (.slice Ao130 t535.length co130 : Value).ownBlock ∧ some k_ ≠ (.slice Ao23 t477.length co23 : Value).ownBlock) ∧ some k_ ≠ (.slice Ao24 t480.length co24 : Value).ownBlock) ∧ some k_ ≠ (.slice Ao31 t515.length co31 : Value).ownBlock) ∧ some k_ ≠ (.slice Ao32 t516.length co32 : Value).ownBlock) ∧ some k_ ≠ (.slice Ao39 t496.length co39 : Value).ownBlock) ∧ some k_ ≠ (.slice Ao40 t499.length co40 : Value).ownBlock) ∧ some k_ ≠ (.slice Ao120 t524.length co120 : Value).ownBlock) ∧ some k_ ≠ (.slice Ao121 t527.length co121 : Value).ownBlock)) (n := t532.length) (c := co129) ?_).2.2; exact (by (with_reducible repeat (first | apply Kd.R_alloc | apply Kd.R_drewN | apply Kd.R_drew)); exact (Kd.R_mono (Kd.R_far (p := ⟨gb539, 3, none⟩) (Kd.R_far (p := ⟨gb539, 2, none⟩) (Kd.R_far (p := ⟨gb539, 1, none⟩) (Kd.R_far (p := ⟨gb539, 0, none⟩) (Kd.R_types HO534.out BK539.out (by decide)) (fun _ hk => hk.2) (.int .i64 t530)) (fun _ hk => hk.2) (.int .i64 t531)) (fun _ hk => hk.2) (.slice Ao129 t532.length co129)) (fun _ hk => hk.2) (.slice Ao130 t535.length co130)) (fun _ h_ => h_.1)))); (case side2 => exact (Kd.R_reads' HO534.out).2.1); (case side3 => refine (Kd.R_reads' (e := 93) (base := w.heap.size) (ok := fun k_ => ((((((((some k_ ≠ (.slice Ao129 t532.length co129 : Value).ownBlock ∧ some k_ ≠ (.slice Ao23 t477.length co23 : Value).ownBlock) ∧ some k_ ≠ (.slice Ao24 t480.length co24 : Value).ownBlock) ∧ some k_ ≠ (.slice Ao31 t515.length co31 : Value).ownBlock) ∧ some k_ ≠ (.slice Ao32 t516.length co32 : Value).ownBlock) ∧ some k_ ≠ (.slice Ao39 t496.length co39 : Value).ownBlock) ∧ some k_ ≠ (.slice Ao40 t499.length co40 : Value).ownBlock) ∧ some k_ ≠ (.slice Ao120 t524.length co120 : Value).ownBlock) ∧ some k_ ≠ (.slice Ao121 t527.length co121 : Value).ownBlock)) (n := t535.length) (c := co130) ?_).2.2; exact (by (with_reducible repeat (first | apply Kd.R_alloc | apply Kd.R_drewN | apply Kd.R_drew)); exact (Kd.R_mono (Kd.R_far (p := ⟨gb539, 3, none⟩) (Kd.R_far (p := ⟨gb539, 2, none⟩) (Kd.R_far (p := ⟨gb539, 1, none⟩) (Kd.R_far (p := ⟨gb539, 0, none⟩) (Kd.R_types HO537.out BK539.out (by decide)) (fun _ hk => hk.2) (.int .i64 t530)) (fun _ hk => hk.2) (.int .i64 t531)) (fun _ hk => hk.2) (.slice Ao129 t532.length co129)) (fun _ hk => hk.2) (.slice Ao130 t535.length co130)) (fun _ h_ => h_.1)))); (case side4 => exact (Kd.R_reads' HO537.out).2.1); (case side5 => refine (Kd.R_reads' (e := 93) (base := w.heap.size) (ok := fun k_ => (((((some k_ ≠ (.slice Ao24 t480.length co24 : Value).ownBlock ∧ (some k_ ≠ (.slice Ao31 t515.length co31 : Value).ownBlock ∧ (some k_ ≠ (.slice Ao32 t516.length co32 : Value).ownBlock ∧ (some k_ ≠ (.slice Ao39 t496.length co39 : Value).ownBlock ∧ some k_ ≠ (.slice Ao40 t499.length co40 : Value).ownBlock)))) ∧ some k_ ≠ (.slice Ao120 t524.length co120 : Value).ownBlock) ∧ some k_ ≠ (.slice Ao121 t527.length co121 : Value).ownBlock) ∧ some k_ ≠ (.slice Ao129 t532.length co129 : Value).ownBlock) ∧ some k_ ≠ (.slice Ao130 t535.length co130 : Value).ownBlock)) (n := t477.length) (c := co23) ?_).2.2; exact (by (with_reducible repeat (first | apply Kd.R_alloc | apply Kd.R_drewN | apply Kd.R_drew)); exact (Kd.R_mono (Kd.R_far (p := ⟨gb539, 3, none⟩) (Kd.R_far (p := ⟨gb539, 2, none⟩) (Kd.R_far (p := ⟨gb539, 1, none⟩) (Kd.R_far (p := ⟨gb539, 0, none⟩) (Kd.R_types HO_485002.out BK539.out (by decide)) (fun _ hk => hk.2) (.int .i64 t530)) (fun _ hk => hk.2) (.int .i64 t531)) (fun _ hk => hk.2) (.slice Ao129 t532.length co129)) (fun _ hk => hk.2) (.slice Ao130 t535.length co130)) (fun _ h_ => h_.1)))); (case side6 => exact (Kd.R_reads' HO_485002.out).2.1); (case side7 => refine (Kd.R_reads' (e := 93) (base := w.heap.size) (ok := fun k_ => (((((some k_ ≠ (.slice Ao23 t477.length co23 : Value).ownBlock ∧ (some k_ ≠ (.slice Ao31 t515.length co31 : Value).ownBlock ∧ (some k_ ≠ (.slice Ao32 t516.length co32 : Value).ownBlock ∧ (some k_ ≠ (.slice Ao39 t496.length co39 : Value).ownBlock ∧ some k_ ≠ (.slice Ao40 t499.length co40 : Value).ownBlock)))) ∧ some k_ ≠ (.slice Ao120 t524.length co120 : Value).ownBlock) ∧ some k_ ≠ (.slice Ao121 t527.length co121 : Value).ownBlock) ∧ some k_ ≠ (.slice Ao129 t532.length co129 : Value).ownBlock) ∧ some k_ ≠ (.slice Ao130 t535.length co130 : Value).ownBlock)) (n := t480.length) (c := co24) ?_).2.2; exact (by (with_reducible repeat (first | apply Kd.R_alloc | apply Kd.R_drewN | apply Kd.R_drew)); exact (Kd.R_mono (Kd.R_far (p := ⟨gb539, 3, none⟩) (Kd.R_far (p := ⟨gb539, 2, none⟩) (Kd.R_far (p := ⟨gb539, 1, none⟩) (Kd.R_far (p := ⟨gb539, 0, none⟩) (Kd.R_types HO_485003.out BK539.out (by decide)) (fun _ hk => hk.2) (.int .i64 t530)) (fun _ hk => hk.2) (.int .i64 t531)) (fun _ hk => hk.2) (.slice Ao129 t532.length co129)) (fun _ hk => hk.2) (.slice Ao130 t535.length co130)) (fun _ h_ => h_.1)))); (case side8 => exact (Kd.R_reads' HO_485003.out).2.1); rintro e w152 ⟨rfl, hb⟩; refine ⟨_, rfl, ?_⟩; replace HO_485002 := Aside0.mk (Kd.R_below (by (with_reducible repeat (first | apply Kd.R_alloc | apply Kd.R_drewN | apply Kd.R_drew)); exact (Kd.R_mono (Kd.R_far (p := ⟨gb539, 3, none⟩) (Kd.R_far (p := ⟨gb539, 2, none⟩) (Kd.R_far (p := ⟨gb539, 1, none⟩) (Kd.R_far (p := ⟨gb539, 0, none⟩) (Kd.R_types HO_485002.out BK539.out (by decide)) (fun _ hk => hk.2) (.int .i64 t530)) (fun _ hk => hk.2) (.int .i64 t531)) (fun _ hk => hk.2) (.slice Ao129 t532.length co129)) (fun _ hk => hk.2) (.slice Ao130 t535.length co130)) (fun _ h_ => h_.1))) hb); replace HO_485003 := Aside0.mk (Kd.R_below (by (with_reducible repeat (first | apply Kd.R_alloc | apply Kd.R_drewN | apply Kd.R_drew)); exact (Kd.R_mono (Kd.R_far (p := ⟨gb539, 3, none⟩) (Kd.R_far (p := ⟨gb539, 2, none⟩) (Kd.R_far (p := ⟨gb539, 1, none⟩) (Kd.R_far (p := ⟨gb539, 0, none⟩) (Kd.R_types HO_485003.out BK539.out (by decide)) (fun _ hk => hk.2) (.int .i64 t530)) (fun _ hk => hk.2) (.int .i64 t531)) (fun _ hk => hk.2) (.slice Ao129 t532.length co129)) (fun _ hk => hk.2) (.slice Ao130 t535.length co130)) (fun _ h_ => h_.1))) hb); replace HO_494002 := Aside0.mk (Kd.R_below (by (with_reducible repeat (first | apply Kd.R_alloc | apply Kd.R_drewN | apply Kd.R_drew)); exact (Kd.R_mono (Kd.R_far (p := ⟨gb539, 3, none⟩) (Kd.R_far (p := ⟨gb539, 2, none⟩) (Kd.R_far (p := ⟨gb539, 1, none⟩) (Kd.R_far (p := ⟨gb539, 0, none⟩) (Kd.R_types HO_494002.out BK539.out (by decide)) (fun _ hk => hk.2) (.int .i64 t530)) (fun _ hk => hk.2) (.int .i64 t531)) (fun _ hk => hk.2) (.slice Ao129 t532.length co129)) (fun _ hk => hk.2) (.slice Ao130 t535.length co130)) (fun _ h_ => h_.1))) hb); replace HO_494003 := Aside0.mk (Kd.R_below (by (with_reducible repeat (first | apply Kd.R_alloc | apply Kd.R_drewN | apply Kd.R_drew)); exact (Kd.R_mono (Kd.R_far (p := ⟨gb539, 3, none⟩) (Kd.R_far (p := ⟨gb539, 2, none⟩) (Kd.R_far (p := ⟨gb539, 1, none⟩) (Kd.R_far (p := ⟨gb539, 0, none⟩) (Kd.R_types HO_494003.out BK539.out (by decide)) (fun _ hk => hk.2) (.int .i64 t530)) (fun _ hk => hk.2) (.int .i64 t531)) (fun _ hk => hk.2) (.slice Ao129 t532.length co129)) (fun _ hk => hk.2) (.slice Ao130 t535.length co130)) (fun _ h_ => h_.1))) hb); replace HO_504002 := Aside0.mk (Kd.R_below (by (with_reducible repeat (first | apply Kd.R_alloc | apply Kd.R_drewN | apply Kd.R_drew)); exact (Kd.R_mono (Kd.R_far (p := ⟨gb539, 3, none⟩) (Kd.R_far (p := ⟨gb539, 2, none⟩) (Kd.R_far (p := ⟨gb539, 1, none⟩) (Kd.R_far (p := ⟨gb539, 0, none⟩) (Kd.R_types HO_504002.out BK539.out (by decide)) (fun _ hk => hk.2) (.int .i64 t530)) (fun _ hk => hk.2) (.int .i64 t531)) (fun _ hk => hk.2) (.slice Ao129 t532.length co129)) (fun _ hk => hk.2) (.slice Ao130 t535.length co130)) (fun _ h_ => h_.1))) hb); replace HO_504003 := Aside0.mk (Kd.R_below (by (with_reducible repeat (first | apply Kd.R_alloc | apply Kd.R_drewN | apply Kd.R_drew)); exact (Kd.R_mono (Kd.R_far (p := ⟨gb539, 3, none⟩) (Kd.R_far (p := ⟨gb539, 2, none⟩) (Kd.R_far (p := ⟨gb539, 1, none⟩) (Kd.R_far (p := ⟨gb539, 0, none⟩) (Kd.R_types HO_504003.out BK539.out (by decide)) (fun _ hk => hk.2) (.int .i64 t530)) (fun _ hk => hk.2) (.int .i64 t531)) (fun _ hk => hk.2) (.slice Ao129 t532.length co129)) (fun _ hk => hk.2) (.slice Ao130 t535.length co130)) (fun _ h_ => h_.1))) hb); replace HO526 := Aside0.mk (Kd.R_below (by (with_reducible repeat (first | apply Kd.R_alloc | apply Kd.R_drewN | apply Kd.R_drew)); exact (Kd.R_mono (Kd.R_far (p := ⟨gb539, 3, none⟩) (Kd.R_far (p := ⟨gb539, 2, none⟩) (Kd.R_far (p := ⟨gb539, 1, none⟩) (Kd.R_far (p := ⟨gb539, 0, none⟩) (Kd.R_types HO526.out BK539.out (by decide)) (fun _ hk => hk.2) (.int .i64 t530)) (fun _ hk => hk.2) (.int .i64 t531)) (fun _ hk => hk.2) (.slice Ao129 t532.length co129)) (fun _ hk => hk.2) (.slice Ao130 t535.length co130)) (fun _ h_ => h_.1))) hb); replace HO529 := Aside0.mk (Kd.R_below (by (with_reducible repeat (first | apply Kd.R_alloc | apply Kd.R_drewN | apply Kd.R_drew)); exact (Kd.R_mono (Kd.R_far (p := ⟨gb539, 3, none⟩) (Kd.R_far (p := ⟨gb539, 2, none⟩) (Kd.R_far (p := ⟨gb539, 1, none⟩) (Kd.R_far (p := ⟨gb539, 0, none⟩) (Kd.R_types HO529.out BK539.out (by decide)) (fun _ hk => hk.2) (.int .i64 t530)) (fun _ hk => hk.2) (.int .i64 t531)) (fun _ hk => hk.2) (.slice Ao129 t532.length co129)) (fun _ hk => hk.2) (.slice Ao130 t535.length co130)) (fun _ h_ => h_.1))) hb); replace HO534 := Aside0.mk (Kd.R_below (by (with_reducible repeat (first | apply Kd.R_alloc | apply Kd.R_drewN | apply Kd.R_drew)); exact (Kd.R_mono (Kd.R_far (p := ⟨gb539, 3, none⟩) (Kd.R_far (p := ⟨gb539, 2, none⟩) (Kd.R_far (p := ⟨gb539, 1, none⟩) (Kd.R_far (p := ⟨gb539, 0, none⟩) (Kd.R_types HO534.out BK539.out (by decide)) (fun _ hk => hk.2) (.int .i64 t530)) (fun _ hk => hk.2) (.int .i64 t531)) (fun _ hk => hk.2) (.slice Ao129 t532.length co129)) (fun _ hk => hk.2) (.slice Ao130 t535.length co130)) (fun _ h_ => h_.1))) hb); replace HO537 := Aside0.mk (Kd.R_below (by (with_reducible repeat (first | apply Kd.R_alloc | apply Kd.R_drewN | apply Kd.R_drew)); exact (Kd.R_mono (Kd.R_far (p := ⟨gb539, 3, none⟩) (Kd.R_far (p := ⟨gb539, 2, none⟩) (Kd.R_far (p := ⟨gb539, 1, none⟩) (Kd.R_far (p := ⟨gb539, 0, none⟩) (Kd.R_types HO537.out BK539.out (by decide)) (fun _ hk => hk.2) (.int .i64 t530)) (fun _ hk => hk.2) (.int .i64 t531)) (fun _ hk => hk.2) (.slice Ao129 t532.length co129)) (fun _ hk => hk.2) (.slice Ao130 t535.length co130)) (fun _ h_ => h_.1))) hb); replace BK465 := Aside0.mk (blk_below (g := gb465) (o := .cells #[.int .i64 a0_0, .int .i64 a0_1, .slice A0_2 l0_2.length c0_2, .slice A0_3 l0_3.length c0_3] 24 (0, 0)) (by (with_reducible repeat (first | refine blk_drewN ?_ _ | refine blk_drew ?_ | refine blk_alloc ?_ _)); refine blk_far ?_ NB465_539.out _; (with_reducible repeat (first | refine blk_drewN ?_ _ | refine blk_drew ?_ | refine blk_alloc ?_ _)); refine blk_far ?_ NB465_539.out _; (with_reducible repeat (first | refine blk_drewN ?_ _ | refine blk_drew ?_ | refine blk_alloc ?_ _)); refine blk_far ?_ NB465_539.out _; (with_reducible repeat (first | refine blk_drewN ?_ _ | refine blk_drew ?_ | refine blk_alloc ?_ _)); refine blk_far ?_ NB465_539.out _; (with_reducible repeat (first | refine blk_drewN ?_ _ | refine blk_drew ?_ | refine blk_alloc ?_ _)); exact BK465.out) hb); replace BK484 := Aside0.mk (blk_below (g := gb484) (o := .cells #[.int .i64 t475, .int .i64 t476, .slice Ao23 t477.length co23, .slice Ao24 t480.length co24] 29 (0, 0)) (by (with_reducible repeat (first | refine blk_drewN ?_ _ | refine blk_drew ?_ | refine blk_alloc ?_ _)); refine blk_far ?_ NB484_539.out _; (with_reducible repeat (first | refine blk_drewN ?_ _ | refine blk_drew ?_ | refine blk_alloc ?_ _)); refine blk_far ?_ NB484_539.out _; (with_reducible repeat (first | refine blk_drewN ?_ _ | refine blk_drew ?_ | refine blk_alloc ?_ _)); refine blk_far ?_ NB484_539.out _; (with_reducible repeat (first | refine blk_drewN ?_ _ | refine blk_drew ?_ | refine blk_alloc ?_ _)); refine blk_far ?_ NB484_539.out _; (with_reducible repeat (first | refine blk_drewN ?_ _ | refine blk_drew ?_ | refine blk_alloc ?_ _)); exact BK484.out) hb); replace BK493 := Aside0.mk (blk_below (g := gb493) (o := .cells #[.int .i64 t485, .int .i64 t486, .slice Ao31 t515.length co31, .slice Ao32 t516.length co32] 29 (0, 0)) (by (with_reducible repeat (first | refine blk_drewN ?_ _ | refine blk_drew ?_ | refine blk_alloc ?_ _)); refine blk_far ?_ NB493_539.out _; (with_reducible repeat (first | refine blk_drewN ?_ _ | refine blk_drew ?_ | refine blk_alloc ?_ _)); refine blk_far ?_ NB493_539.out _; (with_reducible repeat (first | refine blk_drewN ?_ _ | refine blk_drew ?_ | refine blk_alloc ?_ _)); refine blk_far ?_ NB493_539.out _; (with_reducible repeat (first | refine blk_drewN ?_ _ | refine blk_drew ?_ | refine blk_alloc ?_ _)); refine blk_far ?_ NB493_539.out _; (with_reducible repeat (first | refine blk_drewN ?_ _ | refine blk_drew ?_ | refine blk_alloc ?_ _)); exact BK493.out) hb); replace BK503 := Aside0.mk (blk_below (g := gb503) (o := .cells #[.int .i64 t494, .int .i64 t495, .slice Ao39 t496.length co39, .slice Ao40 t499.length co40] 29 (0, 0)) (by (with_reducible repeat (first | refine blk_drewN ?_ _ | refine blk_drew ?_ | refine blk_alloc ?_ _)); refine blk_far ?_ NB503_539.out _; (with_reducible repeat (first | refine blk_drewN ?_ _ | refine blk_drew ?_ | refine blk_alloc ?_ _)); refine blk_far ?_ NB503_539.out _; (with_reducible repeat (first | refine blk_drewN ?_ _ | refine blk_drew ?_ | refine blk_alloc ?_ _)); refine blk_far ?_ NB503_539.out _; (with_reducible repeat (first | refine blk_drewN ?_ _ | refine blk_drew ?_ | refine blk_alloc ?_ _)); refine blk_far ?_ NB503_539.out _; (with_reducible repeat (first | refine blk_drewN ?_ _ | refine blk_drew ?_ | refine blk_alloc ?_ _)); exact BK503.out) hb); replace BK539 := Aside0.mk (blk_below (g := gb539) (o := .cells #[.int .i64 t530, .int .i64 t531, .slice Ao129 t532.length co129, .slice Ao130 t535.length co130] 29 (0, 0)) (by (with_reducible repeat (first | refine blk_drewN ?_ _ | refine blk_drew ?_ | refine blk_alloc ?_ _)); refine blk_put (cs := #[.int .i64 t530, .int .i64 t531, .slice Ao129 t532.length co129, .slice none 0 0]) ?_ 3 _ rfl; (with_reducible repeat (first | refine blk_drewN ?_ _ | refine blk_drew ?_ | refine blk_alloc ?_ _)); refine blk_put (cs := #[.int .i64 t530, .int .i64 t531, .slice none 0 0, .slice none 0 0]) ?_ 2 _ rfl; (with_reducible repeat (first | refine blk_drewN ?_ _ | refine blk_drew ?_ | refine blk_alloc ?_ _)); refine blk_put (cs := #[.int .i64 t530, .int .i64 0, .slice none 0 0, .slice none 0 0]) ?_ 1 _ rfl; (with_reducible repeat (first | refine blk_drewN ?_ _ | refine blk_drew ?_ | refine blk_alloc ?_ _)); refine blk_put (cs := #[.int .i64 0, .int .i64 0, .slice none 0 0, .slice none 0 0]) ?_ 0 _ rfl; (with_reducible repeat (first | refine blk_drewN ?_ _ | refine blk_drew ?_ | refine blk_alloc ?_ _)); exact BK539.out) hb); replace HB := BS hb; (try clear hb); (try clear hb2); (try clear hk); (try clear hi)))
             go_meet
             case rel => exact ⟨_, (true), TF, H', ⟨by have := HJ10.out; have := HJ63.out; first | omega | exact Nat.le_refl _⟩, ⟨by (try simp only [hl494002_63]); (try simp only [hl494003_63]); (with_reducible repeat (first | apply Kd.R_alloc | apply Kd.R_drewN | apply Kd.R_drew)); exact Kd.R_mono HO_485002.out (fun _ hk => ⟨hk.1.1.1.1.1, ⟨hk.1.1.1.1.2.1, ⟨hk.1.1.1.1.2.2.1, ⟨hk.1.1.1.1.2.2.2.1, ⟨hk.1.1.1.1.2.2.2.2, ⟨hk.1.2, hk.2⟩⟩⟩⟩⟩⟩)⟩, ⟨by (try simp only [hl494002_63]); (try simp only [hl494003_63]); (with_reducible repeat (first | apply Kd.R_alloc | apply Kd.R_drewN | apply Kd.R_drew)); exact Kd.R_mono HO_485003.out (fun _ hk => ⟨hk.1.1.1.1.1, ⟨hk.1.1.1.1.2.1, ⟨hk.1.1.1.1.2.2.1, ⟨hk.1.1.1.1.2.2.2.1, ⟨hk.1.1.1.1.2.2.2.2, ⟨hk.1.2, hk.2⟩⟩⟩⟩⟩⟩)⟩, ⟨by (try simp only [hl494002_63]); (try simp only [hl494003_63]); (with_reducible repeat (first | apply Kd.R_alloc | apply Kd.R_drewN | apply Kd.R_drew)); exact Kd.R_mono HO_494002.out (fun _ hk => ⟨hk.1.1.1.1.1, ⟨hk.1.1.1.1.2.1, ⟨hk.1.1.1.1.2.2.1, ⟨hk.1.1.1.1.2.2.2.1, ⟨hk.1.1.1.1.2.2.2.2, ⟨hk.1.2, hk.2⟩⟩⟩⟩⟩⟩)⟩, ⟨by (try simp only [hl494002_63]); (try simp only [hl494003_63]); (with_reducible repeat (first | apply Kd.R_alloc | apply Kd.R_drewN | apply Kd.R_drew)); exact Kd.R_mono HO_494003.out (fun _ hk => ⟨hk.1.1.1.1.1, ⟨hk.1.1.1.1.2.1, ⟨hk.1.1.1.1.2.2.1, ⟨hk.1.1.1.1.2.2.2.1, ⟨hk.1.1.1.1.2.2.2.2, ⟨hk.1.2, hk.2⟩⟩⟩⟩⟩⟩)⟩, ⟨by (try simp only [hl494002_63]); (try simp only [hl494003_63]); (with_reducible repeat (first | apply Kd.R_alloc | apply Kd.R_drewN | apply Kd.R_drew)); exact Kd.R_mono HO_504002.out (fun _ hk => ⟨hk.1.1.1.1.1, ⟨hk.1.1.1.1.2.1, ⟨hk.1.1.1.1.2.2.1, ⟨hk.1.1.1.1.2.2.2.1, ⟨hk.1.1.1.1.2.2.2.2, ⟨hk.1.2, hk.2⟩⟩⟩⟩⟩⟩)⟩, ⟨by (try simp only [hl494002_63]); (try simp only [hl494003_63]); (with_reducible repeat (first | apply Kd.R_alloc | apply Kd.R_drewN | apply Kd.R_drew)); exact Kd.R_mono HO_504003.out (fun _ hk => ⟨hk.1.1.1.1.1, ⟨hk.1.1.1.1.2.1, ⟨hk.1.1.1.1.2.2.1, ⟨hk.1.1.1.1.2.2.2.1, ⟨hk.1.1.1.1.2.2.2.2, ⟨hk.1.2, hk.2⟩⟩⟩⟩⟩⟩)⟩, ⟨by (try simp only [hl494002_63]); (try simp only [hl494003_63]); (with_reducible repeat (first | apply Kd.R_alloc | apply Kd.R_drewN | apply Kd.R_drew)); exact Kd.R_mono HO534.out (fun _ hk => ⟨hk.1.1.1.1.1.1.1.2, ⟨hk.1.1.1.1.1.1.2, ⟨hk.1.1.1.1.1.2, ⟨hk.1.1.1.1.2, ⟨hk.1.1.1.2, ⟨hk.1.1.2, hk.1.1.1.1.1.1.1.1⟩⟩⟩⟩⟩⟩)⟩, ⟨by (try simp only [hl494002_63]); (try simp only [hl494003_63]); (with_reducible repeat (first | apply Kd.R_alloc | apply Kd.R_drewN | apply Kd.R_drew)); exact Kd.R_mono HO537.out (fun _ hk => ⟨hk.1.1.1.1.1.1.1.2, ⟨hk.1.1.1.1.1.1.2, ⟨hk.1.1.1.1.1.2, ⟨hk.1.1.1.1.2, ⟨hk.1.1.1.2, ⟨hk.1.1.2, hk.1.1.1.1.1.1.1.1⟩⟩⟩⟩⟩⟩)⟩, ⟨by (try simp only [hl494002_63]); (try simp only [hl494003_63]); (with_reducible repeat (first | refine blk_drewN ?_ _ | refine blk_drew ?_ | refine blk_alloc ?_ _)); exact BK465.out⟩, ⟨by (try simp only [hl494002_63]); (try simp only [hl494003_63]); (with_reducible repeat (first | refine blk_drewN ?_ _ | refine blk_drew ?_ | refine blk_alloc ?_ _)); exact BK484.out⟩, ⟨by (try simp only [hl494002_63]); (try simp only [hl494003_63]); (with_reducible repeat (first | refine blk_drewN ?_ _ | refine blk_drew ?_ | refine blk_alloc ?_ _)); exact BK493.out⟩, ⟨by (try simp only [hl494002_63]); (try simp only [hl494003_63]); (with_reducible repeat (first | refine blk_drewN ?_ _ | refine blk_drew ?_ | refine blk_alloc ?_ _)); exact BK503.out⟩, ⟨by (try simp only [hl494002_63]); (try simp only [hl494003_63]); (with_reducible repeat (first | refine blk_drewN ?_ _ | refine blk_drew ?_ | refine blk_alloc ?_ _)); exact BK539.out⟩, ⟨TB⟩⟩
           case rest =>
            clear HC108
            try clear c1
            try clear c2
            try clear p2
            try clear c3
            try clear c3b0
            try clear c4
            try clear c5
            try clear c6
            try clear c7
            try clear c8
            try clear c9
            try clear c10
            try clear c11
            try clear c12
            try clear c13
            try clear c14
            try clear c15
            try clear c17
            try clear c19
            try clear c20
            try clear c21
            try clear c22
            try clear c23
            try clear c28
            try clear c29
            try clear c35
            try clear c36
            try clear c37
            try clear c42
            try clear c43
            try clear c44
            try clear c45
            try clear c47
            try clear c48
            try clear c51
            try clear c52
            try clear c53
            try clear c55
            try clear c56
            try clear c59
            try clear c62
            try clear c70
            try clear c71
            try clear c72
            try clear c75
            try clear c75b0
            try clear c77
            try clear c78
            try clear c79
            try clear c80
            try clear c82
            try clear c83
            try clear c86
            try clear c87
            try clear c88
            try clear c90
            try clear c91
            try clear c94
            try clear c97
            try clear c97b0
            try clear c98
            try clear c99
            try clear c100
            try clear c105
            try clear c105b0
            try clear c105b1
            try clear c109
            try clear c110
            try clear c111
            try clear c116
            try clear c117
            try clear c124
            try clear c125
            try clear c126
            try clear c127
            try clear c132
            try clear c133
            try clear c134
            try clear c135
            try clear c136
            try clear c138
            try clear c139
            try clear c140
            try clear c143
            try clear c144
            try clear c145
            try clear c146
            try clear c148
            try clear c149
            try clear c150
            try clear hcz101
            try clear hcz103
            try clear hcz112
            try clear hcz114
            try clear hcz118
            try clear hcz128
            try clear hcz137
            try clear hcz13
            try clear hcz141
            try clear hcz147
            try clear hcz151
            try clear hcz15
            try clear hcz22
            try clear hcz25
            try clear hcz30
            try clear hcz38
            try clear hcz46
            try clear hcz49
            try clear hcz54
            try clear hcz57
            try clear hcz5
            try clear hcz73
            try clear hcz81
            try clear hcz84
            try clear hcz89
            try clear hcz92
            try clear hfz101_0
            try clear hfz101_1
            try clear hfz101_2
            try clear hfz101_3
            try clear hfz103_0
            try clear hfz103_1
            try clear hfz103_2
            try clear hfz103_3
            try clear hfz112_0
            try clear hfz112_1
            try clear hfz112_2
            try clear hfz112_3
            try clear hfz114_0
            try clear hfz114_1
            try clear hfz114_2
            try clear hfz114_3
            try clear hfz118_0
            try clear hfz118_1
            try clear hfz118_2
            try clear hfz118_3
            try clear hfz128_0
            try clear hfz128_1
            try clear hfz128_2
            try clear hfz128_3
            try clear hfz137_0
            try clear hfz137_1
            try clear hfz137_2
            try clear hfz137_3
            try clear hfz13_0
            try clear hfz13_1
            try clear hfz13_2
            try clear hfz13_3
            try clear hfz141_0
            try clear hfz141_1
            try clear hfz141_2
            try clear hfz141_3
            try clear hfz147_0
            try clear hfz147_1
            try clear hfz147_2
            try clear hfz147_3
            try clear hfz151_0
            try clear hfz151_1
            try clear hfz151_2
            try clear hfz151_3
            try clear hfz15_0
            try clear hfz15_1
            try clear hfz15_2
            try clear hfz15_3
            try clear hfz22_0
            try clear hfz22_1
            try clear hfz22_2
            try clear hfz22_3
            try clear hfz25_0
            try clear hfz25_1
            try clear hfz25_2
            try clear hfz25_3
            try clear hfz30_0
            try clear hfz30_1
            try clear hfz30_2
            try clear hfz30_3
            try clear hfz38_0
            try clear hfz38_1
            try clear hfz38_2
            try clear hfz38_3
            try clear hfz46_0
            try clear hfz46_1
            try clear hfz46_2
            try clear hfz46_3
            try clear hfz49_0
            try clear hfz49_1
            try clear hfz49_2
            try clear hfz49_3
            try clear hfz54_0
            try clear hfz54_1
            try clear hfz54_2
            try clear hfz54_3
            try clear hfz57_0
            try clear hfz57_1
            try clear hfz57_2
            try clear hfz57_3
            try clear hfz5_0
            try clear hfz5_1
            try clear hfz5_2
            try clear hfz5_3
            try clear hfz73_0
            try clear hfz73_1
            try clear hfz73_2
            try clear hfz73_3
            try clear hfz81_0
            try clear hfz81_1
            try clear hfz81_2
            try clear hfz81_3
            try clear hfz84_0
            try clear hfz84_1
            try clear hfz84_2
            try clear hfz84_3
            try clear hfz89_0
            try clear hfz89_1
            try clear hfz89_2
            try clear hfz89_3
            try clear hfz92_0
            try clear hfz92_1
            try clear hfz92_2
            try clear hfz92_3
            try clear p2
            obtain ⟨kq, x87_107, rfl, HA, HJ107, HO_485002, HO_485003, HO_494002, HO_494003, HO_504002, HO_504003, HO_540002, HO_540003, BK465, BK484, BK493, BK503, BK539, HB⟩ := hcut
            have hl504002_107 := (Kd.R_reads' HO_504002.out).1
            rw [hl504002_107] at HO_504002
            (try simp only [hl504002_107])
            (try simp only [hl504002_107] at BK465)
            (try simp only [hl504002_107] at BK484)
            (try simp only [hl504002_107] at BK493)
            (try simp only [hl504002_107] at BK503)
            (try simp only [hl504002_107] at BK539)
            (try simp only [hl504002_107] at HO_485002)
            (try simp only [hl504002_107] at HO_485003)
            (try simp only [hl504002_107] at HO_494002)
            (try simp only [hl504002_107] at HO_494003)
            (try simp only [hl504002_107] at HO_504003)
            (try simp only [hl504002_107] at HO_540002)
            (try simp only [hl504002_107] at HO_540003)
            have hl504003_107 := (Kd.R_reads' HO_504003.out).1
            rw [hl504003_107] at HO_504003
            (try simp only [hl504003_107])
            (try simp only [hl504003_107] at BK465)
            (try simp only [hl504003_107] at BK484)
            (try simp only [hl504003_107] at BK493)
            (try simp only [hl504003_107] at BK503)
            (try simp only [hl504003_107] at BK539)
            (try simp only [hl504003_107] at HO_485002)
            (try simp only [hl504003_107] at HO_485003)
            (try simp only [hl504003_107] at HO_494002)
            (try simp only [hl504003_107] at HO_494003)
            (try simp only [hl504003_107] at HO_504002)
            (try simp only [hl504003_107] at HO_540002)
            (try simp only [hl504003_107] at HO_540003)
            cases kq with
            | zero => exact absurd HA.out (by simp [laws_FnExactBackDiff.j2])
            | succ kj107 =>
             have H := HA.out
             clear HA
             simp only [laws_FnExactBackDiff.j2] at H
             by_cases c153 : x87_107 = true
             ·subst c153
              replace H := ift H
              obtain rfl := Option.some.inj H
              go_wp2
              go_ret
              exact ⟨TE, TB⟩
             ·replace c153 := Bool.eq_false_iff.mpr c153
              subst c153
              replace H := iff' H
              obtain ⟨t541, A154, H⟩ := bnd H
              by_cases c155 : t541 < 0
              ·rw [if_pos c155] at H
               have c155b0 : decide (t541 < 0) = true := decide_eq_true c155
               clear c155
               obtain rfl := Option.some.inj H
               have hnb156 := NB503_465.out
               have hnc156 := NB465_503.out
               have hnb157 := NB503_484.out
               have hnc157 := NB484_503.out
               have hnb158 := NB503_493.out
               have hnc158 := NB493_503.out
               have hnb159 := NB503_539.out
               have hnc159 := NB539_503.out
               have hcz160 := cz4 BK503
               go_wp2_with (first | ((with_reducible refine gate_callee (f := 23) rfl ?_); refine goesL_ (some 90) rfl rfl Tryz.func23 KR rfl #[.agg #[.int .i64 t494, .int .i64 t495, .slice Ao39 t519.length co39, .slice Ao40 t520.length co40], .int .i64 1] rfl TA ?_; (with_reducible refine (laws_heldDiff.calls kj107 t494 t495 _ _ t519 _ _ t520 1 t541 _ ?side1 ?side2 ?side3 ?side4 A154.out).mono ?_); (case side1 => exact CW ((Kd.R_reads' HO_504002.out).2.2)); (case side2 => exact (Kd.R_reads' HO_504002.out).2.1); (case side3 => exact CW ((Kd.R_reads' HO_504003.out).2.2)); (case side4 => exact (Kd.R_reads' HO_504003.out).2.1); rintro e w161 ⟨rfl, hb⟩; refine ⟨_, rfl, ?_⟩; replace HO_485002 := RB HO_485002 hb; replace HO_485003 := RB HO_485003 hb; replace HO_494002 := RB HO_494002 hb; replace HO_494003 := RB HO_494003 hb; replace HO_504002 := RB HO_504002 hb; replace HO_504003 := RB HO_504003 hb; replace HO_540002 := RB HO_540002 hb; replace HO_540003 := RB HO_540003 hb; replace BK465 := KB BK465 hb; replace BK484 := KB BK484 hb; replace BK493 := KB BK493 hb; replace BK503 := KB BK503 hb; replace BK539 := KB BK539 hb; replace HB := BS hb; (try clear hb); (try clear hb2); (try clear hk); (try clear hi)))
               go_ret
               exact ⟨TE, TB⟩
              ·rw [if_neg c155] at H
               have c155b0 : decide (t541 < 0) = false := decide_eq_false c155
               clear c155
               by_cases c162 : t541 = t518
               ·rw [if_pos c162] at H
                have c162b0 : (t541 == t518) = true := beq_iff_eq.mpr c162
                have c162b1 : (t541 != t518) = false := bne_eq_false_iff_eq.mpr c162
                clear c162
                obtain rfl := Option.some.inj H
                have hnb163 := NB503_465.out
                have hnc163 := NB465_503.out
                have hnb164 := NB503_484.out
                have hnc164 := NB484_503.out
                have hnb165 := NB503_493.out
                have hnc165 := NB493_503.out
                have hnb166 := NB503_539.out
                have hnc166 := NB539_503.out
                have hcz167 := cz4 BK503
                go_wp2_with (first | ((with_reducible refine gate_callee (f := 23) rfl ?_); refine goesL_ (some 90) rfl rfl Tryz.func23 KR rfl #[.agg #[.int .i64 t494, .int .i64 t495, .slice Ao39 t519.length co39, .slice Ao40 t520.length co40], .int .i64 1] rfl TA ?_; (with_reducible refine (laws_heldDiff.calls kj107 t494 t495 _ _ t519 _ _ t520 1 t541 _ ?side1 ?side2 ?side3 ?side4 A154.out).mono ?_); (case side1 => exact CW ((Kd.R_reads' HO_504002.out).2.2)); (case side2 => exact (Kd.R_reads' HO_504002.out).2.1); (case side3 => exact CW ((Kd.R_reads' HO_504003.out).2.2)); (case side4 => exact (Kd.R_reads' HO_504003.out).2.1); rintro e w168 ⟨rfl, hb⟩; refine ⟨_, rfl, ?_⟩; replace HO_485002 := RB HO_485002 hb; replace HO_485003 := RB HO_485003 hb; replace HO_494002 := RB HO_494002 hb; replace HO_494003 := RB HO_494003 hb; replace HO_504002 := RB HO_504002 hb; replace HO_504003 := RB HO_504003 hb; replace HO_540002 := RB HO_540002 hb; replace HO_540003 := RB HO_540003 hb; replace BK465 := KB BK465 hb; replace BK484 := KB BK484 hb; replace BK493 := KB BK493 hb; replace BK503 := KB BK503 hb; replace BK539 := KB BK539 hb; replace HB := BS hb; (try clear hb); (try clear hb2); (try clear hk); (try clear hi)))
                go_ret
                exact ⟨TE, TB⟩
               ·rw [if_neg c162] at H
                have c162b0 : (t541 == t518) = false := beq_eq_false_iff_ne.mpr c162
                have c162b1 : (t541 != t518) = true := bne_iff_ne.mpr c162
                obtain rfl := Option.some.inj H
                have hnb169 := NB503_465.out
                have hnc169 := NB465_503.out
                have hnb170 := NB503_484.out
                have hnc170 := NB484_503.out
                have hnb171 := NB503_493.out
                have hnc171 := NB493_503.out
                have hnb172 := NB503_539.out
                have hnc172 := NB539_503.out
                have hcz173 := cz4 BK503
                go_wp2_with (first | ((with_reducible refine gate_callee (f := 23) rfl ?_); refine goesL_ (some 90) rfl rfl Tryz.func23 KR rfl #[.agg #[.int .i64 t494, .int .i64 t495, .slice Ao39 t519.length co39, .slice Ao40 t520.length co40], .int .i64 1] rfl TA ?_; (with_reducible refine (laws_heldDiff.calls kj107 t494 t495 _ _ t519 _ _ t520 1 t541 _ ?side1 ?side2 ?side3 ?side4 A154.out).mono ?_); (case side1 => exact CW ((Kd.R_reads' HO_504002.out).2.2)); (case side2 => exact (Kd.R_reads' HO_504002.out).2.1); (case side3 => exact CW ((Kd.R_reads' HO_504003.out).2.2)); (case side4 => exact (Kd.R_reads' HO_504003.out).2.1); rintro e w174 ⟨rfl, hb⟩; refine ⟨_, rfl, ?_⟩; replace HO_485002 := RB HO_485002 hb; replace HO_485003 := RB HO_485003 hb; replace HO_494002 := RB HO_494002 hb; replace HO_494003 := RB HO_494003 hb; replace HO_504002 := RB HO_504002 hb; replace HO_504003 := RB HO_504003 hb; replace HO_540002 := RB HO_540002 hb; replace HO_540003 := RB HO_540003 hb; replace BK465 := KB BK465 hb; replace BK484 := KB BK484 hb; replace BK493 := KB BK493 hb; replace BK503 := KB BK503 hb; replace BK539 := KB BK539 hb; replace HB := BS hb; (try clear hb); (try clear hb2); (try clear hk); (try clear hi)))
                go_ret
                exact ⟨TE, TB⟩
          ·rw [if_neg c105] at H
           have c105b0 : (t521 == t518) = false := beq_eq_false_iff_ne.mpr c105
           have c105b1 : (t521 != t518) = true := bne_iff_ne.mpr c105
           obtain rfl := Option.some.inj H
           have hnb175 := NB503_465.out
           have hnc175 := NB465_503.out
           have hnb176 := NB503_484.out
           have hnc176 := NB484_503.out
           have hnb177 := NB503_493.out
           have hnc177 := NB493_503.out
           have hcz178 := cz4 BK503
           go_wp2_with (first | ((with_reducible refine gate_callee (f := 22) rfl ?_); refine goesL_ (some 64) rfl rfl Tryz.func22 KR rfl #[.agg #[.int .i64 t494, .int .i64 t495, .slice Ao39 t496.length co39, .slice Ao40 t499.length co40], .int .i64 1] rfl TA ?_; (with_reducible refine (laws_markDiff.calls kj63 t494 t495 (fun k_ => some k_ = (.slice Ao39 t496.length co39 : Value).ownBlock) (.slice Ao39 t496.length co39) t496 (fun k_ => some k_ = (.slice Ao40 t499.length co40 : Value).ownBlock) (.slice Ao40 t499.length co40) t499 1 t518 t519 t520 w _ ?side1 ?side2 ?side3 ?side4 ?side5 A95.out).mono ?_); (case side1 => repeat (first | (with_reducible first | exact HB.out | apply below_alloc | apply pw_below_drewN | apply below_drew1 | refine below_set ?_ GE465.out | refine below_set ?_ GE484.out | refine below_set ?_ GE493.out | refine below_set ?_ GE503.out) | exact HB.out)); (case side2 => exact Kd.R_tight rfl HO_504002.out); (case side3 => exact fun k_ e_ => (HO_504002.out.1 k_ e_.symm).2.2.2.2); (case side4 => exact Kd.R_tight rfl HO_504003.out); (case side5 => exact fun k_ e_ => (HO_504003.out.1 k_ e_.symm).2.2.2.2); rintro e w179 ⟨rfl, hy0, hy1, hb, hkp⟩; refine ⟨_, rfl, ?_⟩; replace HO_485002 := Aside0.mk (Kd.R_mono (ok' := fun k_ => some k_ ≠ (.slice Ao24 t480.length co24 : Value).ownBlock ∧ some k_ ≠ (.slice Ao31 t515.length co31 : Value).ownBlock ∧ some k_ ≠ (.slice Ao32 t516.length co32 : Value).ownBlock ∧ some k_ ≠ (.slice Ao39 t496.length co39 : Value).ownBlock ∧ some k_ ≠ (.slice Ao40 t499.length co40 : Value).ownBlock) (Kd.R_keptB (HO_485002.out) hkp (fun k_ hk_ hs_ => Or.elim hs_ (fun e_ => (hk_.2.2.2.1) e_) (fun e_ => (hk_.2.2.2.2) e_))) (fun k_ hk_ => ⟨hk_.1.1, hk_.1.2.1, hk_.1.2.2.1, hk_.1.2.2.2.1, hk_.1.2.2.2.2⟩)); replace HO_485003 := Aside0.mk (Kd.R_mono (ok' := fun k_ => some k_ ≠ (.slice Ao23 t477.length co23 : Value).ownBlock ∧ some k_ ≠ (.slice Ao31 t515.length co31 : Value).ownBlock ∧ some k_ ≠ (.slice Ao32 t516.length co32 : Value).ownBlock ∧ some k_ ≠ (.slice Ao39 t496.length co39 : Value).ownBlock ∧ some k_ ≠ (.slice Ao40 t499.length co40 : Value).ownBlock) (Kd.R_keptB (HO_485003.out) hkp (fun k_ hk_ hs_ => Or.elim hs_ (fun e_ => (hk_.2.2.2.1) e_) (fun e_ => (hk_.2.2.2.2) e_))) (fun k_ hk_ => ⟨hk_.1.1, hk_.1.2.1, hk_.1.2.2.1, hk_.1.2.2.2.1, hk_.1.2.2.2.2⟩)); replace HO_494002 := Aside0.mk (Kd.R_mono (ok' := fun k_ => some k_ ≠ (.slice Ao23 t477.length co23 : Value).ownBlock ∧ some k_ ≠ (.slice Ao24 t480.length co24 : Value).ownBlock ∧ some k_ ≠ (.slice Ao32 t516.length co32 : Value).ownBlock ∧ some k_ ≠ (.slice Ao39 t496.length co39 : Value).ownBlock ∧ some k_ ≠ (.slice Ao40 t499.length co40 : Value).ownBlock) (Kd.R_keptB (HO_494002.out) hkp (fun k_ hk_ hs_ => Or.elim hs_ (fun e_ => (hk_.2.2.2.1) e_) (fun e_ => (hk_.2.2.2.2) e_))) (fun k_ hk_ => ⟨hk_.1.1, hk_.1.2.1, hk_.1.2.2.1, hk_.1.2.2.2.1, hk_.1.2.2.2.2⟩)); replace HO_494003 := Aside0.mk (Kd.R_mono (ok' := fun k_ => some k_ ≠ (.slice Ao23 t477.length co23 : Value).ownBlock ∧ some k_ ≠ (.slice Ao24 t480.length co24 : Value).ownBlock ∧ some k_ ≠ (.slice Ao31 t515.length co31 : Value).ownBlock ∧ some k_ ≠ (.slice Ao39 t496.length co39 : Value).ownBlock ∧ some k_ ≠ (.slice Ao40 t499.length co40 : Value).ownBlock) (Kd.R_keptB (HO_494003.out) hkp (fun k_ hk_ hs_ => Or.elim hs_ (fun e_ => (hk_.2.2.2.1) e_) (fun e_ => (hk_.2.2.2.2) e_))) (fun k_ hk_ => ⟨hk_.1.1, hk_.1.2.1, hk_.1.2.2.1, hk_.1.2.2.2.1, hk_.1.2.2.2.2⟩)); replace BK465 := Aside0.mk (blk_kept (KW BK465).out hkp (fun hs_ => Or.elim hs_ (fun e_ => (fun e_ => (Kd.R_ne HO_504002.out BK465.out (by decide)) e_) e_) (fun e_ => (fun e_ => (Kd.R_ne HO_504003.out BK465.out (by decide)) e_) e_))); replace BK484 := Aside0.mk (blk_kept (KW BK484).out hkp (fun hs_ => Or.elim hs_ (fun e_ => (fun e_ => (Kd.R_ne HO_504002.out BK484.out (by decide)) e_) e_) (fun e_ => (fun e_ => (Kd.R_ne HO_504003.out BK484.out (by decide)) e_) e_))); replace BK493 := Aside0.mk (blk_kept (KW BK493).out hkp (fun hs_ => Or.elim hs_ (fun e_ => (fun e_ => (Kd.R_ne HO_504002.out BK493.out (by decide)) e_) e_) (fun e_ => (fun e_ => (Kd.R_ne HO_504003.out BK493.out (by decide)) e_) e_))); replace BK503 := Aside0.mk (blk_kept (KW BK503).out hkp (fun hs_ => Or.elim hs_ (fun e_ => (fun e_ => (Kd.R_ne HO_504002.out BK503.out (by decide)) e_) e_) (fun e_ => (fun e_ => (Kd.R_ne HO_504003.out BK503.out (by decide)) e_) e_))); replace HO_504002 := Aside0.mk (Kd.R_reok rfl hy0 (fun k_ e_ => HO_504002.out.1 k_ e_)); replace HO_504003 := Aside0.mk (Kd.R_reok rfl hy1 (fun k_ e_ => HO_504003.out.1 k_ e_)); replace HB := Aside0.mk (hb); (try clear hb); (try clear hkp); (try clear hy0); (try clear hy1); have hcz180 := cz4 BK503) | ((with_reducible refine gate_callee (f := 23) rfl ?_); refine goesL_ (some 67) rfl rfl Tryz.func23 KR rfl #[.agg #[.int .i64 t494, .int .i64 t495, .slice Ao39 t519.length co39, .slice Ao40 t520.length co40], .int .i64 1] rfl (by (try simp only [List.map_toArray, List.map_cons, List.map_nil]); first | done | (rw [show t519.length = t496.length from (Kd.R_reads' HO_504002.out).1.symm, show t520.length = t499.length from (Kd.R_reads' HO_504003.out).1.symm] <;> rfl) | rfl | (simp only [List.length_drop, List.length_take]; rfl)) ?_; (with_reducible refine (laws_heldDiff.calls kj63 t494 t495 _ _ t519 _ _ t520 1 t521 _ ?side1 ?side2 ?side3 ?side4 A96.out).mono ?_); (case side1 => exact CW ((Kd.R_reads' HO_504002.out).2.2)); (case side2 => rw [show t519.length = t496.length from (Kd.R_reads' HO_504002.out).1.symm]; exact (Kd.R_reads' HO_504002.out).2.1); (case side3 => exact CW ((Kd.R_reads' HO_504003.out).2.2)); (case side4 => rw [show t520.length = t499.length from (Kd.R_reads' HO_504003.out).1.symm]; exact (Kd.R_reads' HO_504003.out).2.1); rintro e w181 ⟨rfl, hb⟩; refine ⟨_, rfl, ?_⟩; replace HO_485002 := RB HO_485002 hb; replace HO_485003 := RB HO_485003 hb; replace HO_494002 := RB HO_494002 hb; replace HO_494003 := RB HO_494003 hb; replace HO_504002 := RB HO_504002 hb; replace HO_504003 := RB HO_504003 hb; replace BK465 := KB BK465 hb; replace BK484 := KB BK484 hb; replace BK493 := KB BK493 hb; replace BK503 := KB BK503 hb; replace HB := BS hb; (try clear hb); (try clear hb2); (try clear hk); (try clear hi)))
           go_ret
           exact ⟨TE, TB⟩
     ·replace c62 := Bool.eq_false_iff.mpr c62
      subst c62
      replace H := iff' H
      obtain rfl := Option.some.inj H
      try go_wp2
      replace HO_485002 := Aside0.mk (Kd.R_drew HO_485002.out)
      replace HO_485003 := Aside0.mk (Kd.R_drew HO_485003.out)
      replace HO_494002 := Aside0.mk (Kd.R_drew HO_494002.out)
      replace HO_494003 := Aside0.mk (Kd.R_drew HO_494003.out)
      replace HO_504002 := Aside0.mk (Kd.R_drew HO_504002.out)
      replace HO_504003 := Aside0.mk (Kd.R_drew HO_504003.out)
      replace BK465 := Aside0.mk (blk_drew BK465.out)
      replace BK484 := Aside0.mk (blk_drew BK484.out)
      replace BK493 := Aside0.mk (blk_drew BK493.out)
      replace BK503 := Aside0.mk (blk_drew BK503.out)
      replace HB := Aside0.mk (below_drew1 HB.out)
      refine start_ (n := 5) (S := fun w' => w'.cell? ⟨gb493, 0, none⟩ = some (.int .i64 t485) ∧ w'.cell? ⟨gb493, 1, none⟩ = some (.int .i64 t486) ∧ w'.cell? ⟨gb493, 2, none⟩ = some (.slice Ao31 t487.length co31) ∧ w'.cell? ⟨gb493, 3, none⟩ = some (.slice Ao32 t490.length co32) ∧ w'.cell? ⟨gb465, 0, none⟩ = some (.int .i64 a0_0) ∧ w'.cell? ⟨gb465, 1, none⟩ = some (.int .i64 a0_1) ∧ w'.cell? ⟨gb465, 2, none⟩ = some (.slice A0_2 l0_2.length c0_2) ∧ w'.cell? ⟨gb465, 3, none⟩ = some (.slice A0_3 l0_3.length c0_3)) (ds := []) #[false, false, false, false, false] KR rfl rfl ⟨bc 0 BK493, bc 1 BK493, bc 2 BK493, bc 3 BK493, bc 0 BK465, bc 1 BK465, bc 2 BK465, bc 3 BK465⟩ (fun hHeld => ?_)
      generalize wc.drew = w182 at HO_485002 HO_485003 HO_494002 HO_494003 HO_504002 HO_504003 BK465 BK484 BK493 BK503 HB hHeld ⊢
      refine take_ (i := 0) (N := some 41) (v := ?_) (a' := ?_) #[true, false, false, false, false] rfl rfl KR (fun _ _ _ h => h) (Or.inl ⟨by rfl, ?_⟩) hHeld ?_ ?_
      rotate_left
      ·rintro w' ⟨s0, s1, s2, s3, s4, s5, s6, s7⟩
       go_simp
       with_reducible rfl
      rotate_left
      ·simp only [Act.put, List.setIfInBounds_toArray, List.set_cons_zero, List.set_cons_succ, i64_w, i32_w]
       rfl
      refine take_ (i := 1) (N := some 42) (v := ?_) (a' := ?_) #[true, true, false, false, false] rfl rfl KR (fun _ _ _ h => h) (Or.inl ⟨by rfl, ?_⟩) hHeld ?_ ?_
      rotate_left
      ·rintro w' ⟨s0, s1, s2, s3, s4, s5, s6, s7⟩
       go_simp
       with_reducible rfl
      rotate_left
      ·simp only [Act.put, List.setIfInBounds_toArray, List.set_cons_zero, List.set_cons_succ, i64_w, i32_w]
       rfl
      refine one_ (i := 2) (N := some 43) (mL 5 7) rfl rfl KR (by decide) (fun K hK => ?_)
      refine goes_ Tryz.func17 KR rfl #[.agg #[.int .i64 a0_0, .int .i64 a0_1, .slice A0_2 l0_2.length c0_2, .slice A0_3 l0_3.length c0_3]] (by rfl) rfl rfl TA ?_
      with_reducible refine (laws_toDiff.calls kj10 a0_0 a0_1 _ _ l0_2 _ _ l0_3 t505 t506 t507 t510 _ ?side1 ?side2 ?side3 ?side4 A60.out).mono ?_
      (case side1 => exact CW ((Kd.C_below HR0_2.out HB.out)))
      (case side2 => exact HC0_2.out)
      (case side3 => exact CW ((Kd.C_below HR0_3.out HB.out)))
      (case side4 => exact HC0_3.out)
      rintro e w183 ⟨v508, v511, rfl, ho0, ho1, hb⟩
      refine ⟨_, rfl, ?_⟩
      have HO509 := Aside0.mk (Kd.R_lower (Kd.R_new' (Kd.R_new' (Kd.R_new' (Kd.R_new' (Kd.R_new' (Kd.R_new' ho0 (Kd.R_lt (RW HO_485002).out)) (Kd.R_lt (RW HO_485003).out)) (Kd.R_lt (RW HO_494002).out)) (Kd.R_lt (RW HO_494003).out)) (Kd.R_lt (RW HO_504002).out)) (Kd.R_lt (RW HO_504003).out)) (below_size TB))
      have HO512 := Aside0.mk (Kd.R_lower (Kd.R_new' (Kd.R_new' (Kd.R_new' (Kd.R_new' (Kd.R_new' (Kd.R_new' ho1 (Kd.R_lt (RW HO_485002).out)) (Kd.R_lt (RW HO_485003).out)) (Kd.R_lt (RW HO_494002).out)) (Kd.R_lt (RW HO_494003).out)) (Kd.R_lt (RW HO_504002).out)) (Kd.R_lt (RW HO_504003).out)) (below_size TB))
      replace HO_485002 := Aside0.mk (Kd.R_mono (Kd.R_told (Kd.R_told (Kd.R_old (RW HO_485002).out hb) (Kd.R_base ho0)) (Kd.R_base ho1)) (fun _ h_ => h_.1))
      replace HO_485003 := Aside0.mk (Kd.R_mono (Kd.R_told (Kd.R_told (Kd.R_old (RW HO_485003).out hb) (Kd.R_base ho0)) (Kd.R_base ho1)) (fun _ h_ => h_.1))
      replace HO_494002 := Aside0.mk (Kd.R_mono (Kd.R_told (Kd.R_told (Kd.R_old (RW HO_494002).out hb) (Kd.R_base ho0)) (Kd.R_base ho1)) (fun _ h_ => h_.1))
      replace HO_494003 := Aside0.mk (Kd.R_mono (Kd.R_told (Kd.R_told (Kd.R_old (RW HO_494003).out hb) (Kd.R_base ho0)) (Kd.R_base ho1)) (fun _ h_ => h_.1))
      replace HO_504002 := Aside0.mk (Kd.R_mono (Kd.R_told (Kd.R_told (Kd.R_old (RW HO_504002).out hb) (Kd.R_base ho0)) (Kd.R_base ho1)) (fun _ h_ => h_.1))
      replace HO_504003 := Aside0.mk (Kd.R_mono (Kd.R_told (Kd.R_told (Kd.R_old (RW HO_504003).out hb) (Kd.R_base ho0)) (Kd.R_base ho1)) (fun _ h_ => h_.1))
      replace BK465 := KB BK465 hb
      replace BK484 := KB BK484 hb
      replace BK493 := KB BK493 hb
      replace BK503 := KB BK503 hb
      replace HB := BS hb
      (try clear hb)
      (try clear hb2)
      (try clear hk)
      (try clear hi)
      (try clear ho0)
      (try clear ho1)
      obtain ⟨Ao184, co184, eo184⟩ := Kd.R_slice HO509.out
      (first | subst eo184 | (injection eo184 with f1_ f2_ f3_; have f4_ := f1_.symm; have f5_ := f3_.symm; clear f1_ f2_ f3_; subst f4_; subst f5_))
      obtain ⟨Ao185, co185, eo185⟩ := Kd.R_slice HO512.out
      (first | subst eo185 | (injection eo185 with f1_ f2_ f3_; have f4_ := f1_.symm; have f5_ := f3_.symm; clear f1_ f2_ f3_; subst f4_; subst f5_))
      refine hK.out _ _ ⟨bc 0 BK493, bc 1 BK493, bc 2 BK493, bc 3 BK493, bc 0 BK465, bc 1 BK465, bc 2 BK465, bc 3 BK465⟩ (fun hHeld => ?_)
      clear hK K
      refine nA ?_
      refine one_ (i := 3) (N := some 44) (mL 5 15) rfl rfl KR (by decide) (fun K hK => ?_)
      refine goes_ Tryz.func19 KR rfl #[.agg #[.int .i64 t485, .int .i64 t486, .slice Ao31 t487.length co31, .slice Ao32 t490.length co32], .agg #[.int .i64 t505, .int .i64 t506, .slice Ao184 t507.length co184, .slice Ao185 t510.length co185]] (by rfl) rfl rfl TA ?_
      with_reducible refine (laws_eqDiff.calls kj10 t485 t486 _ _ t487 _ _ t490 t505 t506 _ _ t507 _ _ t510 false _ ?side1 ?side2 ?side3 ?side4 ?side5 ?side6 ?side7 ?side8 A61.out).mono ?_
      (case side1 => exact CW ((Kd.R_reads' HO_494002.out).2.2))
      (case side2 => exact (Kd.R_reads' HO_494002.out).2.1)
      (case side3 => exact CW ((Kd.R_reads' HO_494003.out).2.2))
      (case side4 => exact (Kd.R_reads' HO_494003.out).2.1)
      (case side5 => exact CW ((Kd.R_reads' HO509.out).2.2))
      (case side6 => exact (Kd.R_reads' HO509.out).2.1)
      (case side7 => exact CW ((Kd.R_reads' HO512.out).2.2))
      (case side8 => exact (Kd.R_reads' HO512.out).2.1)
      rintro e w186 ⟨rfl, hb⟩
      refine ⟨_, rfl, ?_⟩
      replace HO_485002 := RB HO_485002 hb
      replace HO_485003 := RB HO_485003 hb
      replace HO_494002 := RB HO_494002 hb
      replace HO_494003 := RB HO_494003 hb
      replace HO_504002 := RB HO_504002 hb
      replace HO_504003 := RB HO_504003 hb
      replace HO509 := RB HO509 hb
      replace HO512 := RB HO512 hb
      replace BK465 := KB BK465 hb
      replace BK484 := KB BK484 hb
      replace BK493 := KB BK493 hb
      replace BK503 := KB BK503 hb
      replace HB := BS hb
      (try clear hb)
      (try clear hb2)
      (try clear hk)
      (try clear hi)
      refine hK.out _ _ ⟨bc 0 BK493, bc 1 BK493, bc 2 BK493, bc 3 BK493, bc 0 BK465, bc 1 BK465, bc 2 BK465, bc 3 BK465⟩ (fun hHeld => ?_)
      clear hK K
      refine nA ?_
      refine pure_ (i := 4) (N := some 45) (v := ?_) (a' := ?_) #[true, true, true, true, true] rfl rfl KR (fun _ _ _ h => h) (Or.inl ⟨by rfl, ?_⟩) ?_ ?_
      rotate_left
      ·intro w'
       go_simp
       with_reducible rfl
      rotate_left
      ·simp only [Act.put, List.setIfInBounds_toArray, List.set_cons_zero, List.set_cons_succ, i64_w, i32_w]
       rfl
      refine done_ KR ?_
      try go_wp2
      go_ret
      exact ⟨TE, TB⟩

/-- THE ONE PURE STATEMENT of laws_FnExactBackDiff. -/
def laws_FnExactBackDiff.Pure : Prop := ∀ (a0_0 : Int) (a0_1 : Int) (l0_2 : List (S_LRecord)) (l0_3 : List (S_LRecord)), ((Lit.int .i64 a0_0).wf = true) → ((Lit.int .i64 a0_1).wf = true) → (l0_2.length ≤ maxLen ∧ ∀ x_ ∈ l0_2, WF_LRecord x_) → (l0_3.length ≤ maxLen ∧ ∀ x_ ∈ l0_3, WF_LRecord x_) → ∃ k, laws_FnExactBackDiff.f k a0_0 a0_1 l0_2 l0_3 = some true
end
end Go.Proofs.YthohohfmdieohaaGreatDoor.Pp
