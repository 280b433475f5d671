/- The functions that the law reaches, one Lean function and its proof for each; written by wip/pp of this workplace, joined by claimit.py. -/
import Derived.Test.YtioeomjjfajldaaProg
import Derived.Below
import Derived.Deep.Draws
import Derived.Deep.AppendLies
import Derived.Maps.AppendAt
import Derived.OwnWalk
import Derived.Laws.BytesArg
import Derived.Laws.MakeOwn
import Derived.Laws.OwnMore
import Derived.Deep.OwnRows
import Derived.Tactics
import Derived.Lib.ConvBytes
import Derived.Laws.Slices
import Derived.WalkKit
import Derived.KernelRfl
import Derived.RowKit3
import Derived.Deep.LoopGhost
import Derived.Deep.QuietTactic
import Derived.BigQuiet
import Derived.WideLaws
import Derived.Deep.DeepCutAuto
import Derived.Deep.CutBlock
import Derived.Deep.RegionHeld3
import Derived.Laws.Rows
import Derived.Lib.AppendStr
import Derived.ArgAppend
import Derived.Laws.IdiomCopy
import Derived.OrdersHeld
import Derived.Laws.BitsLemmas
import Derived.RowKit
import Derived.Test.YtioeomjjfajldaaXWords
import Derived.Test.YtioeomjjfajldaaXSq
import Derived.Test.YtioeomjjfajldaaWWords
import Derived.Test.YtioeomjjfajldaaWLast
import Derived.Test.YtioeomjjfajldaaWTab
import Derived.Test.YtioeomjjfajldaaWFour
import Derived.Test.YtioeomjjfajldaaWQPut
import Derived.Test.YtioeomjjfajldaaWApart
import Derived.Test.YtioeomjjfajldaaWArr
import Derived.Test.YtioeomjjfajldaaWZeros
import Derived.Test.YtioeomjjfajldaaWFoot
import Derived.Test.YtioeomjjfajldaaWKept
import Derived.Test.YtioeomjjfajldaaWShare
import Derived.Test.YtioeomjjfajldaaWN
import Derived.Test.YtioeomjjfajldaaWFootNe
import Derived.Test.YtioeomjjfajldaaWAt
import Derived.Test.YtioeomjjfajldaaWEqStruct
import Derived.Test.YtioeomjjfajldaaWRepsOne
import Derived.Test.YtioeomjjfajldaaWInv
import Derived.Test.YtioeomjjfajldaaWInvWords
import Derived.Test.YtioeomjjfajldaaWGuard
import Derived.Test.YtioeomjjfajldaaWNEv
import Derived.Test.YtioeomjjfajldaaWMore
import Derived.Test.YtioeomjjfajldaaJFnAlias0
namespace Go.Proofs.Ytioeomjjfajldaa.Pp
open Go.RowKit Go.Proofs.YtioeomjjfajldaaW.PrintWords Go.Proofs.YtioeomjjfajldaaW.PrintLast Go.Proofs.YtioeomjjfajldaaW.PrintMore
attribute [local go_sem] max2_int min2_int max_two min_two max_three min_three max_four min_four   -- for this text's walks alone
set_option linter.unusedVariables false
set_option linter.unusedSimpArgs false
set_option maxHeartbeats 8000000
set_option maxRecDepth 100000

section
/-! ### spec_l1Cur_columns: function 80 -/
def spec_l1Cur_columns.j0 : Nat → List (S_Column) → Int → List Int → Int → Int → Option ((List (S_Column)) × Int × Int × Int)
 | 0, _, _, _, _, _ => none
 | k + 1, x5, x7, x1000, x1001, x1002 => (spec_l1Cur_one.f x1000 x1001 x1002 20).bind fun bt286 => (if bt286.1 = true then ((spec_l1Cur_pick.f x1000 bt286.2.1 bt286.2.2 3).bind fun bt289 => (some (x5, wrap64 (x7 + (wrap64 (bt289.1 - 1))), bt289.2.1, bt289.2.2))) else (some (x5, x7, bt286.2.1, bt286.2.2)))
def spec_l1Cur_columns.f (k : Nat) (s0_0 : List Int) (s0_1 : Int) (s0_2 : Int) : Option ((List (S_Column)) × Int × Int × Int) := (spec_l1Cur_weights.f k s0_0 s0_1 s0_2).bind fun bt258 => ((spec_AliasOf.f k bt258.1).bind fun bt263 => ((spec_l12Total.f k bt258.1).bind fun t267 => (if bt263.2 = true then ((spec_l1Cur_one.f s0_0 bt258.2.1 bt258.2.2 12).bind fun bt271 => (if bt271.1 = true then ((spec_l1Cur_pick.f s0_0 bt271.2.1 bt271.2.2 (bt263.1.length : Int)).bind fun bt274 => (if 0 ≤ bt274.1 then (if bt274.1 < (bt263.1.length : Int) then ((spec_l1Cur_pick.f s0_0 bt274.2.1 bt274.2.2 3).bind fun bt278 => ((some (bt263.1.set (bt274.1 : Int).toNat (⟨wrap64 (((rd_TColumn bt263.1 bt274.1).f0) + (wrap64 (bt278.1 - 1))), (rd_TColumn bt263.1 bt274.1).f1⟩ : S_Column) : List (S_Column))).bind fun y281 => ((spec_l1Cur_pick.f s0_0 bt278.2.1 bt278.2.2 (wrap64 ((bt263.1.length : Int) + 1))).bind fun bt282 => (spec_l1Cur_columns.j0 k (y281.set (bt274.1 : Int).toNat (⟨(rd_TColumn y281 bt274.1).f0, bt282.1⟩ : S_Column)) t267 s0_0 bt282.2.1 bt282.2.2)))) else (none)) else (none))) else (spec_l1Cur_columns.j0 k bt263.1 t267 s0_0 bt271.2.1 bt271.2.2))) else (some ((([(⟨3, 0⟩ : S_Column)] : List (S_Column))), 5, bt258.2.1, bt258.2.2)))))
def spec_l1Cur_columns.T8 : Bool × List (List Nat × List Nat) := (true, [([], []), ([], []), ([0, 1], [0, 1]), ([2], [2]), ([3], [3]), ([], []), ([5], [5]), ([6], [6]), ([4, 7], [4, 7]), ([0, 1, 0, 1, 2, 3, 4, 5, 6, 7, 8], [0, 1]), ([9, 0, 1, 2, 3, 4, 5, 6, 7, 8], [9]), ([10, 8, 6, 0, 1, 2, 3, 4, 5, 6, 7, 8], [8, 10])])
def spec_l1Cur_columns.B8 : List Nat := [0, 0, 3, 7, 15, 0, 32, 96, 255, 511, 1023, 2047]
theorem spec_l1Cur_columns.tab8 : rtab .any (opsOf Try.f80 8) = spec_l1Cur_columns.T8 := by kernel_rfl
theorem spec_l1Cur_columns.bits8 : waitsOk spec_l1Cur_columns.T8.2 spec_l1Cur_columns.B8 = true := by kernel_rfl
theorem spec_l1Cur_columns.calls (k : Nat) (g : Nat) (s0_0 : List Int) (s0_1 : Int) (s0_2 : Int) (r1 : List (S_Column)) (r2 : Int) (r3 : Int) (r4 : Int) (w0 w : World) (hI : IsSPl1Cur w0 w g s0_0 s0_1 s0_2) (hB : Below w0.heap.size w0 w) (h : spec_l1Cur_columns.f k s0_0 s0_1 s0_2 = some (r1, r2, r3, r4)) :
  Calls Try.prog 80 #[.pointer (some ⟨g, 0, none⟩)] w fun e w' => ∃ v0_ : Value, e = .returned (.tuple #[v0_, .int .i64 r2]) ∧ Kd.R k_Column 65 w' w.heap.size (fun _ => True) v0_ r1 ∧ IsSPl1Cur w0 w' g s0_0 r3 r4 ∧ Below w0.heap.size w0 w' ∧ KeepBut w w' g none := by
 have hu65 := Try.underlying65
 have HI0 := Aside0.mk hI
 have HK := Aside0.mk (KeepBut.refl w g none)
 have HL := Aside0.mk hB.size
 clear hI
 have HW0 := Aside0.mk hB.size
 have HB := Aside0.mk hB
 clear hB
 have H : ((spec_l1Cur_weights.f k s0_0 s0_1 s0_2).bind fun bt258 => ((spec_AliasOf.f k bt258.1).bind fun bt263 => ((spec_l12Total.f k bt258.1).bind fun t267 => (if bt263.2 = true then ((spec_l1Cur_one.f s0_0 bt258.2.1 bt258.2.2 12).bind fun bt271 => (if bt271.1 = true then ((spec_l1Cur_pick.f s0_0 bt271.2.1 bt271.2.2 (bt263.1.length : Int)).bind fun bt274 => (if 0 ≤ bt274.1 then (if bt274.1 < (bt263.1.length : Int) then ((spec_l1Cur_pick.f s0_0 bt274.2.1 bt274.2.2 3).bind fun bt278 => ((some (bt263.1.set (bt274.1 : Int).toNat (⟨wrap64 (((rd_TColumn bt263.1 bt274.1).f0) + (wrap64 (bt278.1 - 1))), (rd_TColumn bt263.1 bt274.1).f1⟩ : S_Column) : List (S_Column))).bind fun y281 => ((spec_l1Cur_pick.f s0_0 bt278.2.1 bt278.2.2 (wrap64 ((bt263.1.length : Int) + 1))).bind fun bt282 => (spec_l1Cur_columns.j0 k (y281.set (bt274.1 : Int).toNat (⟨(rd_TColumn y281 bt274.1).f0, bt282.1⟩ : S_Column)) t267 s0_0 bt282.2.1 bt282.2.2)))) else (none)) else (none))) else (spec_l1Cur_columns.j0 k bt263.1 t267 s0_0 bt271.2.1 bt271.2.2))) else (some ((([(⟨3, 0⟩ : S_Column)] : List (S_Column))), 5, bt258.2.1, bt258.2.2)))))) = some (r1, r2, r3, r4) := h
 clear h
 obtain ⟨⟨t258, t261, t262⟩, A2, H⟩ := bnd H
 try dsimp only at H
 obtain ⟨⟨t263, t264⟩, A3, H⟩ := bnd H
 try dsimp only at H
 obtain ⟨t267, A4, H⟩ := bnd H
 by_cases c5 : t264 = true
 ·subst c5
  replace H := ift H
  obtain ⟨⟨t271, t272, t273⟩, A6, H⟩ := bnd H
  try dsimp only at H
  have HC7 := Aside0.mk H
  clear H
  go_enter Try.func80, Try.ntmps80
  go_upto_if 23 with (first | ((with_reducible refine gate_callee (f := 76) rfl ?_); refine goesL_ (some 10) rfl rfl Try.func76 KR rfl #[.pointer (some ⟨g, 0, none⟩)] rfl TA ?_; (with_reducible refine (spec_l1Cur_weights.calls k g s0_0 s0_1 s0_2 t258 t261 t262 w0 _ ?side1 ?side2 A2.out).mono ?_); (case side1 => repeat (first | (with_reducible first | exact HI0.out | apply IsSPl1Cur.alloc | apply IsSPl1Cur.drewN | apply IsSPl1Cur.drew | apply IsSPl1Cur.set_1 | apply IsSPl1Cur.set_2) | exact HI0.out)); (case side2 => repeat (first | (with_reducible first | exact HB.out | apply below_alloc | apply pw_below_drewN | apply below_drew1 | refine below_set ?_ (IsSPl1Cur.ge HI0.out)) | exact HB.out)); rintro e w8 ⟨v259, rfl, ho0, hi, hb, hk⟩; refine ⟨_, rfl, ?_⟩; have HO260 := Aside0.mk (Kd.R_lower ho0 (keep_size (w := w) (g := g) (row := none) (by repeat (first | (with_reducible first | exact HK.out | apply KeepBut.set_ | apply keep_drewN | apply keep_drew | apply keep_alloc) | exact HK.out)))); replace HK := Aside0.mk (KeepBut.trans (by repeat (first | (with_reducible first | exact HK.out | apply KeepBut.set_ | apply keep_drewN | apply keep_drew | apply keep_alloc) | exact HK.out)) hk (.inl rfl)); replace HB := Aside0.mk (hb); replace HI0 := Aside0.mk (hi); clear hb hk hi; (try clear ho0); obtain ⟨Ao9, co9, eo9⟩ := Kd.R_slice HO260.out; subst eo9) | ((with_reducible refine gate_callee (f := 42) rfl ?_); refine goesL_ (some 13) rfl rfl Try.func42 KR rfl #[.slice Ao9 t258.length co9] rfl TA ?_; (with_reducible refine (spec_AliasOf.calls k _ _ t258 t263 true _ ?side1 ?side2 A3.out).mono ?_); (case side1 => exact CW ((Kd.R_reads' HO260.out).2.2)); (case side2 => exact RI HO260); rintro e w10 ⟨v265, rfl, ho0, hb⟩; refine ⟨_, rfl, ?_⟩; replace HO260 := RB HO260 hb; have HO266 := Aside0.mk (Kd.R_lower ho0 (keep_size (w := w) (g := g) (row := none) (by repeat (first | (with_reducible first | exact HK.out | apply KeepBut.set_ | apply keep_drewN | apply keep_drew | apply keep_alloc) | exact HK.out)))); replace HK := Aside0.mk (KeepBut.trans (by repeat (first | (with_reducible first | exact HK.out | apply KeepBut.set_ | apply keep_drewN | apply keep_drew | apply keep_alloc) | exact HK.out)) (KeepBut.of_below hb g none) (.inl rfl)); replace HB := Aside0.mk (below_step (by repeat (first | (with_reducible first | exact HB.out | apply below_alloc | apply pw_below_drewN | apply below_drew1 | refine below_set ?_ (IsSPl1Cur.ge HI0.out)) | exact HB.out)) hb); replace HI0 := Aside0.mk (IsSPl1Cur.below (by repeat (first | (with_reducible first | exact HI0.out | apply IsSPl1Cur.alloc | apply IsSPl1Cur.drewN | apply IsSPl1Cur.drew | apply IsSPl1Cur.set_1 | apply IsSPl1Cur.set_2) | exact HI0.out)) hb); clear hb; (try clear ho0)) | ((with_reducible refine gate_callee (f := 74) rfl ?_); refine goesL_ (some 17) rfl rfl Try.func74 KR rfl #[.slice Ao9 t258.length co9] rfl TA ?_; (with_reducible refine (spec_l12Total.calls k _ _ t258 t267 _ ?side1 ?side2 A4.out).mono ?_); (case side1 => exact CW ((Kd.R_reads' HO260.out).2.2)); (case side2 => exact RI HO260); rintro e w' ⟨rfl, ⟨nd, rfl⟩⟩; refine ⟨_, rfl, ?_⟩) | ((with_reducible refine gate_callee (f := 89) rfl ?_); refine goesL_ (some 23) rfl rfl Try.func89 KR rfl #[.pointer (some ⟨g, 0, none⟩), .int .i64 12] rfl TA ?_; (with_reducible refine (spec_l1Cur_one.calls g s0_0 t261 t262 12 t271 t272 t273 w0 _ ?side1 ?side2 A6.out).mono ?_); (case side1 => repeat (first | (with_reducible first | exact HI0.out | apply IsSPl1Cur.alloc | apply IsSPl1Cur.drewN | apply IsSPl1Cur.drew | apply IsSPl1Cur.set_1 | apply IsSPl1Cur.set_2) | exact HI0.out)); (case side2 => repeat (first | (with_reducible first | exact HB.out | apply below_alloc | apply pw_below_drewN | apply below_drew1 | refine below_set ?_ (IsSPl1Cur.ge HI0.out)) | exact HB.out)); rintro e w11 ⟨rfl, hi, hb, hk⟩; refine ⟨_, rfl, ?_⟩; replace HO260 := Aside0.mk (Kd.R_mono (Kd.R_keep (IsSPl1Cur.apart (show IsSPl1Cur w0 _ g s0_0 t261 t262 from by repeat (first | (with_reducible first | exact HI0.out | apply IsSPl1Cur.alloc | apply IsSPl1Cur.drewN | apply IsSPl1Cur.drew | apply IsSPl1Cur.set_1 | apply IsSPl1Cur.set_2) | exact HI0.out)) (RW HO260).out (by decide)) hk (fun _ h => h.2)) (fun _ h => h.1)); replace HO266 := Aside0.mk (Kd.R_mono (Kd.R_keep (IsSPl1Cur.apart (show IsSPl1Cur w0 _ g s0_0 t261 t262 from by repeat (first | (with_reducible first | exact HI0.out | apply IsSPl1Cur.alloc | apply IsSPl1Cur.drewN | apply IsSPl1Cur.drew | apply IsSPl1Cur.set_1 | apply IsSPl1Cur.set_2) | exact HI0.out)) (RW HO266).out (by decide)) hk (fun _ h => h.2)) (fun _ h => h.1)); replace HK := Aside0.mk (KeepBut.trans (by repeat (first | (with_reducible first | exact HK.out | apply KeepBut.set_ | apply keep_drewN | apply keep_drew | apply keep_alloc) | exact HK.out)) hk (.inl rfl)); replace HB := Aside0.mk (hb); replace HI0 := Aside0.mk (hi); clear hb hk hi))
  (try simp only [Act.put, List.setIfInBounds_toArray, List.set_cons_zero, List.set_cons_succ])
  go_cut [] (fun wc => ∃ (kq : Nat) (x5_6 : List (S_Column)) (x1001_6 : Int) (x1002_6 : Int), Aside0 (spec_l1Cur_columns.j0 kq x5_6 t267 s0_0 x1001_6 x1002_6 = some (r1, r2, r3, r4)) ∧ Aside0 (kq ≤ k) ∧ Aside0 (Kd.R k_Column 65 wc w.heap.size (fun _ => True) v265 x5_6) ∧ Aside0 (IsSPl1Cur w0 wc g s0_0 x1001_6 x1002_6) ∧ Aside0 (KeepBut w wc g none) ∧ Aside0 (Below w0.heap.size w0 wc))
  case first =>
   have H := HC7.out
   clear HC7
   by_cases c12 : t271 = true
   ·subst c12
    replace H := ift H
    obtain ⟨⟨t274, t275, t276⟩, A13, H⟩ := bnd H
    try dsimp only at H
    obtain ⟨c14, H⟩ := ifn H
    have c14b0 : decide (0 ≤ t274) = true := decide_eq_true c14
    clear c14
    (first | rw [c14b0] | (simp only [i64_w, i32_w]; rw [c14b0]) | skip)
    obtain ⟨c15, H⟩ := ifn H
    have c15b0 : decide (t274 < (t263.length : Int)) = true := decide_eq_true c15
    clear c15
    obtain ⟨⟨t278, t279, t280⟩, A16, H⟩ := bnd H
    try dsimp only at H
    obtain ⟨y281, hy281⟩ : ∃ y_ : List (S_Column), y_ = (t263.set (t274 : Int).toNat (⟨wrap64 (((rd_TColumn t263 t274).f0) + (wrap64 (t278 - 1))), (rd_TColumn t263 t274).f1⟩ : S_Column)) := ⟨_, rfl⟩
    replace H : ((spec_l1Cur_pick.f s0_0 t279 t280 (wrap64 ((t263.length : Int) + 1))).bind fun bt282 => (spec_l1Cur_columns.j0 k (y281.set (t274 : Int).toNat (⟨(rd_TColumn y281 t274).f0, bt282.1⟩ : S_Column)) t267 s0_0 bt282.2.1 bt282.2.2)) = some (r1, r2, r3, r4) := by first | (rw [hy281]; with_reducible exact H) | (have H2_ := (Option.bind_some _ _).symm.trans H; rw [hy281]; with_reducible exact H2_) | (have H2_ := (Option.bind_some _ _).symm.trans H; with_reducible exact H2_) | with_reducible exact H | (rw [hy281]; exact H) | exact H
    have Ny281 := Aside0.mk hy281
    clear hy281
    obtain ⟨⟨t282, t283, t284⟩, A18, H⟩ := bnd H
    try dsimp only at H
    obtain ⟨y285, hy285⟩ : ∃ y_ : List (S_Column), y_ = (y281.set (t274 : Int).toNat (⟨(rd_TColumn y281 t274).f0, t282⟩ : S_Column)) := ⟨_, rfl⟩
    replace H : (spec_l1Cur_columns.j0 k y285 t267 s0_0 t283 t284) = some (r1, r2, r3, r4) := by first | (rw [hy285]; with_reducible exact H) | (have H2_ := (Option.bind_some _ _).symm.trans H; rw [hy285]; with_reducible exact H2_) | (have H2_ := (Option.bind_some _ _).symm.trans H; with_reducible exact H2_) | with_reducible exact H | (rw [hy285]; exact H) | exact H
    have Ny285 := Aside0.mk hy285
    clear hy285
    have H' := Aside0.mk H
    clear H
    obtain ⟨Ao20, co20, eo20⟩ := Kd.R_slice HO266.out
    subst eo20
    try go_wp2_with (first | ((with_reducible refine gate_callee (f := 81) rfl ?_); refine goesL_ (some 27) rfl rfl Try.func81 KR rfl #[.pointer (some ⟨g, 0, none⟩), .int .i64 (t263.length : Int)] rfl TA ?_; (with_reducible refine (spec_l1Cur_pick.calls g s0_0 t272 t273 (t263.length : Int) t274 t275 t276 w0 _ ?side1 ?side2 A13.out).mono ?_); (case side1 => repeat (first | (with_reducible first | exact HI0.out | apply IsSPl1Cur.alloc | apply IsSPl1Cur.drewN | apply IsSPl1Cur.drew | apply IsSPl1Cur.set_1 | apply IsSPl1Cur.set_2) | exact HI0.out)); (case side2 => repeat (first | (with_reducible first | exact HB.out | apply below_alloc | apply pw_below_drewN | apply below_drew1 | refine below_set ?_ (IsSPl1Cur.ge HI0.out)) | exact HB.out)); rintro e w21 ⟨rfl, hi, hb, hk⟩; refine ⟨_, rfl, ?_⟩; replace HO260 := Aside0.mk (Kd.R_mono (Kd.R_keep (IsSPl1Cur.apart (show IsSPl1Cur w0 _ g s0_0 t272 t273 from by repeat (first | (with_reducible first | exact HI0.out | apply IsSPl1Cur.alloc | apply IsSPl1Cur.drewN | apply IsSPl1Cur.drew | apply IsSPl1Cur.set_1 | apply IsSPl1Cur.set_2) | exact HI0.out)) (RW HO260).out (by decide)) hk (fun _ h => h.2)) (fun _ h => h.1)); replace HO266 := Aside0.mk (Kd.R_mono (Kd.R_keep (IsSPl1Cur.apart (show IsSPl1Cur w0 _ g s0_0 t272 t273 from by repeat (first | (with_reducible first | exact HI0.out | apply IsSPl1Cur.alloc | apply IsSPl1Cur.drewN | apply IsSPl1Cur.drew | apply IsSPl1Cur.set_1 | apply IsSPl1Cur.set_2) | exact HI0.out)) (RW HO266).out (by decide)) hk (fun _ h => h.2)) (fun _ h => h.1)); replace HK := Aside0.mk (KeepBut.trans (by repeat (first | (with_reducible first | exact HK.out | apply KeepBut.set_ | apply keep_drewN | apply keep_drew | apply keep_alloc) | exact HK.out)) hk (.inl rfl)); replace HB := Aside0.mk (hb); replace HI0 := Aside0.mk (hi); clear hb hk hi))
    replace HO260 := Aside0.mk (Kd.R_drew HO260.out)
    replace HO266 := Aside0.mk (Kd.R_drew HO266.out)
    replace HI0 := Aside0.mk (IsSPl1Cur.drew HI0.out)
    replace HK := Aside0.mk (keep_drew HK.out)
    replace HB := Aside0.mk (below_drew1 HB.out)
    have p277 : 0 ≤ (t274 : Int) := TD
    have q277 : t274 < (t263.length : Int) := TD
    obtain ⟨ad277, e277, hx277_0, hx277_1⟩ := at_TColumn (Kd.R_reads' HO266.out).2.2 t274 p277 q277
    cases e277
    replace p277 := eq_true p277
    replace q277 := eq_true q277
    refine start_ (n := 12) (S := fun w' => w'.cell? (ad277.add ((t274).toNat * 2)) = some (.int .i64 ((rd_TColumn t263 t274).f0)) ∧ w'.cell? ⟨(ad277.add ((t274).toNat * 2)).block, (ad277.add ((t274).toNat * 2)).off + 1, none⟩ = some (.int .i64 ((rd_TColumn t263 t274).f1))) (ds := [11]) #[false, false, false, false, false, false, false, false, false, false, false, false] KR rfl rfl ⟨hx277_0, hx277_1⟩ (fun hHeld => ?_); refine with_tabW spec_l1Cur_columns.tab8 spec_l1Cur_columns.bits8 (fun HT_ HW_ => ?_)
    generalize w21.drew = w22 at HO260 HO266 HI0 HK HB hx277_0 hx277_1 hHeld ⊢
    refine pA 0 28 (mL 12 1) HT_ rfl rfl ?_
    refine pA 1 29 (mL 12 3) HT_ rfl rfl ?_
    refine pA 2 30 (mL 12 7) HT_ rfl rfl ?_
    refine pA 3 31 (mL 12 15) HT_ rfl rfl ?_
    refine pA 5 33 (mL 12 47) HT_ rfl rfl ?_
    refine tA 4 32 (mL 12 63) HT_ HW_ hHeld rfl rfl (by rintro w' ⟨s0, s1⟩; go_simp; with_reducible rfl) ?_
    refine one_ (i := 6) (N := some 34) (mL 12 127) rfl rfl (one_of HT_.out KR) (by decide) (fun K hK => ?_)
    refine goes_ Try.func81 KR rfl #[.pointer (some ⟨g, 0, none⟩), .int .i64 3] (by rfl) rfl rfl TA ?_
    with_reducible refine (spec_l1Cur_pick.calls g s0_0 t275 t276 3 t278 t279 t280 w0 _ ?side1 ?side2 A16.out).mono ?_
    (case side1 => repeat (first | (with_reducible first | exact HI0.out | apply IsSPl1Cur.alloc | apply IsSPl1Cur.drewN | apply IsSPl1Cur.drew | apply IsSPl1Cur.set_1 | apply IsSPl1Cur.set_2) | exact HI0.out))
    (case side2 => repeat (first | (with_reducible first | exact HB.out | apply below_alloc | apply pw_below_drewN | apply below_drew1 | refine below_set ?_ (IsSPl1Cur.ge HI0.out)) | exact HB.out))
    rintro e w23 ⟨rfl, hi, hb, hk⟩
    have HS0_ := keep_cell hk (hHeld.1) (by first | (rw [add_block]; exact Kd.own_blk (IsSPl1Cur.own_ne HI0.out HO266.out (by decide))) | (show (Addr.add _ _).block ≠ _; rw [add_block]; exact Kd.own_blk (IsSPl1Cur.own_ne HI0.out HO266.out (by decide))) | exact Kd.own_blk (IsSPl1Cur.own_ne HI0.out HO266.out (by decide)))
    have HS1_ := keep_cell hk (hHeld.2) (by first | (rw [add_block]; exact Kd.own_blk (IsSPl1Cur.own_ne HI0.out HO266.out (by decide))) | (show (Addr.add _ _).block ≠ _; rw [add_block]; exact Kd.own_blk (IsSPl1Cur.own_ne HI0.out HO266.out (by decide))) | exact Kd.own_blk (IsSPl1Cur.own_ne HI0.out HO266.out (by decide)))
    refine ⟨_, rfl, ?_⟩
    replace HO260 := Aside0.mk (Kd.R_mono (Kd.R_keep (IsSPl1Cur.apart (show IsSPl1Cur w0 _ g s0_0 t275 t276 from by repeat (first | (with_reducible first | exact HI0.out | apply IsSPl1Cur.alloc | apply IsSPl1Cur.drewN | apply IsSPl1Cur.drew | apply IsSPl1Cur.set_1 | apply IsSPl1Cur.set_2) | exact HI0.out)) (RW HO260).out (by decide)) hk (fun _ h => h.2)) (fun _ h => h.1))
    replace HO266 := Aside0.mk (Kd.R_mono (Kd.R_keep (IsSPl1Cur.apart (show IsSPl1Cur w0 _ g s0_0 t275 t276 from by repeat (first | (with_reducible first | exact HI0.out | apply IsSPl1Cur.alloc | apply IsSPl1Cur.drewN | apply IsSPl1Cur.drew | apply IsSPl1Cur.set_1 | apply IsSPl1Cur.set_2) | exact HI0.out)) (RW HO266).out (by decide)) hk (fun _ h => h.2)) (fun _ h => h.1))
    replace HK := Aside0.mk (KeepBut.trans (by repeat (first | (with_reducible first | exact HK.out | apply KeepBut.set_ | apply keep_drewN | apply keep_drew | apply keep_alloc) | exact HK.out)) hk (.inl rfl))
    replace HB := Aside0.mk (hb)
    replace HI0 := Aside0.mk (hi)
    (try clear hb)
    (try clear hb2)
    (try clear hk)
    (try clear hi)
    have p17 : 0 ≤ (t274 : Int) := TD
    have q17 : (t274 : Int) < ((t263.length : Int) : Int) := TD
    obtain ⟨go17, co17, eo17, gb17, gl17, cl17, HG17⟩ := Kd.R_form HO266.out (by omega)
    (first | cases eo17 | (injection eo17 with ea_ en_ ec_; (first | subst ea_ | (injection ea_ with ea_; subst ea_)); subst ec_; clear en_))
    have GB17 := Aside0.mk gb17
    have GG17 := Aside0.mk HG17
    clear gb17 gl17 HG17
    (first | simp only [add_plain] at hx277_0 | skip)
    (first | simp only [add_plain] at hx277_1 | skip)
    obtain ⟨ce17, hcl17, hM17, hcc17, hfr17⟩ := Kd.R_elem HO266.out z_Column (t274 : Int) p17 q17
    obtain rfl := k_Column_openM hM17
    have hx17_0 : World.cell? _ ⟨go17, (t274 : Int).toNat * 2, none⟩ = some (.int .i64 ((rd_TColumn t263 t274).f0)) := hcc17 0 _ rfl
    have hx17_1 : World.cell? _ ⟨go17, (t274 : Int).toNat * 2 + 1, none⟩ = some (.int .i64 ((rd_TColumn t263 t274).f1)) := hcc17 1 _ rfl
    have hf17_0 : World.frozen? _ ⟨go17, (t274 : Int).toNat * 2, none⟩ = false := hfr17 0
    have hf17_1 : World.frozen? _ ⟨go17, (t274 : Int).toNat * 2 + 1, none⟩ = false := hfr17 1
    clear hcl17 hcc17 hfr17 hM17
    replace p17 := eq_true p17
    replace q17 := eq_true q17
    have HN0_go17 := Aside0.mk (show g ≠ go17 from by have h_ := IsSPl1Cur.own_ne HI0.out HO266.out (by decide); intro e_; exact h_ (by rw [e_]; rfl))
    obtain ⟨ce24, hcl24, hM24, hcc24, hfr24⟩ := Kd.R_elem HO266.out z_Column (t274 : Int) TD (by have h_ : (t274 : Int) < ((t263.length : Int) : Int) := TD; first | exact h_ | (have e_ := (Kd.R_reads' HO266.out).1; omega) | simpa using h_)
    obtain rfl := k_Column_openM hM24
    have HP24 := (Kd.R_seg HO266.out (t274 : Int) TD (by have h_ : (t274 : Int) < ((t263.length : Int) : Int) := TD; first | exact h_ | (have e_ := (Kd.R_reads' HO266.out).1; omega) | simpa using h_) (seg := [.int .i64 (wrap64 (((rd_TColumn t263 t274).f0) + (wrap64 (t278 - 1))))]) (j := 0) hcl24 hcc24 (show 1 ≤ 2 from by decide) (x' := (⟨wrap64 (((rd_TColumn t263 t274).f0) + (wrap64 (t278 - 1))), (rd_TColumn t263 t274).f1⟩ : S_Column)) (k_Column_mkM _ _ _ (⟨wrap64 (((rd_TColumn t263 t274).f0) + (wrap64 (t278 - 1))), (rd_TColumn t263 t274).f1⟩ : S_Column) ) (fun _ hk => hk)).1
    rw [← Ny281.out] at HP24
    have HQ24 := Aside0.mk HP24
    clear hcl24 hcc24 hfr24 hM24 HP24
    refine hK.out _ _ ⟨HS0_, HS1_⟩ (fun hHeld => ?_)
    clear hK K
    refine nA ?_
    refine pA 7 35 (mL 12 255) HT_ rfl rfl ?_
    refine pA 8 36 (mL 12 511) HT_ rfl rfl ?_
    refine pA 9 37 (mL 12 1023) HT_ rfl rfl ?_
    refine pA 10 38 (mL 12 2047) HT_ rfl rfl ?_
    refine last_ (i := 11) (N := none) (mL 12 4095) rfl rfl (one_of HT_.out KR) (by decide) (fun K hK => ?_)
    refine skip_ (w1 := ?_) (by rfl) rfl ?_ ?_
    rotate_left
    ·go_simp
     rfl
    refine hK.out _ _ ?_
    clear hK K
    refine done_ (done_of HT_.out KR) ?_
    try go_wp2_with (first | ((with_reducible refine gate_callee (f := 81) rfl ?_); refine goesL_ (some 45) rfl rfl Try.func81 KR rfl #[.pointer (some ⟨g, 0, none⟩), .int .i64 (wrap64 ((t263.length : Int) + 1))] rfl TA ?_; (with_reducible refine (spec_l1Cur_pick.calls g s0_0 t279 t280 (wrap64 ((t263.length : Int) + 1)) t282 t283 t284 w0 _ ?side1 ?side2 A18.out).mono ?_); (case side1 => repeat (first | (with_reducible first | exact HI0.out | apply IsSPl1Cur.alloc | apply IsSPl1Cur.drewN | apply IsSPl1Cur.drew | apply IsSPl1Cur.set_1 | apply IsSPl1Cur.set_2 | refine IsSPl1Cur.far ?_ HN0_go17.out _) | exact HI0.out)); (case side2 => repeat (first | (with_reducible first | exact HB.out | apply below_alloc | apply pw_below_drewN | apply below_drew1 | refine below_set ?_ (Nat.le_trans HL.out GB17.out) | refine below_set ?_ (IsSPl1Cur.ge HI0.out)) | exact HB.out)); rintro e w25 ⟨rfl, hi, hb, hk⟩; refine ⟨_, rfl, ?_⟩; replace HO260 := Aside0.mk (Kd.R_mono (Kd.R_keep (IsSPl1Cur.apart (show IsSPl1Cur w0 _ g s0_0 t279 t280 from by repeat (first | (with_reducible first | exact HI0.out | apply IsSPl1Cur.alloc | apply IsSPl1Cur.drewN | apply IsSPl1Cur.drew | apply IsSPl1Cur.set_1 | apply IsSPl1Cur.set_2 | refine IsSPl1Cur.far ?_ HN0_go17.out _) | exact HI0.out)) (by (with_reducible repeat (first | apply Kd.R_alloc | apply Kd.R_drewN | apply Kd.R_drew)); exact (Kd.R_mono (Kd.R_far (p := ⟨go17, (t274 : Int).toNat * 2, none⟩) (Kd.R_types HO260.out GG17.out (by decide)) (fun _ hk => hk.2) (.int .i64 (wrap64 (((rd_TColumn t263 t274).f0) + (wrap64 (t278 - 1)))))) (fun _ h_ => h_.1))) (by decide)) hk (fun _ h => h.2)) (fun _ h => h.1)); replace HO266 := Aside0.mk (Kd.R_mono (Kd.R_keep (IsSPl1Cur.apart (show IsSPl1Cur w0 _ g s0_0 t279 t280 from by repeat (first | (with_reducible first | exact HI0.out | apply IsSPl1Cur.alloc | apply IsSPl1Cur.drewN | apply IsSPl1Cur.drew | apply IsSPl1Cur.set_1 | apply IsSPl1Cur.set_2 | refine IsSPl1Cur.far ?_ HN0_go17.out _) | exact HI0.out)) (RW HQ24).out (by decide)) hk (fun _ h => h.2)) (fun _ h => h.1)); replace HK := Aside0.mk (KeepBut.trans (by repeat (first | (with_reducible first | exact HK.out | apply KeepBut.set_ | apply keep_drewN | apply keep_drew | apply keep_alloc | refine keep_far ?_ GB17.out _) | exact HK.out)) hk (.inl rfl)); replace HB := Aside0.mk (hb); replace HI0 := Aside0.mk (hi); clear hb hk hi; have p19 : 0 ≤ (t274 : Int) := TD; have q19 : (t274 : Int) < ((t263.length : Int) : Int) := TD; obtain ⟨ce19, hcl19, hM19, hcc19, hfr19⟩ := Kd.R_elem HO266.out z_Column (t274 : Int) p19 q19; obtain rfl := k_Column_openM hM19; have hx19_0 : w25.cell? ⟨go17, (t274 : Int).toNat * 2, none⟩ = some (.int .i64 ((rd_TColumn y281 t274).f0)) := hcc19 0 _ rfl; have hx19_1 : w25.cell? ⟨go17, (t274 : Int).toNat * 2 + 1, none⟩ = some (.int .i64 ((rd_TColumn y281 t274).f1)) := hcc19 1 _ rfl; have hf19_0 : w25.frozen? ⟨go17, (t274 : Int).toNat * 2, none⟩ = false := hfr19 0; have hf19_1 : w25.frozen? ⟨go17, (t274 : Int).toNat * 2 + 1, none⟩ = false := hfr19 1; clear hcl19 hcc19 hfr19 hM19; replace p19 := eq_true p19; replace q19 := eq_true q19; have HX26 := Aside0.mk (show Kd.R k_Column 65 w25 w.heap.size (fun _ => True) (.slice (some ⟨go17, 0, none⟩) t263.length co20) y281 from (RW HO266).out); obtain ⟨ce26, hcl26, hM26, hcc26, hfr26⟩ := Kd.R_elem HX26.out z_Column (t274 : Int) TD (by have h_ : (t274 : Int) < ((t263.length : Int) : Int) := TD; first | exact h_ | (have e_ := (Kd.R_reads' HO266.out).1; omega) | simpa using h_); obtain rfl := k_Column_openM hM26; have HP26 := Kd.R_seg HX26.out (t274 : Int) TD (by have h_ : (t274 : Int) < ((t263.length : Int) : Int) := TD; first | exact h_ | (have e_ := (Kd.R_reads' HO266.out).1; omega) | simpa using h_) (seg := [.int .i64 t282]) (j := 1) hcl26 hcc26 (show 2 ≤ 2 from by decide) (x' := (⟨(rd_TColumn y281 t274).f0, t282⟩ : S_Column)) (k_Column_mkM _ _ _ (⟨(rd_TColumn y281 t274).f0, t282⟩ : S_Column) ) (fun _ hk => hk); have hx26_1 := hcc26 1 _ rfl; (try simp only [show (k_Column).sz = 2 from rfl, Nat.mul_one, Nat.add_zero] at hx26_1); have hf26_1 := hfr26 1; (try simp only [show (k_Column).sz = 2 from rfl, Nat.mul_one, Nat.add_zero] at hf26_1); clear hcl26 hcc26 hfr26 hM26) | ((with_reducible refine gate_store (t := 3) (p := 47) rfl ?_); refine store_event (t := 3) (p := 47) (v := ?vo_w27) (w1 := (w25.setCell ⟨go17, (t274 : Int).toNat * 2 + 1, none⟩ (.int .i64 t282))) ?hg ?ho ?hn ?hr ?_; (case ho => rfl); (case hg => rfl); (case hn => rfl); (case hr => first | (go_simp; done) | (go_simp; rfl)); intro w27 hw; have hg : w25.grownBy w27 (some go17) := (by rw [hw]; exact HP26.2); have hp_ : Kd.R k_Column 65 w27 w.heap.size (fun _ => True) (.slice (some ⟨go17, 0, none⟩) t263.length co20) y285 := (by rw [hw, Ny285.out]; exact HP26.1); clear HP26; replace HI0 := Aside0.mk (IsSPl1Cur.grown (by repeat (first | (with_reducible first | exact HI0.out | apply IsSPl1Cur.alloc | apply IsSPl1Cur.drewN | apply IsSPl1Cur.drew | apply IsSPl1Cur.set_1 | apply IsSPl1Cur.set_2) | exact HI0.out)) hg (IsSPl1Cur.own_ne HI0.out HO266.out (by decide))); replace HO260 := Aside0.mk (Kd.R_over' (v := (.slice (some ⟨go17, 0, none⟩) t263.length co20)) (RW HO260).out (Kd.R_typed HO266.out) (by decide) hg); replace HB := Aside0.mk ((by rw [hw]; exact below_set (HB.out) (Nat.le_trans HL.out GB17.out) : Below w0.heap.size w0 w27)); replace HK := Aside0.mk (KeepBut.trans (by repeat (first | (with_reducible first | exact HK.out | apply KeepBut.set_ | apply keep_drewN | apply keep_drew | apply keep_alloc) | exact HK.out)) (KeepBut.of_grown hg g) (Kd.R_base2 HO266.out)); replace HO266 := Aside0.mk (hp_); clear hg hw hp_))
    go_meet
    case rel => exact ⟨_, (y285), (t283), (t284), H', ⟨by first | omega | exact Nat.le_refl _⟩, RW HO266, ⟨by repeat (first | (with_reducible first | exact HI0.out | apply IsSPl1Cur.alloc | apply IsSPl1Cur.drewN | apply IsSPl1Cur.drew | apply IsSPl1Cur.set_1 | apply IsSPl1Cur.set_2) | exact HI0.out)⟩, ⟨by repeat (first | (with_reducible first | exact HK.out | apply KeepBut.set_ | apply keep_drewN | apply keep_drew | apply keep_alloc) | exact HK.out)⟩, ⟨by repeat (first | (with_reducible first | exact HB.out | apply below_alloc | apply pw_below_drewN | apply below_drew1 | refine below_set ?_ (IsSPl1Cur.ge HI0.out)) | exact HB.out)⟩⟩
   ·replace c12 := Bool.eq_false_iff.mpr c12
    subst c12
    replace H := iff' H
    have H' := Aside0.mk H
    clear H
    go_wp2
    go_meet
    case rel => exact ⟨_, (t263), (t272), (t273), H', ⟨by first | omega | exact Nat.le_refl _⟩, RW HO266, ⟨by repeat (first | (with_reducible first | exact HI0.out | apply IsSPl1Cur.alloc | apply IsSPl1Cur.drewN | apply IsSPl1Cur.drew | apply IsSPl1Cur.set_1 | apply IsSPl1Cur.set_2) | exact HI0.out)⟩, ⟨by repeat (first | (with_reducible first | exact HK.out | apply KeepBut.set_ | apply keep_drewN | apply keep_drew | apply keep_alloc) | exact HK.out)⟩, ⟨by repeat (first | (with_reducible first | exact HB.out | apply below_alloc | apply pw_below_drewN | apply below_drew1 | refine below_set ?_ (IsSPl1Cur.ge HI0.out)) | exact HB.out)⟩⟩
  case rest =>
   clear HC7
   obtain ⟨kq, x5_6, x1001_6, x1002_6, HA, HJ6, HO_5, HI0, HK, HB⟩ := hcut
   cases kq with
   | zero => exact absurd HA.out (by simp [spec_l1Cur_columns.j0])
   | succ kj6 =>
    have H := HA.out
    clear HA
    simp only [spec_l1Cur_columns.j0] at H
    obtain ⟨⟨t286, t287, t288⟩, A28, H⟩ := bnd H
    try dsimp only at H
    by_cases c29 : t286 = true
    ·subst c29
     replace H := ift H
     obtain ⟨⟨t289, t290, t291⟩, A30, H⟩ := bnd H
     try dsimp only at H
     simp only [Option.some.injEq, Prod.mk.injEq] at H
     obtain ⟨rfl, rfl, rfl, rfl⟩ := H
     go_wp2_with (first | ((with_reducible refine gate_callee (f := 89) rfl ?_); refine goesL_ (some 49) rfl rfl Try.func89 KR rfl #[.pointer (some ⟨g, 0, none⟩), .int .i64 20] rfl TA ?_; (with_reducible refine (spec_l1Cur_one.calls g s0_0 x1001_6 x1002_6 20 true t287 t288 w0 _ ?side1 ?side2 A28.out).mono ?_); (case side1 => repeat (first | (with_reducible first | exact HI0.out | apply IsSPl1Cur.alloc | apply IsSPl1Cur.drewN | apply IsSPl1Cur.drew | apply IsSPl1Cur.set_1 | apply IsSPl1Cur.set_2) | exact HI0.out)); (case side2 => repeat (first | (with_reducible first | exact HB.out | apply below_alloc | apply pw_below_drewN | apply below_drew1 | refine below_set ?_ (IsSPl1Cur.ge HI0.out)) | exact HB.out)); rintro e w31 ⟨rfl, hi, hb, hk⟩; refine ⟨_, rfl, ?_⟩; replace HO_5 := Aside0.mk (Kd.R_mono (Kd.R_keep (IsSPl1Cur.apart (show IsSPl1Cur w0 _ g s0_0 x1001_6 x1002_6 from by repeat (first | (with_reducible first | exact HI0.out | apply IsSPl1Cur.alloc | apply IsSPl1Cur.drewN | apply IsSPl1Cur.drew | apply IsSPl1Cur.set_1 | apply IsSPl1Cur.set_2) | exact HI0.out)) (RW HO_5).out (by decide)) hk (fun _ h => h.2)) (fun _ h => h.1)); replace HK := Aside0.mk (KeepBut.trans (by repeat (first | (with_reducible first | exact HK.out | apply KeepBut.set_ | apply keep_drewN | apply keep_drew | apply keep_alloc) | exact HK.out)) hk (.inl rfl)); replace HB := Aside0.mk (hb); replace HI0 := Aside0.mk (hi); clear hb hk hi) | ((with_reducible refine gate_callee (f := 81) rfl ?_); refine goesL_ (some 52) rfl rfl Try.func81 KR rfl #[.pointer (some ⟨g, 0, none⟩), .int .i64 3] rfl TA ?_; (with_reducible refine (spec_l1Cur_pick.calls g s0_0 t287 t288 3 t289 t290 t291 w0 _ ?side1 ?side2 A30.out).mono ?_); (case side1 => repeat (first | (with_reducible first | exact HI0.out | apply IsSPl1Cur.alloc | apply IsSPl1Cur.drewN | apply IsSPl1Cur.drew | apply IsSPl1Cur.set_1 | apply IsSPl1Cur.set_2) | exact HI0.out)); (case side2 => repeat (first | (with_reducible first | exact HB.out | apply below_alloc | apply pw_below_drewN | apply below_drew1 | refine below_set ?_ (IsSPl1Cur.ge HI0.out)) | exact HB.out)); rintro e w32 ⟨rfl, hi, hb, hk⟩; refine ⟨_, rfl, ?_⟩; replace HO_5 := Aside0.mk (Kd.R_mono (Kd.R_keep (IsSPl1Cur.apart (show IsSPl1Cur w0 _ g s0_0 t287 t288 from by repeat (first | (with_reducible first | exact HI0.out | apply IsSPl1Cur.alloc | apply IsSPl1Cur.drewN | apply IsSPl1Cur.drew | apply IsSPl1Cur.set_1 | apply IsSPl1Cur.set_2) | exact HI0.out)) (RW HO_5).out (by decide)) hk (fun _ h => h.2)) (fun _ h => h.1)); replace HK := Aside0.mk (KeepBut.trans (by repeat (first | (with_reducible first | exact HK.out | apply KeepBut.set_ | apply keep_drewN | apply keep_drew | apply keep_alloc) | exact HK.out)) hk (.inl rfl)); replace HB := Aside0.mk (hb); replace HI0 := Aside0.mk (hi); clear hb hk hi))
     go_ret2
     exact ⟨_, TE, (RW HO_5).out, by repeat (first | (with_reducible first | exact HI0.out | apply IsSPl1Cur.alloc | apply IsSPl1Cur.drewN | apply IsSPl1Cur.drew | apply IsSPl1Cur.set_1 | apply IsSPl1Cur.set_2) | exact HI0.out), by repeat (first | (with_reducible first | exact HB.out | apply below_alloc | apply pw_below_drewN | apply below_drew1 | refine below_set ?_ (IsSPl1Cur.ge HI0.out)) | exact HB.out), by repeat (first | (with_reducible first | exact HK.out | apply KeepBut.set_ | apply keep_drewN | apply keep_drew | apply keep_alloc) | exact HK.out)⟩
    ·replace c29 := Bool.eq_false_iff.mpr c29
     subst c29
     replace H := iff' H
     simp only [Option.some.injEq, Prod.mk.injEq] at H
     obtain ⟨rfl, rfl, rfl, rfl⟩ := H
     go_wp2_with (first | ((with_reducible refine gate_callee (f := 89) rfl ?_); refine goesL_ (some 49) rfl rfl Try.func89 KR rfl #[.pointer (some ⟨g, 0, none⟩), .int .i64 20] rfl TA ?_; (with_reducible refine (spec_l1Cur_one.calls g s0_0 x1001_6 x1002_6 20 false t287 t288 w0 _ ?side1 ?side2 A28.out).mono ?_); (case side1 => repeat (first | (with_reducible first | exact HI0.out | apply IsSPl1Cur.alloc | apply IsSPl1Cur.drewN | apply IsSPl1Cur.drew | apply IsSPl1Cur.set_1 | apply IsSPl1Cur.set_2) | exact HI0.out)); (case side2 => repeat (first | (with_reducible first | exact HB.out | apply below_alloc | apply pw_below_drewN | apply below_drew1 | refine below_set ?_ (IsSPl1Cur.ge HI0.out)) | exact HB.out)); rintro e w33 ⟨rfl, hi, hb, hk⟩; refine ⟨_, rfl, ?_⟩; replace HO_5 := Aside0.mk (Kd.R_mono (Kd.R_keep (IsSPl1Cur.apart (show IsSPl1Cur w0 _ g s0_0 x1001_6 x1002_6 from by repeat (first | (with_reducible first | exact HI0.out | apply IsSPl1Cur.alloc | apply IsSPl1Cur.drewN | apply IsSPl1Cur.drew | apply IsSPl1Cur.set_1 | apply IsSPl1Cur.set_2) | exact HI0.out)) (RW HO_5).out (by decide)) hk (fun _ h => h.2)) (fun _ h => h.1)); replace HK := Aside0.mk (KeepBut.trans (by repeat (first | (with_reducible first | exact HK.out | apply KeepBut.set_ | apply keep_drewN | apply keep_drew | apply keep_alloc) | exact HK.out)) hk (.inl rfl)); replace HB := Aside0.mk (hb); replace HI0 := Aside0.mk (hi); clear hb hk hi))
     go_ret2
     exact ⟨_, TE, (RW HO_5).out, by repeat (first | (with_reducible first | exact HI0.out | apply IsSPl1Cur.alloc | apply IsSPl1Cur.drewN | apply IsSPl1Cur.drew | apply IsSPl1Cur.set_1 | apply IsSPl1Cur.set_2) | exact HI0.out), by repeat (first | (with_reducible first | exact HB.out | apply below_alloc | apply pw_below_drewN | apply below_drew1 | refine below_set ?_ (IsSPl1Cur.ge HI0.out)) | exact HB.out), by repeat (first | (with_reducible first | exact HK.out | apply KeepBut.set_ | apply keep_drewN | apply keep_drew | apply keep_alloc) | exact HK.out)⟩
 ·replace c5 := Bool.eq_false_iff.mpr c5
  subst c5
  replace H := iff' H
  obtain ⟨y268, hy268⟩ : ∃ y_ : List (S_Column), y_ = (([(⟨3, 0⟩ : S_Column)] : List (S_Column))) := ⟨_, rfl⟩
  replace H : (some (y268, 5, t261, t262)) = some (r1, r2, r3, r4) := by first | (rw [hy268]; with_reducible exact H) | (have H2_ := (Option.bind_some _ _).symm.trans H; rw [hy268]; with_reducible exact H2_) | (have H2_ := (Option.bind_some _ _).symm.trans H; with_reducible exact H2_) | with_reducible exact H | (rw [hy268]; exact H) | exact H
  have Ny268 := Aside0.mk hy268
  clear hy268
  simp only [Option.some.injEq, Prod.mk.injEq] at H
  obtain ⟨rfl, rfl, rfl, rfl⟩ := H
  go_enter Try.func80, Try.ntmps80
  go_wp2_with (first | ((with_reducible refine gate_callee (f := 76) rfl ?_); refine goesL_ (some 10) rfl rfl Try.func76 KR rfl #[.pointer (some ⟨g, 0, none⟩)] rfl TA ?_; (with_reducible refine (spec_l1Cur_weights.calls k g s0_0 s0_1 s0_2 t258 t261 t262 w0 _ ?side1 ?side2 A2.out).mono ?_); (case side1 => repeat (first | (with_reducible first | exact HI0.out | apply IsSPl1Cur.alloc | apply IsSPl1Cur.drewN | apply IsSPl1Cur.drew | apply IsSPl1Cur.set_1 | apply IsSPl1Cur.set_2) | exact HI0.out)); (case side2 => repeat (first | (with_reducible first | exact HB.out | apply below_alloc | apply pw_below_drewN | apply below_drew1 | refine below_set ?_ (IsSPl1Cur.ge HI0.out)) | exact HB.out)); rintro e w34 ⟨v259, rfl, ho0, hi, hb, hk⟩; refine ⟨_, rfl, ?_⟩; have HO260 := Aside0.mk (Kd.R_lower ho0 (keep_size (w := w) (g := g) (row := none) (by repeat (first | (with_reducible first | exact HK.out | apply KeepBut.set_ | apply keep_drewN | apply keep_drew | apply keep_alloc) | exact HK.out)))); replace HK := Aside0.mk (KeepBut.trans (by repeat (first | (with_reducible first | exact HK.out | apply KeepBut.set_ | apply keep_drewN | apply keep_drew | apply keep_alloc) | exact HK.out)) hk (.inl rfl)); replace HB := Aside0.mk (hb); replace HI0 := Aside0.mk (hi); clear hb hk hi; (try clear ho0); obtain ⟨Ao35, co35, eo35⟩ := Kd.R_slice HO260.out; subst eo35) | ((with_reducible refine gate_callee (f := 42) rfl ?_); refine goesL_ (some 13) rfl rfl Try.func42 KR rfl #[.slice Ao35 t258.length co35] rfl TA ?_; (with_reducible refine (spec_AliasOf.calls k _ _ t258 t263 false _ ?side1 ?side2 A3.out).mono ?_); (case side1 => exact CW ((Kd.R_reads' HO260.out).2.2)); (case side2 => exact RI HO260); rintro e w36 ⟨v265, rfl, ho0, hb⟩; refine ⟨_, rfl, ?_⟩; replace HO260 := RB HO260 hb; have HO266 := Aside0.mk (Kd.R_lower ho0 (keep_size (w := w) (g := g) (row := none) (by repeat (first | (with_reducible first | exact HK.out | apply KeepBut.set_ | apply keep_drewN | apply keep_drew | apply keep_alloc) | exact HK.out)))); replace HK := Aside0.mk (KeepBut.trans (by repeat (first | (with_reducible first | exact HK.out | apply KeepBut.set_ | apply keep_drewN | apply keep_drew | apply keep_alloc) | exact HK.out)) (KeepBut.of_below hb g none) (.inl rfl)); replace HB := Aside0.mk (below_step (by repeat (first | (with_reducible first | exact HB.out | apply below_alloc | apply pw_below_drewN | apply below_drew1 | refine below_set ?_ (IsSPl1Cur.ge HI0.out)) | exact HB.out)) hb); replace HI0 := Aside0.mk (IsSPl1Cur.below (by repeat (first | (with_reducible first | exact HI0.out | apply IsSPl1Cur.alloc | apply IsSPl1Cur.drewN | apply IsSPl1Cur.drew | apply IsSPl1Cur.set_1 | apply IsSPl1Cur.set_2) | exact HI0.out)) hb); clear hb; (try clear ho0)) | ((with_reducible refine gate_callee (f := 74) rfl ?_); refine goesL_ (some 17) rfl rfl Try.func74 KR rfl #[.slice Ao35 t258.length co35] rfl TA ?_; (with_reducible refine (spec_l12Total.calls k _ _ t258 t267 _ ?side1 ?side2 A4.out).mono ?_); (case side1 => exact CW ((Kd.R_reads' HO260.out).2.2)); (case side2 => exact RI HO260); rintro e w' ⟨rfl, ⟨nd, rfl⟩⟩; refine ⟨_, rfl, ?_⟩) | ((with_reducible refine gate_dst (N := 21) rfl ?_); refine Kd.R_lit k_Column _ 65 ?hg (N := 21) ?hd (xs := ([(⟨3, 0⟩ : S_Column)] : List (S_Column))) (inner := [.int .i64 3, .int .i64 0]) (ok := fun _ => True) (okp := fun _ => True) ?hr ?hp (fun _ hk => hk) trivial (Below.refl _ _) (Nat.le_refl _) (by simp) ?_; (case hd => rfl); (case hg => rfl); (case hr => first | (go_simp; done) | (go_simp; rfl)); (case hp => exact (Reps.c2 (show Kd.M k_Column _ _ _ (⟨3, 0⟩ : S_Column) [.int .i64 3, .int .i64 0] from (k_Column_mkM _ _ _ (⟨3, 0⟩ : S_Column) )) (Reps.none _ _))); intro v269 w37 ho38 hb hg_ hnew_; clear hg_ hnew_; (first | rw [← Ny268.out] at ho38 | (simp only [Int.reduceToNat] at ho38; rw [← Ny268.out] at ho38)); replace HO260 := RB HO260 hb; have HO270 := Aside0.mk (Kd.R_lower (NW ho38 HO266) (keep_size (w := w) (g := g) (row := none) (by repeat (first | (with_reducible first | exact HK.out | apply KeepBut.set_ | apply keep_drewN | apply keep_drew | apply keep_alloc) | exact HK.out)))); replace HO266 := EL HO266 ho38 hb; replace HK := Aside0.mk (KeepBut.trans (by repeat (first | (with_reducible first | exact HK.out | apply KeepBut.set_ | apply keep_drewN | apply keep_drew | apply keep_alloc) | exact HK.out)) (KeepBut.of_below hb g none) (.inl rfl)); replace HB := Aside0.mk (below_step (by repeat (first | (with_reducible first | exact HB.out | apply below_alloc | apply pw_below_drewN | apply below_drew1 | refine below_set ?_ (IsSPl1Cur.ge HI0.out)) | exact HB.out)) hb); replace HI0 := Aside0.mk (IsSPl1Cur.below (by repeat (first | (with_reducible first | exact HI0.out | apply IsSPl1Cur.alloc | apply IsSPl1Cur.drewN | apply IsSPl1Cur.drew | apply IsSPl1Cur.set_1 | apply IsSPl1Cur.set_2) | exact HI0.out)) hb); clear hb ho38))
  go_ret2
  exact ⟨_, TE, by (with_reducible repeat (first | apply Kd.R_alloc | apply Kd.R_drewN | apply Kd.R_drew)); exact Kd.R_mono HO270.out (fun _ hk => trivial), by repeat (first | (with_reducible first | exact HI0.out | apply IsSPl1Cur.alloc | apply IsSPl1Cur.drewN | apply IsSPl1Cur.drew | apply IsSPl1Cur.set_1 | apply IsSPl1Cur.set_2) | exact HI0.out), by repeat (first | (with_reducible first | exact HB.out | apply below_alloc | apply pw_below_drewN | apply below_drew1 | refine below_set ?_ (IsSPl1Cur.ge HI0.out)) | exact HB.out), by repeat (first | (with_reducible first | exact HK.out | apply KeepBut.set_ | apply keep_drewN | apply keep_drew | apply keep_alloc) | exact HK.out)⟩
end
section
/-! ### spec_DrawPickBy: function 52 -/
def spec_DrawPickBy.f (k : Nat) (l0 : List Int) : Option ((List (S_Column)) × Int × Int) := (spec_l1Cur_columns.f k l0 0 0).bind fun bt293 => ((spec_l1Cur_pick.f l0 bt293.2.2.1 bt293.2.2.2 400).bind fun bt299 => (some (bt293.1, bt293.2.1, wrap64 (bt299.1 - 1))))
theorem spec_DrawPickBy.calls (k : Nat) (A0 : Option Addr) (c0 : Nat) (l0 : List Int) (r1 : List (S_Column)) (r2 : Int) (r3 : Int) (w : World) (hr0 : Kd.C (Kd.int .u8) w A0 l0.length l0) (hc0 : l0.length ≤ c0) (h : spec_DrawPickBy.f k l0 = some (r1, r2, r3)) :
  Calls Try.prog 52 #[.slice A0 l0.length c0] w fun e w' => ∃ v0_ : Value, e = .returned (.tuple #[v0_, .int .i64 r2, .int .i64 r3]) ∧ Kd.R k_Column 65 w' w.heap.size (fun _ => True) v0_ r1 ∧ Below w.heap.size w w' := by
 have hu93 := Try.underlying93
 have HR0 := Aside0.mk hr0
 have HC0 := Aside0.mk hc0
 clear hr0 hc0
 have HB := Aside0.mk (Below.refl w.heap.size w)
 have H : ((spec_l1Cur_columns.f k l0 0 0).bind fun bt293 => ((spec_l1Cur_pick.f l0 bt293.2.2.1 bt293.2.2.2 400).bind fun bt299 => (some (bt293.1, bt293.2.1, wrap64 (bt299.1 - 1))))) = some (r1, r2, r3) := h
 clear h
 obtain ⟨⟨t293, t296, t297, t298⟩, A2, H⟩ := bnd H
 try dsimp only at H
 obtain ⟨⟨t299, t300, t301⟩, A3, H⟩ := bnd H
 try dsimp only at H
 simp only [Option.some.injEq, Prod.mk.injEq] at H
 obtain ⟨rfl, rfl, rfl⟩ := H
 go_enter Try.func52, Try.ntmps52
 go_wp2_with (first | ((with_reducible refine gate_dst (N := 10) rfl ?_); refine bE 10 #[.slice A0 l0.length c0, .int .i64 0, .int .u64 0] 93 ?_; intro gb292 hg w4 hbox hb; have HI292 := Aside0.mk ((⟨_, _, hbox, by rw [hg]; exact (below_size TB), HR0.out⟩ : IsSPl1Cur w w4 gb292 l0 0 0)); replace HB := BS hb; clear hb hbox hg) | ((with_reducible refine gate_callee (f := 80) rfl ?_); refine goesL_ (some 13) rfl rfl Try.func80 KR rfl #[.pointer (some ⟨gb292, 0, none⟩)] rfl TA ?_; (with_reducible refine (spec_l1Cur_columns.calls k gb292 l0 0 0 t293 t296 t297 t298 w _ ?side1 ?side2 A2.out).mono ?_); (case side1 => repeat (first | (with_reducible first | exact HI292.out | apply IsSPl1Cur.alloc | apply IsSPl1Cur.drewN | apply IsSPl1Cur.drew | apply IsSPl1Cur.set_1 | apply IsSPl1Cur.set_2) | exact HI292.out)); (case side2 => repeat (first | (with_reducible first | exact HB.out | apply below_alloc | apply pw_below_drewN | apply below_drew1 | refine below_set ?_ (IsSPl1Cur.ge HI292.out)) | exact HB.out)); rintro e w5 ⟨v294, rfl, ho0, hi, hb, hk⟩; refine ⟨_, rfl, ?_⟩; have HO295 := Aside0.mk (Kd.R_lower ho0 (below_size (by repeat (first | (with_reducible first | exact HB.out | apply below_alloc | apply pw_below_drewN | apply below_drew1 | refine below_set ?_ (IsSPl1Cur.ge HI292.out)) | exact HB.out)))); replace HB := Aside0.mk (hb); replace HI292 := Aside0.mk (hi); clear hb hk hi; (try clear ho0)) | ((with_reducible refine gate_callee (f := 81) rfl ?_); refine goesL_ (some 19) rfl rfl Try.func81 KR rfl #[.pointer (some ⟨gb292, 0, none⟩), .int .i64 400] rfl TA ?_; (with_reducible refine (spec_l1Cur_pick.calls gb292 l0 t297 t298 400 t299 t300 t301 w _ ?side1 ?side2 A3.out).mono ?_); (case side1 => repeat (first | (with_reducible first | exact HI292.out | apply IsSPl1Cur.alloc | apply IsSPl1Cur.drewN | apply IsSPl1Cur.drew | apply IsSPl1Cur.set_1 | apply IsSPl1Cur.set_2) | exact HI292.out)); (case side2 => repeat (first | (with_reducible first | exact HB.out | apply below_alloc | apply pw_below_drewN | apply below_drew1 | refine below_set ?_ (IsSPl1Cur.ge HI292.out)) | exact HB.out)); rintro e w6 ⟨rfl, hi, hb, hk⟩; refine ⟨_, rfl, ?_⟩; replace HO295 := Aside0.mk (Kd.R_mono (Kd.R_keep (IsSPl1Cur.apart (show IsSPl1Cur w _ gb292 l0 t297 t298 from by repeat (first | (with_reducible first | exact HI292.out | apply IsSPl1Cur.alloc | apply IsSPl1Cur.drewN | apply IsSPl1Cur.drew | apply IsSPl1Cur.set_1 | apply IsSPl1Cur.set_2) | exact HI292.out)) (RW HO295).out (by decide)) hk (fun _ h => h.2)) (fun _ h => h.1)); replace HB := Aside0.mk (hb); replace HI292 := Aside0.mk (hi); clear hb hk hi))
 go_ret3
 exact ⟨_, TE, (RW HO295).out, by repeat (first | (with_reducible first | exact HB.out | apply below_alloc | apply pw_below_drewN | apply below_drew1 | refine below_set ?_ (IsSPl1Cur.ge HI292.out)) | exact HB.out)⟩
end
section
/-! ### spec_GoodAlias: function 20 -/
def spec_GoodAlias.l0 : Nat → List (S_Column) → List (S_Column) → Int → Int → Option (Bool)
 | 0, _, _, _, _ => none
 | k + 1, x0, x5, x6, x7 => if x7 < x6 then (if 0 ≤ x7 then (if x7 < (x5.length : Int) then (if ((rd_TColumn x5 x7).f0) < 0 then (some false) else ((spec_l1In.f ((rd_TColumn x5 x7).f1) 0 (wrap64 ((x0.length : Int) - 1))).bind fun t304 => (if t304 = true then (spec_GoodAlias.l0 k x0 x5 x6 (wrap64 (x7 + 1))) else (some false)))) else (none)) else (none)) else ((spec_l1In.f (x0.length : Int) 1 12).bind fun t305 => (some t305))
def spec_GoodAlias.f (k : Nat) (l0 : List (S_Column)) : Option (Bool) := spec_GoodAlias.l0 k l0 l0 (l0.length : Int) 0
theorem spec_GoodAlias.calls (k : Nat) (A0 : Option Addr) (c0 : Nat) (l0 : List (S_Column)) (r : Bool) (w : World) (hr0 : Kd.C k_Column w A0 l0.length l0) (hc0 : l0.length ≤ c0) (h : spec_GoodAlias.f k l0 = some r) :
  Calls Try.prog 20 #[.slice A0 l0.length c0] w fun e w' => e = .returned (.bool r) ∧ Below w.heap.size w w' := by
 have hu65 := Try.underlying65
 have HR0 := Aside0.mk hr0
 have HC0 := Aside0.mk hc0
 clear hr0 hc0
 have HB := Aside0.mk (Below.refl w.heap.size w)
 have H : (spec_GoodAlias.l0 k l0 l0 (l0.length : Int) 0) = some r := h
 clear h
 have H' := Aside0.mk H
 clear H
 go_enter Try.func20, Try.ntmps20
 go_wp2
 go_loopg [7] k (fun kq v7 w' => ∃ (x7_1 : Int), v7 = .int .i64 x7_1 ∧ Aside0 (spec_GoodAlias.l0 kq l0 l0 (l0.length : Int) x7_1 = some r) ∧ Aside0 (kq ≤ k) ∧ Aside0 (Below w.heap.size w w'))
 case atStart => exact ⟨(0), TF, H', ⟨Nat.le_refl _⟩, ⟨TB⟩⟩
 case round =>
  clear H'
  obtain ⟨x7_1, rfl, HA, HK1, HB⟩ := hrel
  cases gk with
  | zero => exact absurd HA.out (by simp [spec_GoodAlias.l0])
  | succ k1 =>
   have H := HA.out
   clear HA
   simp only [spec_GoodAlias.l0] at H
   by_cases c2 : x7_1 < (l0.length : Int)
   ·rw [if_pos c2] at H
    have c2b0 : decide (x7_1 < (l0.length : Int)) = true := decide_eq_true c2
    clear c2
    obtain ⟨c3, H⟩ := ifn H
    have c3b0 : decide (0 ≤ x7_1) = true := decide_eq_true c3
    clear c3
    obtain ⟨c4, H⟩ := ifn H
    have c4b0 : decide (x7_1 < (l0.length : Int)) = true := decide_eq_true c4
    clear c4
    by_cases c5 : ((rd_TColumn l0 x7_1).f0) < 0
    ·rw [if_pos c5] at H
     have c5b0 : decide (((rd_TColumn l0 x7_1).f0) < 0) = true := decide_eq_true c5
     clear c5
     obtain rfl := Option.some.inj H
     have p302 : 0 ≤ (x7_1 : Int) := TD
     have q302 : x7_1 < (l0.length : Int) := TD
     obtain ⟨ad302, e302, hx302_0, hx302_1⟩ := at_TColumn (Kd.C_below HR0.out HB.out) x7_1 p302 q302
     cases e302
     replace p302 := eq_true p302
     replace q302 := eq_true q302
     go_wp2_with (first | ((with_reducible refine gate_dst (N := 4) rfl ?_); (try (refine gate_guard (by rfl) ?_; dsimp only)); refine bE 4 #[.int .i64 0, .int .i64 0] 65 ?_; intro gb303 hg w6 hbox hb; have BK303 := Aside0.mk (hbox); have GE303 := bG hg; replace HB := BS hb; clear hb hbox hg; have hcz7 := cz2 BK303))
     go_ret
     exact ⟨TE, TB⟩
    ·rw [if_neg c5] at H
     have c5b0 : decide (((rd_TColumn l0 x7_1).f0) < 0) = false := decide_eq_false c5
     clear c5
     obtain ⟨t304, A8, H⟩ := bnd H
     by_cases c9 : t304 = true
     ·subst c9
      replace H := ift H
      have H' := Aside0.mk H
      clear H
      have p302 : 0 ≤ (x7_1 : Int) := TD
      have q302 : x7_1 < (l0.length : Int) := TD
      obtain ⟨ad302, e302, hx302_0, hx302_1⟩ := at_TColumn (Kd.C_below HR0.out HB.out) x7_1 p302 q302
      cases e302
      replace p302 := eq_true p302
      replace q302 := eq_true q302
      go_wp2_with (first | ((with_reducible refine gate_dst (N := 4) rfl ?_); (try (refine gate_guard (by rfl) ?_; dsimp only)); refine bE 4 #[.int .i64 0, .int .i64 0] 65 ?_; intro gb303 hg w10 hbox hb; have BK303 := Aside0.mk (hbox); have GE303 := bG hg; replace HB := BS hb; clear hb hbox hg; have hcz11 := cz2 BK303) | (go_at_call 58; (with_reducible refine (spec_l1In.calls ((rd_TColumn l0 x7_1).f1) 0 (wrap64 ((l0.length : Int) - 1)) true _ A8.out).mono ?_); rintro e w' ⟨rfl, ⟨nd, rfl⟩⟩))
      go_roundg k1
      case measure => have := HK1.out; omega
      case rel => exact ⟨(wrap64 (x7_1 + 1)), TF, H', ⟨TM⟩, ⟨TB⟩⟩
     ·replace c9 := Bool.eq_false_iff.mpr c9
      subst c9
      replace H := iff' H
      obtain rfl := Option.some.inj H
      have p302 : 0 ≤ (x7_1 : Int) := TD
      have q302 : x7_1 < (l0.length : Int) := TD
      obtain ⟨ad302, e302, hx302_0, hx302_1⟩ := at_TColumn (Kd.C_below HR0.out HB.out) x7_1 p302 q302
      cases e302
      replace p302 := eq_true p302
      replace q302 := eq_true q302
      go_wp2_with (first | ((with_reducible refine gate_dst (N := 4) rfl ?_); (try (refine gate_guard (by rfl) ?_; dsimp only)); refine bE 4 #[.int .i64 0, .int .i64 0] 65 ?_; intro gb303 hg w12 hbox hb; have BK303 := Aside0.mk (hbox); have GE303 := bG hg; replace HB := BS hb; clear hb hbox hg; have hcz13 := cz2 BK303) | (go_at_call 58; (with_reducible refine (spec_l1In.calls ((rd_TColumn l0 x7_1).f1) 0 (wrap64 ((l0.length : Int) - 1)) false _ A8.out).mono ?_); rintro e w' ⟨rfl, ⟨nd, rfl⟩⟩))
      go_ret
      exact ⟨TE, TB⟩
   ·rw [if_neg c2] at H
    have c2b0 : decide (x7_1 < (l0.length : Int)) = false := decide_eq_false c2
    clear c2
    obtain ⟨t305, A14, H⟩ := bnd H
    obtain rfl := Option.some.inj H
    go_wp2_with (first | ((with_reducible refine gate_callee (f := 58) rfl ?_); refine goesL_ (some 26) rfl rfl Try.func58 KR rfl #[.int .i64 (l0.length : Int), .int .i64 1, .int .i64 12] rfl TA ?_; (with_reducible refine (spec_l1In.calls (l0.length : Int) 1 12 t305 _ A14.out).mono ?_); rintro e w' ⟨rfl, ⟨nd, rfl⟩⟩; refine ⟨_, rfl, ?_⟩))
    go_ret
    exact ⟨TE, TB⟩
end
section
/-! ### spec_l12Fits: function 67 -/
def spec_l12Fits.l0 : Nat → List (S_Column) → Int → List (S_Column) → Int → Int → Option (Bool)
 | 0, _, _, _, _, _ => none
 | k + 1, x0, x1, x7, x8, x9 => if x9 < x8 then (if 0 ≤ x9 then (if x9 < (x7.length : Int) then (if ((rd_TColumn x7 x9).f0) > x1 then (some false) else (spec_l12Fits.l0 k x0 x1 x7 x8 (wrap64 (x9 + 1)))) else (none)) else (none)) else ((spec_GoodAlias.f k x0).bind fun t308 => (if t308 = true then ((spec_l1In.f x1 1 600).bind fun t309 => (some t309)) else (some false)))
def spec_l12Fits.f (k : Nat) (l0 : List (S_Column)) (a1 : Int) : Option (Bool) := spec_l12Fits.l0 k l0 a1 l0 (l0.length : Int) 0
theorem spec_l12Fits.calls (k : Nat) (A0 : Option Addr) (c0 : Nat) (l0 : List (S_Column)) (a1 : Int) (r : Bool) (w : World) (hr0 : Kd.C k_Column w A0 l0.length l0) (hc0 : l0.length ≤ c0) (h : spec_l12Fits.f k l0 a1 = some r) :
  Calls Try.prog 67 #[.slice A0 l0.length c0, .int .i64 a1] w fun e w' => e = .returned (.bool r) ∧ Below w.heap.size w w' := by
 have hu65 := Try.underlying65
 have HR0 := Aside0.mk hr0
 have HC0 := Aside0.mk hc0
 clear hr0 hc0
 have HB := Aside0.mk (Below.refl w.heap.size w)
 have H : (spec_l12Fits.l0 k l0 a1 l0 (l0.length : Int) 0) = some r := h
 clear h
 have H' := Aside0.mk H
 clear H
 go_enter Try.func67, Try.ntmps67
 go_wp2
 go_loopg [9] k (fun kq v9 w' => ∃ (x9_1 : Int), v9 = .int .i64 x9_1 ∧ Aside0 (spec_l12Fits.l0 kq l0 a1 l0 (l0.length : Int) x9_1 = some r) ∧ Aside0 (kq ≤ k) ∧ Aside0 (Below w.heap.size w w'))
 case atStart => exact ⟨(0), TF, H', ⟨Nat.le_refl _⟩, ⟨TB⟩⟩
 case round =>
  clear H'
  obtain ⟨x9_1, rfl, HA, HK1, HB⟩ := hrel
  cases gk with
  | zero => exact absurd HA.out (by simp [spec_l12Fits.l0])
  | succ k1 =>
   have H := HA.out
   clear HA
   simp only [spec_l12Fits.l0] at H
   by_cases c3 : x9_1 < (l0.length : Int)
   ·rw [if_pos c3] at H
    have c3b0 : decide (x9_1 < (l0.length : Int)) = true := decide_eq_true c3
    clear c3
    obtain ⟨c4, H⟩ := ifn H
    have c4b0 : decide (0 ≤ x9_1) = true := decide_eq_true c4
    clear c4
    obtain ⟨c5, H⟩ := ifn H
    have c5b0 : decide (x9_1 < (l0.length : Int)) = true := decide_eq_true c5
    clear c5
    by_cases c6 : ((rd_TColumn l0 x9_1).f0) > a1
    ·rw [if_pos c6] at H
     have c6b0 : decide (a1 < ((rd_TColumn l0 x9_1).f0)) = true := decide_eq_true c6
     clear c6
     obtain rfl := Option.some.inj H
     have p306 : 0 ≤ (x9_1 : Int) := TD
     have q306 : x9_1 < (l0.length : Int) := TD
     obtain ⟨ad306, e306, hx306_0, hx306_1⟩ := at_TColumn (Kd.C_below HR0.out HB.out) x9_1 p306 q306
     cases e306
     replace p306 := eq_true p306
     replace q306 := eq_true q306
     go_wp2_with (first | ((with_reducible refine gate_dst (N := 6) rfl ?_); refine bE 6 #[.int .i64 0, .int .i64 0] 65 ?_; intro gb307 hg w7 hbox hb; have BK307 := Aside0.mk (hbox); have GE307 := bG hg; replace HB := BS hb; clear hb hbox hg; have hcz8 := cz2 BK307))
     go_ret
     exact ⟨TE, TB⟩
    ·rw [if_neg c6] at H
     have c6b0 : decide (a1 < ((rd_TColumn l0 x9_1).f0)) = false := decide_eq_false c6
     clear c6
     have H' := Aside0.mk H
     clear H
     have p306 : 0 ≤ (x9_1 : Int) := TD
     have q306 : x9_1 < (l0.length : Int) := TD
     obtain ⟨ad306, e306, hx306_0, hx306_1⟩ := at_TColumn (Kd.C_below HR0.out HB.out) x9_1 p306 q306
     cases e306
     replace p306 := eq_true p306
     replace q306 := eq_true q306
     go_wp2_with (first | ((with_reducible refine gate_dst (N := 6) rfl ?_); refine bE 6 #[.int .i64 0, .int .i64 0] 65 ?_; intro gb307 hg w9 hbox hb; have BK307 := Aside0.mk (hbox); have GE307 := bG hg; replace HB := BS hb; clear hb hbox hg; have hcz10 := cz2 BK307))
     go_roundg k1
     case measure => have := HK1.out; omega
     case rel => exact ⟨(wrap64 (x9_1 + 1)), TF, H', ⟨TM⟩, ⟨TB⟩⟩
   ·rw [if_neg c3] at H
    have c3b0 : decide (x9_1 < (l0.length : Int)) = false := decide_eq_false c3
    clear c3
    obtain ⟨t308, A11, H⟩ := bnd H
    by_cases c12 : t308 = true
    ·subst c12
     replace H := ift H
     obtain ⟨t309, A13, H⟩ := bnd H
     obtain rfl := Option.some.inj H
     go_wp2_with (first | ((with_reducible refine gate_callee (f := 20) rfl ?_); refine goesL_ (some 19) rfl rfl Try.func20 KR rfl #[.slice A0 l0.length c0] rfl TA ?_; (with_reducible refine (spec_GoodAlias.calls k1 _ _ l0 true _ ?side1 ?side2 A11.out).mono ?_); (case side1 => exact CW ((Kd.C_below HR0.out HB.out))); (case side2 => exact HC0.out); rintro e w14 ⟨rfl, hb⟩; refine ⟨_, rfl, ?_⟩; replace HB := BS hb; clear hb) | (go_at_call 58; (with_reducible refine (spec_l1In.calls a1 1 600 t309 _ A13.out).mono ?_); rintro e w' ⟨rfl, ⟨nd, rfl⟩⟩))
     go_ret
     exact ⟨TE, TB⟩
    ·replace c12 := Bool.eq_false_iff.mpr c12
     subst c12
     replace H := iff' H
     obtain rfl := Option.some.inj H
     go_wp2_with (first | ((with_reducible refine gate_callee (f := 20) rfl ?_); refine goesL_ (some 19) rfl rfl Try.func20 KR rfl #[.slice A0 l0.length c0] rfl TA ?_; (with_reducible refine (spec_GoodAlias.calls k1 _ _ l0 false _ ?side1 ?side2 A11.out).mono ?_); (case side1 => exact CW ((Kd.C_below HR0.out HB.out))); (case side2 => exact HC0.out); rintro e w15 ⟨rfl, hb⟩; refine ⟨_, rfl, ?_⟩; replace HB := BS hb; clear hb))
     go_ret
     exact ⟨TE, TB⟩
end
section
/-! ### spec_PickBy: function 24 -/
def spec_PickBy.j0 : Nat → List (S_Column) → Int → Int → Bool → Option (Int × Bool)
 | 0, _, _, _, _ => none
 | k + 1, x0, x1, x2, x22 => if x22 = true then (some (0, false)) else (if x1 = 0 then (none) else (if 0 ≤ (wrap64 (Int.tdiv x2 x1)) then (if (wrap64 (Int.tdiv x2 x1)) < (x0.length : Int) then (if (Int.tmod x2 x1) < ((rd_TColumn x0 (wrap64 (Int.tdiv x2 x1))).f0) then (some (wrap64 (Int.tdiv x2 x1), true)) else (some ((rd_TColumn x0 (wrap64 (Int.tdiv x2 x1))).f1, true))) else (none)) else (none)))
def spec_PickBy.f (k : Nat) (l0 : List (S_Column)) (a1 : Int) (a2 : Int) : Option (Int × Bool) := (spec_l12Fits.f k l0 a1).bind fun t310 => (if t310 = true then ((spec_l1In.f a2 0 (wrap64 ((wrap64 ((l0.length : Int) * a1)) - 1))).bind fun t311 => (spec_PickBy.j0 k l0 a1 a2 (!t311))) else (spec_PickBy.j0 k l0 a1 a2 true))
theorem spec_PickBy.calls (k : Nat) (A0 : Option Addr) (c0 : Nat) (l0 : List (S_Column)) (a1 : Int) (a2 : Int) (r1 : Int) (r2 : Bool) (w : World) (hr0 : Kd.C k_Column w A0 l0.length l0) (hc0 : l0.length ≤ c0) (h : spec_PickBy.f k l0 a1 a2 = some (r1, r2)) :
  Calls Try.prog 24 #[.slice A0 l0.length c0, .int .i64 a1, .int .i64 a2] w fun e w' => e = .returned (.tuple #[.int .i64 r1, .bool r2]) ∧ Below w.heap.size w w' := by
 have HR0 := Aside0.mk hr0
 have HC0 := Aside0.mk hc0
 clear hr0 hc0
 have HB := Aside0.mk (Below.refl w.heap.size w)
 have H : ((spec_l12Fits.f k l0 a1).bind fun t310 => (if t310 = true then ((spec_l1In.f a2 0 (wrap64 ((wrap64 ((l0.length : Int) * a1)) - 1))).bind fun t311 => (spec_PickBy.j0 k l0 a1 a2 (!t311))) else (spec_PickBy.j0 k l0 a1 a2 true))) = some (r1, r2) := h
 clear h
 have HC4 := Aside0.mk H
 clear H
 go_enter Try.func24, Try.ntmps24
 go_upto_region 1 with (fail)
 repeat (go_quiet (fail); go_upto_region 1 with (fail))
 go_cut [22] (fun v22 wc => ∃ (kq : Nat) (x22_3 : Bool), v22 = .bool x22_3 ∧ Aside0 (spec_PickBy.j0 kq l0 a1 a2 x22_3 = some (r1, r2)) ∧ Aside0 (kq ≤ k) ∧ Aside0 (Below w.heap.size w wc))
 case first =>
  have H := HC4.out
  clear HC4
  obtain ⟨t310, A5, H⟩ := bnd H
  by_cases c6 : t310 = true
  ·subst c6
   replace H := ift H
   obtain ⟨t311, A7, H⟩ := bnd H
   have H' := Aside0.mk H
   clear H
   go_wp2_with (first | (go_at_call 67; (with_reducible refine (spec_l12Fits.calls k _ _ l0 a1 true _ ?side1 ?side2 A5.out).mono ?_); (case side1 => exact CW ((Kd.C_below HR0.out HB.out))); (case side2 => exact HC0.out); rintro e w8 ⟨rfl, hb⟩; replace HB := BS hb; clear hb) | (go_at_call 58; (with_reducible refine (spec_l1In.calls a2 0 (wrap64 ((wrap64 ((l0.length : Int) * a1)) - 1)) t311 _ A7.out).mono ?_); rintro e w' ⟨rfl, ⟨nd, rfl⟩⟩; (try first | exact ⟨rfl, _, World.drewN_drewN _ _ _⟩ | exact ⟨rfl, _, Eq.trans (World.drewN_drewN _ _ _) (congrArg (World.drewN _) (Nat.add_assoc _ _ _))⟩)))
   repeat (go_quiet (first | (go_at_call 67; (with_reducible refine (spec_l12Fits.calls k _ _ l0 a1 true _ ?side1 ?side2 A5.out).mono ?_); (case side1 => exact CW ((Kd.C_below HR0.out HB.out))); (case side2 => exact HC0.out); rintro e w8 ⟨rfl, hb⟩; replace HB := BS hb; clear hb) | (go_at_call 58; (with_reducible refine (spec_l1In.calls a2 0 (wrap64 ((wrap64 ((l0.length : Int) * a1)) - 1)) t311 _ A7.out).mono ?_); rintro e w' ⟨rfl, ⟨nd, rfl⟩⟩; (try first | exact ⟨rfl, _, World.drewN_drewN _ _ _⟩ | exact ⟨rfl, _, Eq.trans (World.drewN_drewN _ _ _) (congrArg (World.drewN _) (Nat.add_assoc _ _ _))⟩))); try go_wp2_with (first | (go_at_call 67; (with_reducible refine (spec_l12Fits.calls k _ _ l0 a1 true _ ?side1 ?side2 A5.out).mono ?_); (case side1 => exact CW ((Kd.C_below HR0.out HB.out))); (case side2 => exact HC0.out); rintro e w8 ⟨rfl, hb⟩; replace HB := BS hb; clear hb) | (go_at_call 58; (with_reducible refine (spec_l1In.calls a2 0 (wrap64 ((wrap64 ((l0.length : Int) * a1)) - 1)) t311 _ A7.out).mono ?_); rintro e w' ⟨rfl, ⟨nd, rfl⟩⟩; (try first | exact ⟨rfl, _, World.drewN_drewN _ _ _⟩ | exact ⟨rfl, _, Eq.trans (World.drewN_drewN _ _ _) (congrArg (World.drewN _) (Nat.add_assoc _ _ _))⟩))))
   go_meet
   case rel => exact ⟨_, (!t311), TF, H', ⟨by first | omega | exact Nat.le_refl _⟩, ⟨TB⟩⟩
  ·replace c6 := Bool.eq_false_iff.mpr c6
   subst c6
   replace H := iff' H
   have H' := Aside0.mk H
   clear H
   go_wp2_with (first | (go_at_call 67; (with_reducible refine (spec_l12Fits.calls k _ _ l0 a1 false _ ?side1 ?side2 A5.out).mono ?_); (case side1 => exact CW ((Kd.C_below HR0.out HB.out))); (case side2 => exact HC0.out); rintro e w9 ⟨rfl, hb⟩; replace HB := BS hb; clear hb))
   repeat (go_quiet (first | (go_at_call 67; (with_reducible refine (spec_l12Fits.calls k _ _ l0 a1 false _ ?side1 ?side2 A5.out).mono ?_); (case side1 => exact CW ((Kd.C_below HR0.out HB.out))); (case side2 => exact HC0.out); rintro e w9 ⟨rfl, hb⟩; replace HB := BS hb; clear hb)); try go_wp2_with (first | (go_at_call 67; (with_reducible refine (spec_l12Fits.calls k _ _ l0 a1 false _ ?side1 ?side2 A5.out).mono ?_); (case side1 => exact CW ((Kd.C_below HR0.out HB.out))); (case side2 => exact HC0.out); rintro e w9 ⟨rfl, hb⟩; replace HB := BS hb; clear hb)))
   go_meet
   case rel => exact ⟨_, (true), TF, H', ⟨by first | omega | exact Nat.le_refl _⟩, ⟨TB⟩⟩
 case rest =>
  clear HC4
  obtain ⟨kq, x22_3, rfl, HA, HJ3, HB⟩ := hcut
  cases kq with
  | zero => exact absurd HA.out (by simp [spec_PickBy.j0])
  | succ kj3 =>
   have H := HA.out
   clear HA
   simp only [spec_PickBy.j0] at H
   by_cases c10 : x22_3 = true
   ·subst c10
    replace H := ift H
    simp only [Option.some.injEq, Prod.mk.injEq] at H
    obtain ⟨rfl, rfl⟩ := H
    go_wp2
    repeat (go_quiet (fail); try go_wp2)
    go_ret2
    exact ⟨TE, TB⟩
   ·replace c10 := Bool.eq_false_iff.mpr c10
    subst c10
    replace H := iff' H
    obtain ⟨c11, H⟩ := ifm H
    have c11b0 : (a1 == 0) = false := beq_eq_false_iff_ne.mpr c11
    have c11b1 : (a1 != 0) = true := bne_iff_ne.mpr c11
    obtain ⟨ji12, hji12⟩ : ∃ j_ : Int, (wrap64 (Int.tdiv a2 a1)) = j_ := ⟨_, rfl⟩
    replace H : (if 0 ≤ (ji12) then (if (ji12) < (l0.length : Int) then (if (Int.tmod a2 a1) < ((rd_TColumn l0 (ji12)).f0) then (some (ji12, true)) else (some ((rd_TColumn l0 (ji12)).f1, true))) else (none)) else (none)) = some (r1, r2) := by first | (rw [hji12] at H; exact H) | (simp only [hji12] at H ⊢; exact H)
    have hji12w : (IntKind.i64.wrap (Int.tdiv a2 a1)) = ji12 := (i64_w _).trans hji12
    obtain ⟨c13, H⟩ := ifn H
    have c13b0 : decide (0 ≤ (ji12)) = true := decide_eq_true c13
    clear c13
    obtain ⟨c14, H⟩ := ifn H
    have c14b0 : decide ((ji12) < (l0.length : Int)) = true := decide_eq_true c14
    clear c14
    by_cases c15 : (Int.tmod a2 a1) < ((rd_TColumn l0 (ji12)).f0)
    ·rw [if_pos c15] at H
     have c15b0 : decide ((Int.tmod a2 a1) < ((rd_TColumn l0 (ji12)).f0)) = true := decide_eq_true c15
     clear c15
     simp only [Option.some.injEq, Prod.mk.injEq] at H
     obtain ⟨rfl, rfl⟩ := H
     have p312 : 0 ≤ ((ji12) : Int) := TD
     have q312 : (ji12) < (l0.length : Int) := TD
     obtain ⟨ad312, e312, hx312_0, hx312_1⟩ := at_TColumn (Kd.C_below HR0.out HB.out) (ji12) p312 q312
     cases e312
     replace p312 := eq_true p312
     replace q312 := eq_true q312
     go_wp2
     repeat (go_quiet (fail); try go_wp2)
     go_ret2
     exact ⟨by first | rfl | (simp [errW_none, errW_some] <;> rfl) | (simp only [← hji12]; first | rfl | (simp [errW_none, errW_some] <;> rfl)) | (simp [*, errW_none, errW_some] <;> rfl), TB⟩
    ·rw [if_neg c15] at H
     have c15b0 : decide ((Int.tmod a2 a1) < ((rd_TColumn l0 (ji12)).f0)) = false := decide_eq_false c15
     clear c15
     simp only [Option.some.injEq, Prod.mk.injEq] at H
     obtain ⟨rfl, rfl⟩ := H
     have p312 : 0 ≤ ((ji12) : Int) := TD
     have q312 : (ji12) < (l0.length : Int) := TD
     obtain ⟨ad312, e312, hx312_0, hx312_1⟩ := at_TColumn (Kd.C_below HR0.out HB.out) (ji12) p312 q312
     cases e312
     replace p312 := eq_true p312
     replace q312 := eq_true q312
     have p313 : 0 ≤ ((ji12) : Int) := TD
     have q313 : (ji12) < (l0.length : Int) := TD
     obtain ⟨ad313, e313, hx313_0, hx313_1⟩ := at_TColumn (Kd.C_below HR0.out HB.out) (ji12) p313 q313
     obtain rfl : ad312 = ad313 := (by injection e313)
     replace p313 := eq_true p313
     replace q313 := eq_true q313
     go_wp2
     repeat (go_quiet (fail); try go_wp2)
     go_ret2
     exact ⟨by first | rfl | (simp [errW_none, errW_some] <;> rfl) | (simp only [← hji12]; first | rfl | (simp [errW_none, errW_some] <;> rfl)) | (simp [*, errW_none, errW_some] <;> rfl), TB⟩
end
section
attribute [local go_sem high] eqAColumn
/-! ### laws_FnAlias: function 13 -/
mutual
def laws_FnAlias.j0 : Nat → List Int → List Int → List (S_Column) → Bool → List (S_Column) → Bool → Option (Bool)
 | 0, _, _, _, _, _, _ => none
 | k + 1, x1, x5, x6, x7, x8, x62 => if x62 = true then (some false) else (laws_FnAlias.l0 k x1 x5 x6 x7 x8 (x6.length : Int) 0)
def laws_FnAlias.l0 : Nat → List Int → List Int → List (S_Column) → Bool → List (S_Column) → Int → Int → Option (Bool)
 | 0, _, _, _, _, _, _, _ => none
 | k + 1, x1, x5, x6, x7, x8, x64, x65 => if x65 < x64 then (if 0 ≤ x65 then (if x65 < (x6.length : Int) then (if x65 < (x8.length : Int) then (if (!(((rd_TColumn x6 x65).f0) == ((rd_TColumn x8 x65).f0)) || (!(((rd_TColumn x6 x65).f1) == ((rd_TColumn x8 x65).f1)))) = true then (some false) else (laws_FnAlias.l0 k x1 x5 x6 x7 x8 x64 (wrap64 (x65 + 1)))) else (none)) else (none)) else (none)) else (if x7 = true then (laws_FnAlias.l1 k x1 x5 x6 0 x5 (x5.length : Int) 0) else ((spec_DrawPickBy.f k x1).bind fun bt362 => ((impl_PickBy.f k bt362.1 bt362.2.1 bt362.2.2).bind fun bt367 => ((spec_PickBy.f k bt362.1 bt362.2.1 bt362.2.2).bind fun bt369 => (if (bt367.2 == bt369.2) = true then (some (bt367.1 == bt369.1)) else (some false))))))
def laws_FnAlias.l1 : Nat → List Int → List Int → List (S_Column) → Int → List Int → Int → Int → Option (Bool)
 | 0, _, _, _, _, _, _, _ => none
 | k + 1, x1, x5, x6, x11, x79, x80, x81 => if x81 < x80 then (if 0 ≤ x81 then (if x81 < (x79.length : Int) then (laws_FnAlias.l1 k x1 x5 x6 (wrap64 (x11 + (rd x79 x81))) x79 x80 (wrap64 (x81 + 1))) else (none)) else (none)) else ((impl_OftenIn.f k x6 x11).bind fun bt329 => (if bt329.2 = true then ((impl_GoodAlias.f k x6).bind fun t333 => (if t333 = true then (laws_FnAlias.j3 k x1 x5 x6 x11 bt329.1 ((x6.length : Int) != (x5.length : Int))) else (laws_FnAlias.j3 k x1 x5 x6 x11 bt329.1 true))) else (laws_FnAlias.j3 k x1 x5 x6 x11 bt329.1 true)))
def laws_FnAlias.j3 : Nat → List Int → List Int → List (S_Column) → Int → List Int → Bool → Option (Bool)
 | 0, _, _, _, _, _, _ => none
 | k + 1, x1, x5, x6, x11, x14, x108 => if x108 = true then (some false) else (laws_FnAlias.l2 k x1 x5 x6 x11 x14 x5 (x5.length : Int) 0)
def laws_FnAlias.l2 : Nat → List Int → List Int → List (S_Column) → Int → List Int → List Int → Int → Int → Option (Bool)
 | 0, _, _, _, _, _, _, _, _ => none
 | k + 1, x1, x5, x6, x11, x14, x109, x110, x111 => if x111 < x110 then (if 0 ≤ x111 then (if x111 < (x109.length : Int) then (if x111 < (x14.length : Int) then (if (rd x14 x111) = (wrap64 ((rd x109 x111) * (x5.length : Int))) then (laws_FnAlias.l2 k x1 x5 x6 x11 x14 x109 x110 (wrap64 (x111 + 1))) else (some false)) else (none)) else (none)) else (none)) else (if x11 ≤ 40 then (if 0 ≤ (x5.length : Int) then (if ((x5.length : Int) : Int).toNat ≤ 35184372088832 then (laws_FnAlias.l3 k x1 x5 x6 x11 x14 (List.replicate ((x5.length : Int) : Int).toNat 0) 0) else (none)) else (none)) else ((spec_DrawPickBy.f k x1).bind fun bt353 => ((impl_PickBy.f k bt353.1 bt353.2.1 bt353.2.2).bind fun bt358 => ((spec_PickBy.f k bt353.1 bt353.2.1 bt353.2.2).bind fun bt360 => (if (bt358.2 == bt360.2) = true then (some (bt358.1 == bt360.1)) else (some false))))))
def laws_FnAlias.l3 : Nat → List Int → List Int → List (S_Column) → Int → List Int → List Int → Int → Option (Bool)
 | 0, _, _, _, _, _, _, _ => none
 | k + 1, x1, x5, x6, x11, x14, x18, x19 => if x19 < (wrap64 ((x5.length : Int) * x11)) then ((impl_PickBy.f k x6 x11 x19).bind fun bt339 => (if bt339.2 = true then (if bt339.1 < 0 then (some false) else (if bt339.1 ≥ (x5.length : Int) then (some false) else (if 0 ≤ bt339.1 then (if bt339.1 < (x18.length : Int) then (laws_FnAlias.l3 k x1 x5 x6 x11 x14 (x18.set (bt339.1 : Int).toNat (wrap64 ((rd x18 bt339.1) + 1))) (wrap64 (x19 + 1))) else (none)) else (none)))) else (some false))) else ((laws_sameInts.f k x18 x14).bind fun t343 => (if t343 = true then ((spec_DrawPickBy.f k x1).bind fun bt344 => ((impl_PickBy.f k bt344.1 bt344.2.1 bt344.2.2).bind fun bt349 => ((spec_PickBy.f k bt344.1 bt344.2.1 bt344.2.2).bind fun bt351 => (if (bt349.2 == bt351.2) = true then (some (bt349.1 == bt351.1)) else (some false))))) else (some false)))
end
def laws_FnAlias.f (k : Nat) (l0 : List Int) (l1 : List Int) : Option (Bool) := if (wrap64 ((l0.length : Int) + (l1.length : Int))) > 1048576 then (some true) else ((spec_DrawAliasOf.f k l0).bind fun t314 => ((impl_AliasOf.f k t314).bind fun bt317 => ((spec_AliasOf.f k t314).bind fun bt321 => (if (bt317.2 != bt321.2) = true then (laws_FnAlias.j0 k l1 t314 bt317.1 bt317.2 bt321.1 true) else (if (bt317.1.length : Int) = (bt321.1.length : Int) then ((impl_GoodWeights.f k t314).bind fun t325 => (laws_FnAlias.j0 k l1 t314 bt317.1 bt317.2 bt321.1 (t325 != bt321.2))) else (laws_FnAlias.j0 k l1 t314 bt317.1 bt317.2 bt321.1 true))))))
theorem laws_FnAlias.calls (k : Nat) (A0 : Option Addr) (c0 : Nat) (l0 : List Int) (A1 : Option Addr) (c1 : Nat) (l1 : List Int) (r : Bool) (w : World) (hr0 : Kd.C (Kd.int .u8) w A0 l0.length l0) (hc0 : l0.length ≤ c0) (hr1 : Kd.C (Kd.int .u8) w A1 l1.length l1) (hc1 : l1.length ≤ c1) (h : laws_FnAlias.f k l0 l1 = some r) :
  Calls Try.prog 13 #[.slice A0 l0.length c0, .slice A1 l1.length c1] w fun e w' => e = .returned (.bool r) ∧ Below w.heap.size w w' := by
 have hu65 := Try.underlying65
 have HR0 := Aside0.mk hr0
 have HC0 := Aside0.mk hc0
 clear hr0 hc0
 have HR1 := Aside0.mk hr1
 have HC1 := Aside0.mk hc1
 clear hr1 hc1
 have HB := Aside0.mk (Below.refl w.heap.size w)
 have H : (if (wrap64 ((l0.length : Int) + (l1.length : Int))) > 1048576 then (some true) else ((spec_DrawAliasOf.f k l0).bind fun t314 => ((impl_AliasOf.f k t314).bind fun bt317 => ((spec_AliasOf.f k t314).bind fun bt321 => (if (bt317.2 != bt321.2) = true then (laws_FnAlias.j0 k l1 t314 bt317.1 bt317.2 bt321.1 true) else (if (bt317.1.length : Int) = (bt321.1.length : Int) then ((impl_GoodWeights.f k t314).bind fun t325 => (laws_FnAlias.j0 k l1 t314 bt317.1 bt317.2 bt321.1 (t325 != bt321.2))) else (laws_FnAlias.j0 k l1 t314 bt317.1 bt317.2 bt321.1 true))))))) = some r := h
 clear h
 by_cases c3 : (wrap64 ((l0.length : Int) + (l1.length : Int))) > 1048576
 ·rw [if_pos c3] at H
  have c3b0 : decide (1048576 < (wrap64 ((l0.length : Int) + (l1.length : Int)))) = true := decide_eq_true c3
  clear c3
  obtain rfl := Option.some.inj H
  go_enter Try.func13, Try.ntmps13
  go_wp2
  repeat (go_quiet (fail); try go_wp2)
  go_ret
  exact ⟨TE, TB⟩
 ·rw [if_neg c3] at H
  have c3b0 : decide (1048576 < (wrap64 ((l0.length : Int) + (l1.length : Int)))) = false := decide_eq_false c3
  clear c3
  obtain ⟨t314, A4, H⟩ := bnd H
  obtain ⟨⟨t317, t318⟩, A5, H⟩ := bnd H
  try dsimp only at H
  obtain ⟨⟨t321, t322⟩, A6, H⟩ := bnd H
  try dsimp only at H
  have HC7 := Aside0.mk H
  clear H
  go_enter Try.func13, Try.ntmps13
  go_upto_region 6 with (first | (go_at_call 51; (with_reducible refine (spec_DrawAliasOf.calls k _ _ l0 t314 _ ?side1 ?side2 A4.out).mono ?_); (case side1 => exact CW (HR0.out)); (case side2 => exact HC0.out); rintro e w8 ⟨v315, rfl, ho0, hb⟩; have HO316 := RL ho0; replace HB := BS hb; clear hb; (try clear ho0); obtain ⟨Ao9, co9, eo9⟩ := Kd.R_slice HO316.out; subst eo9) | (go_at_call 43; (with_reducible refine (impl_AliasOf.calls k _ _ t314 t317 t318 _ ?side1 ?side2 A5.out).mono ?_); (case side1 => exact CW ((Kd.R_reads' HO316.out).2.2)); (case side2 => exact RI HO316); rintro e w10 ⟨v319, rfl, ho0, hb⟩; replace HO316 := RB HO316 hb; have HO320 := RL ho0; replace HB := BS hb; clear hb; (try clear ho0)) | (go_at_call 42; (with_reducible refine (spec_AliasOf.calls k _ _ t314 t321 t322 _ ?side1 ?side2 A6.out).mono ?_); (case side1 => exact CW ((Kd.R_reads' HO316.out).2.2)); (case side2 => exact RI HO316); rintro e w11 ⟨v323, rfl, ho0, hb⟩; replace HO316 := RB HO316 hb; have HO324 := RL (NW ho0 HO320); replace HO320 := EL HO320 ho0 hb; replace HB := BS hb; clear hb; (try clear ho0)))
  repeat (go_quiet (first | (go_at_call 51; (with_reducible refine (spec_DrawAliasOf.calls k _ _ l0 t314 _ ?side1 ?side2 A4.out).mono ?_); (case side1 => exact CW (HR0.out)); (case side2 => exact HC0.out); rintro e w8 ⟨v315, rfl, ho0, hb⟩; have HO316 := RL ho0; replace HB := BS hb; clear hb; (try clear ho0); obtain ⟨Ao9, co9, eo9⟩ := Kd.R_slice HO316.out; subst eo9) | (go_at_call 43; (with_reducible refine (impl_AliasOf.calls k _ _ t314 t317 t318 _ ?side1 ?side2 A5.out).mono ?_); (case side1 => exact CW ((Kd.R_reads' HO316.out).2.2)); (case side2 => exact RI HO316); rintro e w10 ⟨v319, rfl, ho0, hb⟩; replace HO316 := RB HO316 hb; have HO320 := RL ho0; replace HB := BS hb; clear hb; (try clear ho0)) | (go_at_call 42; (with_reducible refine (spec_AliasOf.calls k _ _ t314 t321 t322 _ ?side1 ?side2 A6.out).mono ?_); (case side1 => exact CW ((Kd.R_reads' HO316.out).2.2)); (case side2 => exact RI HO316); rintro e w11 ⟨v323, rfl, ho0, hb⟩; replace HO316 := RB HO316 hb; have HO324 := RL (NW ho0 HO320); replace HO320 := EL HO320 ho0 hb; replace HB := BS hb; clear hb; (try clear ho0))); go_upto_region 6 with (first | (go_at_call 51; (with_reducible refine (spec_DrawAliasOf.calls k _ _ l0 t314 _ ?side1 ?side2 A4.out).mono ?_); (case side1 => exact CW (HR0.out)); (case side2 => exact HC0.out); rintro e w8 ⟨v315, rfl, ho0, hb⟩; have HO316 := RL ho0; replace HB := BS hb; clear hb; (try clear ho0); obtain ⟨Ao9, co9, eo9⟩ := Kd.R_slice HO316.out; subst eo9) | (go_at_call 43; (with_reducible refine (impl_AliasOf.calls k _ _ t314 t317 t318 _ ?side1 ?side2 A5.out).mono ?_); (case side1 => exact CW ((Kd.R_reads' HO316.out).2.2)); (case side2 => exact RI HO316); rintro e w10 ⟨v319, rfl, ho0, hb⟩; replace HO316 := RB HO316 hb; have HO320 := RL ho0; replace HB := BS hb; clear hb; (try clear ho0)) | (go_at_call 42; (with_reducible refine (spec_AliasOf.calls k _ _ t314 t321 t322 _ ?side1 ?side2 A6.out).mono ?_); (case side1 => exact CW ((Kd.R_reads' HO316.out).2.2)); (case side2 => exact RI HO316); rintro e w11 ⟨v323, rfl, ho0, hb⟩; replace HO316 := RB HO316 hb; have HO324 := RL (NW ho0 HO320); replace HO320 := EL HO320 ho0 hb; replace HB := BS hb; clear hb; (try clear ho0))))
  (try simp only [Act.put, List.setIfInBounds_toArray, List.set_cons_zero, List.set_cons_succ])
  go_cut [62] (fun v62 wc => ∃ (kq : Nat) (x62_6 : Bool), v62 = .bool x62_6 ∧ Aside0 (laws_FnAlias.j0 kq l1 t314 t317 t318 t321 x62_6 = some r) ∧ Aside0 (kq ≤ k) ∧ Aside0 (Kd.R (Kd.int .i64) 3 wc w.heap.size (fun _ => True) (.slice Ao9 t314.length co9) t314) ∧ Aside0 (Kd.R k_Column 65 wc w.heap.size (fun k_ => some k_ ≠ (v323 : Value).ownBlock) v319 t317) ∧ Aside0 (Kd.R k_Column 65 wc w.heap.size (fun k_ => some k_ ≠ (v319 : Value).ownBlock) v323 t321) ∧ Aside0 (Below w.heap.size w wc))
  case first =>
   have H := HC7.out
   clear HC7
   by_cases c12 : (t318 != t322) = true
   ·rw [if_pos c12] at H
    have c12b0 : (t318 != t322) = true := c12
    (try (have c12b1 : decide (t318 = t322) = false := by simpa using c12))
    (try (have c12b2 : (t318 == t322) = false := by simpa using c12))
    (try (have c12b3 : ¬ (t318 = t322) := by simpa using c12))
    clear c12
    (first | rw [c12b0] | (simp only [i64_w, i32_w]; rw [c12b0]) | skip)
    have H' := Aside0.mk H
    clear H
    go_wp2
    repeat (go_quiet (fail); try go_wp2)
    go_meet
    case rel => exact ⟨_, (true), TF, H', ⟨by first | omega | exact Nat.le_refl _⟩, RW HO316, MO HO320, MO HO324, ⟨TB⟩⟩
   ·rw [if_neg c12] at H
    have c12b0 : (t318 != t322) = false := by simpa using c12
    (try (have c12b1 : decide (t318 = t322) = true := by simpa using c12))
    (try (have c12b2 : (t318 == t322) = true := by simpa using c12))
    clear c12
    (first | rw [c12b0] | (simp only [i64_w, i32_w]; rw [c12b0]) | skip)
    by_cases c13 : (t317.length : Int) = (t321.length : Int)
    ·rw [if_pos c13] at H
     have c13b0 : ((t317.length : Int) == (t321.length : Int)) = true := beq_iff_eq.mpr c13
     have c13b1 : ((t317.length : Int) != (t321.length : Int)) = false := bne_eq_false_iff_eq.mpr c13
     have c13b2 : (t317.length == t321.length) = true := by first | simpa using c13 | (simp at c13 ⊢; omega)
     clear c13
     obtain ⟨t325, A14, H⟩ := bnd H
     have H' := Aside0.mk H
     clear H
     obtain ⟨Ao15, co15, eo15⟩ := Kd.R_slice HO320.out
     subst eo15
     obtain ⟨Ao16, co16, eo16⟩ := Kd.R_slice HO324.out
     subst eo16
     go_wp2_with (first | (go_at_call 17; (with_reducible refine (impl_GoodWeights.calls k _ _ t314 t325 _ ?side1 ?side2 A14.out).mono ?_); (case side1 => exact CW ((Kd.R_reads' HO316.out).2.2)); (case side2 => exact RI HO316); rintro e w' ⟨rfl, ⟨nd, rfl⟩⟩; (try first | exact ⟨rfl, _, World.drewN_drewN _ _ _⟩ | exact ⟨rfl, _, Eq.trans (World.drewN_drewN _ _ _) (congrArg (World.drewN _) (Nat.add_assoc _ _ _))⟩)))
     repeat (go_quiet (first | (go_at_call 17; (with_reducible refine (impl_GoodWeights.calls k _ _ t314 t325 _ ?side1 ?side2 A14.out).mono ?_); (case side1 => exact CW ((Kd.R_reads' HO316.out).2.2)); (case side2 => exact RI HO316); rintro e w' ⟨rfl, ⟨nd, rfl⟩⟩; (try first | exact ⟨rfl, _, World.drewN_drewN _ _ _⟩ | exact ⟨rfl, _, Eq.trans (World.drewN_drewN _ _ _) (congrArg (World.drewN _) (Nat.add_assoc _ _ _))⟩))); try go_wp2_with (first | (go_at_call 17; (with_reducible refine (impl_GoodWeights.calls k _ _ t314 t325 _ ?side1 ?side2 A14.out).mono ?_); (case side1 => exact CW ((Kd.R_reads' HO316.out).2.2)); (case side2 => exact RI HO316); rintro e w' ⟨rfl, ⟨nd, rfl⟩⟩; (try first | exact ⟨rfl, _, World.drewN_drewN _ _ _⟩ | exact ⟨rfl, _, Eq.trans (World.drewN_drewN _ _ _) (congrArg (World.drewN _) (Nat.add_assoc _ _ _))⟩))))
     go_meet
     case rel => exact ⟨_, ((t325 != t322)), TF, H', ⟨by first | omega | exact Nat.le_refl _⟩, RW HO316, MO HO320, MO HO324, ⟨TB⟩⟩
    ·rw [if_neg c13] at H
     have c13b0 : ((t317.length : Int) == (t321.length : Int)) = false := beq_eq_false_iff_ne.mpr c13
     have c13b1 : ((t317.length : Int) != (t321.length : Int)) = true := bne_iff_ne.mpr c13
     have c13b2 : (t317.length == t321.length) = false := by first | simpa using c13 | (simp at c13 ⊢; omega)
     have H' := Aside0.mk H
     clear H
     obtain ⟨Ao17, co17, eo17⟩ := Kd.R_slice HO320.out
     subst eo17
     obtain ⟨Ao18, co18, eo18⟩ := Kd.R_slice HO324.out
     subst eo18
     go_wp2
     repeat (go_quiet (fail); try go_wp2)
     go_meet
     case rel => exact ⟨_, (true), TF, H', ⟨by first | omega | exact Nat.le_refl _⟩, RW HO316, MO HO320, MO HO324, ⟨TB⟩⟩
  case rest =>
   clear HC7
   obtain ⟨kq, x62_6, rfl, HA, HJ6, HO_5, HO_6, HO_8, HB⟩ := hcut
   cases kq with
   | zero => exact absurd HA.out (by simp [laws_FnAlias.j0])
   | succ kj6 =>
    have H := HA.out
    clear HA
    simp only [laws_FnAlias.j0] at H
    by_cases c19 : x62_6 = true
    ·subst c19
     replace H := ift H
     obtain rfl := Option.some.inj H
     go_wp2
     repeat (go_quiet (fail); try go_wp2)
     go_ret
     exact ⟨TE, TB⟩
    ·replace c19 := Bool.eq_false_iff.mpr c19
     subst c19
     replace H := iff' H
     have H' := Aside0.mk H
     clear H
     obtain ⟨Ao20, co20, eo20⟩ := Kd.R_slice HO_6.out
     subst eo20
     go_wp2
     repeat (go_quiet (fail); try go_wp2)
     go_loopg [65] kj6 (fun kq v65 w' => ∃ (x65_2 : Int), v65 = .int .i64 x65_2 ∧ Aside0 (laws_FnAlias.l0 kq l1 t314 t317 t318 t321 (t317.length : Int) x65_2 = some r) ∧ Aside0 (kq ≤ kj6) ∧ Aside0 (Kd.R (Kd.int .i64) 3 w' w.heap.size (fun _ => True) (.slice Ao9 t314.length co9) t314) ∧ Aside0 (Kd.R k_Column 65 w' w.heap.size (fun k_ => some k_ ≠ (v323 : Value).ownBlock) (.slice Ao20 t317.length co20) t317) ∧ Aside0 (Kd.R k_Column 65 w' w.heap.size (fun k_ => some k_ ≠ ((.slice Ao20 t317.length co20) : Value).ownBlock) v323 t321) ∧ Aside0 (Below w.heap.size w w'))
     case atStart => exact ⟨(0), TF, H', ⟨Nat.le_refl _⟩, RW HO_5, RW HO_6, RW HO_8, ⟨TB⟩⟩
     case round =>
      clear H'
      obtain ⟨x65_2, rfl, HA, HK2, HO_5, HO_6, HO_8, HB⟩ := hrel
      cases gk with
      | zero => exact absurd HA.out (by simp [laws_FnAlias.l0])
      | succ k2 =>
       have H := HA.out
       clear HA
       simp only [laws_FnAlias.l0] at H
       by_cases c21 : x65_2 < (t317.length : Int)
       ·rw [if_pos c21] at H
        have c21b0 : decide (x65_2 < (t317.length : Int)) = true := decide_eq_true c21
        clear c21
        obtain ⟨c22, H⟩ := ifn H
        have c22b0 : decide (0 ≤ x65_2) = true := decide_eq_true c22
        clear c22
        obtain ⟨c23, H⟩ := ifn H
        have c23b0 : decide (x65_2 < (t317.length : Int)) = true := decide_eq_true c23
        clear c23
        obtain ⟨c24, H⟩ := ifn H
        have c24b0 : decide (x65_2 < (t321.length : Int)) = true := decide_eq_true c24
        clear c24
        by_cases c25 : (!(((rd_TColumn t317 x65_2).f0) == ((rd_TColumn t321 x65_2).f0)) || (!(((rd_TColumn t317 x65_2).f1) == ((rd_TColumn t321 x65_2).f1)))) = true
        ·rw [if_pos c25] at H
         have c25b0 : (!(((rd_TColumn t317 x65_2).f0) == ((rd_TColumn t321 x65_2).f0)) || (!(((rd_TColumn t317 x65_2).f1) == ((rd_TColumn t321 x65_2).f1)))) = true := c25
         clear c25
         obtain rfl := Option.some.inj H
         have p326 : 0 ≤ (x65_2 : Int) := TD
         have q326 : x65_2 < (t317.length : Int) := TD
         obtain ⟨ad326, e326, hx326_0, hx326_1⟩ := at_TColumn (Kd.R_reads' HO_6.out).2.2 x65_2 p326 q326
         cases e326
         replace p326 := eq_true p326
         replace q326 := eq_true q326
         obtain ⟨Ao26, co26, eo26⟩ := Kd.R_slice HO_8.out
         subst eo26
         have p327 : 0 ≤ (x65_2 : Int) := TD
         have q327 : x65_2 < (t321.length : Int) := TD
         obtain ⟨ad327, e327, hx327_0, hx327_1⟩ := at_TColumn (Kd.R_reads' HO_8.out).2.2 x65_2 p327 q327
         cases e327
         replace p327 := eq_true p327
         replace q327 := eq_true q327
         go_wp2
         repeat (go_quiet (fail); try go_wp2)
         go_ret
         exact ⟨TE, TB⟩
        ·rw [if_neg c25] at H
         have c25b0 : (!(((rd_TColumn t317 x65_2).f0) == ((rd_TColumn t321 x65_2).f0)) || (!(((rd_TColumn t317 x65_2).f1) == ((rd_TColumn t321 x65_2).f1)))) = false := by simpa using c25
         clear c25
         have H' := Aside0.mk H
         clear H
         have p326 : 0 ≤ (x65_2 : Int) := TD
         have q326 : x65_2 < (t317.length : Int) := TD
         obtain ⟨ad326, e326, hx326_0, hx326_1⟩ := at_TColumn (Kd.R_reads' HO_6.out).2.2 x65_2 p326 q326
         cases e326
         replace p326 := eq_true p326
         replace q326 := eq_true q326
         obtain ⟨Ao27, co27, eo27⟩ := Kd.R_slice HO_8.out
         subst eo27
         have p327 : 0 ≤ (x65_2 : Int) := TD
         have q327 : x65_2 < (t321.length : Int) := TD
         obtain ⟨ad327, e327, hx327_0, hx327_1⟩ := at_TColumn (Kd.R_reads' HO_8.out).2.2 x65_2 p327 q327
         cases e327
         replace p327 := eq_true p327
         replace q327 := eq_true q327
         go_wp2
         repeat (go_quiet (fail); try go_wp2)
         go_roundg k2
         case measure => have := HJ6.out; have := HK2.out; omega
         case rel => exact ⟨(wrap64 (x65_2 + 1)), TF, H', ⟨by have := HJ6.out; have := HK2.out; omega⟩, RW HO_5, RW HO_6, RW HO_8, ⟨TB⟩⟩
       ·rw [if_neg c21] at H
        have c21b0 : decide (x65_2 < (t317.length : Int)) = false := decide_eq_false c21
        clear c21
        by_cases c28 : t318 = true
        ·subst c28
         replace H := ift H
         have H' := Aside0.mk H
         clear H
         go_wp2
         repeat (go_quiet (fail); try go_wp2)
         go_loopg [11, 81] k2 (fun kq v11 v81 w' => ∃ (x11_3 : Int) (x81_3 : Int), v11 = .int .i64 x11_3 ∧ v81 = .int .i64 x81_3 ∧ Aside0 (laws_FnAlias.l1 kq l1 t314 t317 x11_3 t314 (t314.length : Int) x81_3 = some r) ∧ Aside0 (kq ≤ k2) ∧ Aside0 (Kd.R (Kd.int .i64) 3 w' w.heap.size (fun _ => True) (.slice Ao9 t314.length co9) t314) ∧ Aside0 (Kd.R k_Column 65 w' w.heap.size (fun _ => True) (.slice Ao20 t317.length co20) t317) ∧ Aside0 (Kd.R (Kd.int .i64) 3 w' w.heap.size (fun _ => True) (.slice Ao9 t314.length co9) t314) ∧ Aside0 (Below w.heap.size w w'))
         case atStart => exact ⟨(0), (0), TF, TF, H', ⟨Nat.le_refl _⟩, RW HO_5, ⟨by (with_reducible repeat (first | apply Kd.R_alloc | apply Kd.R_drewN | apply Kd.R_drew)); exact Kd.R_mono HO_6.out (fun _ hk => trivial)⟩, RW HO_5, ⟨TB⟩⟩
         case round =>
          clear H'
          obtain ⟨x11_3, x81_3, rfl, rfl, HA, HK3, HO_5, HO_6, HO_79, HB⟩ := hrel
          cases gk with
          | zero => exact absurd HA.out (by simp [laws_FnAlias.l1])
          | succ k3 =>
           have H := HA.out
           clear HA
           simp only [laws_FnAlias.l1] at H
           by_cases c29 : x81_3 < (t314.length : Int)
           ·rw [if_pos c29] at H
            have c29b0 : decide (x81_3 < (t314.length : Int)) = true := decide_eq_true c29
            clear c29
            obtain ⟨c30, H⟩ := ifn H
            have c30b0 : decide (0 ≤ x81_3) = true := decide_eq_true c30
            clear c30
            obtain ⟨c31, H⟩ := ifn H
            have c31b0 : decide (x81_3 < (t314.length : Int)) = true := decide_eq_true c31
            clear c31
            have H' := Aside0.mk H
            clear H
            have p328 : 0 ≤ (x81_3 : Int) := TD
            have q328 : x81_3 < (t314.length : Int) := TD
            obtain ⟨ad328, e328, hx328_0⟩ := Kd.at_int (Kd.R_reads' HO_79.out).2.2 x81_3 p328 q328
            cases e328
            replace p328 := eq_true p328
            replace q328 := eq_true q328
            go_wp2
            repeat (go_quiet (fail); try go_wp2)
            go_roundg k3
            case measure => have := HJ6.out; have := HK2.out; have := HK3.out; omega
            case rel => exact ⟨(wrap64 (x11_3 + (rd t314 x81_3))), (wrap64 (x81_3 + 1)), TF, TF, H', ⟨by have := HJ6.out; have := HK2.out; have := HK3.out; omega⟩, RW HO_5, RW HO_6, RW HO_79, ⟨TB⟩⟩
           ·rw [if_neg c29] at H
            have c29b0 : decide (x81_3 < (t314.length : Int)) = false := decide_eq_false c29
            clear c29
            obtain ⟨⟨t329, t330⟩, A32, H⟩ := bnd H
            try dsimp only at H
            have HC33 := Aside0.mk H
            clear H
            go_upto_region 22 with (first | (go_at_call 37; (with_reducible refine (impl_OftenIn.calls k3 _ _ t317 x11_3 t329 t330 _ ?side1 ?side2 A32.out).mono ?_); (case side1 => exact CW ((Kd.R_reads' HO_6.out).2.2)); (case side2 => exact RI HO_6); rintro e w34 ⟨v331, rfl, ho0, hb⟩; replace HO_6 := RB HO_6 hb; have HO332 := RL (NW (NW ho0 HO_5) HO_79); replace HO_5 := EL HO_5 ho0 hb; replace HO_79 := EL HO_79 ho0 hb; replace HB := BS hb; clear hb; (try clear ho0)))
            repeat (go_quiet (first | (go_at_call 37; (with_reducible refine (impl_OftenIn.calls k3 _ _ t317 x11_3 t329 t330 _ ?side1 ?side2 A32.out).mono ?_); (case side1 => exact CW ((Kd.R_reads' HO_6.out).2.2)); (case side2 => exact RI HO_6); rintro e w34 ⟨v331, rfl, ho0, hb⟩; replace HO_6 := RB HO_6 hb; have HO332 := RL (NW (NW ho0 HO_5) HO_79); replace HO_5 := EL HO_5 ho0 hb; replace HO_79 := EL HO_79 ho0 hb; replace HB := BS hb; clear hb; (try clear ho0))); go_upto_region 22 with (first | (go_at_call 37; (with_reducible refine (impl_OftenIn.calls k3 _ _ t317 x11_3 t329 t330 _ ?side1 ?side2 A32.out).mono ?_); (case side1 => exact CW ((Kd.R_reads' HO_6.out).2.2)); (case side2 => exact RI HO_6); rintro e w34 ⟨v331, rfl, ho0, hb⟩; replace HO_6 := RB HO_6 hb; have HO332 := RL (NW (NW ho0 HO_5) HO_79); replace HO_5 := EL HO_5 ho0 hb; replace HO_79 := EL HO_79 ho0 hb; replace HB := BS hb; clear hb; (try clear ho0))))
            (try simp only [Act.put, List.setIfInBounds_toArray, List.set_cons_zero, List.set_cons_succ])
            go_cut [108] (fun v108 wc => ∃ (kq : Nat) (x108_32 : Bool), v108 = .bool x108_32 ∧ Aside0 (laws_FnAlias.j3 kq l1 t314 t317 x11_3 t329 x108_32 = some r) ∧ Aside0 (kq ≤ k3) ∧ Aside0 (Kd.R (Kd.int .i64) 3 wc w.heap.size (fun k_ => some k_ ≠ (v331 : Value).ownBlock) (.slice Ao9 t314.length co9) t314) ∧ Aside0 (Kd.R k_Column 65 wc w.heap.size (fun _ => True) (.slice Ao20 t317.length co20) t317) ∧ Aside0 (Kd.R (Kd.int .i64) 3 wc w.heap.size (fun k_ => some k_ ≠ ((.slice Ao9 t314.length co9) : Value).ownBlock) v331 t329) ∧ Aside0 (Below w.heap.size w wc))
            case first =>
             have H := HC33.out
             clear HC33
             by_cases c35 : t330 = true
             ·subst c35
              replace H := ift H
              obtain ⟨t333, A36, H⟩ := bnd H
              by_cases c37 : t333 = true
              ·subst c37
               replace H := ift H
               have H' := Aside0.mk H
               clear H
               go_wp2_with (first | (go_at_call 22; (with_reducible refine (impl_GoodAlias.calls k3 _ _ t317 true _ ?side1 ?side2 A36.out).mono ?_); (case side1 => exact CW ((Kd.R_reads' HO_6.out).2.2)); (case side2 => exact RI HO_6); rintro e w38 ⟨rfl, hb⟩; replace HO_5 := RB HO_5 hb; replace HO_6 := RB HO_6 hb; replace HO_79 := RB HO_79 hb; replace HO332 := RB HO332 hb; replace HB := BS hb; clear hb))
               repeat (go_quiet (first | (go_at_call 22; (with_reducible refine (impl_GoodAlias.calls k3 _ _ t317 true _ ?side1 ?side2 A36.out).mono ?_); (case side1 => exact CW ((Kd.R_reads' HO_6.out).2.2)); (case side2 => exact RI HO_6); rintro e w38 ⟨rfl, hb⟩; replace HO_5 := RB HO_5 hb; replace HO_6 := RB HO_6 hb; replace HO_79 := RB HO_79 hb; replace HO332 := RB HO332 hb; replace HB := BS hb; clear hb)); try go_wp2_with (first | (go_at_call 22; (with_reducible refine (impl_GoodAlias.calls k3 _ _ t317 true _ ?side1 ?side2 A36.out).mono ?_); (case side1 => exact CW ((Kd.R_reads' HO_6.out).2.2)); (case side2 => exact RI HO_6); rintro e w38 ⟨rfl, hb⟩; replace HO_5 := RB HO_5 hb; replace HO_6 := RB HO_6 hb; replace HO_79 := RB HO_79 hb; replace HO332 := RB HO332 hb; replace HB := BS hb; clear hb)))
               go_meet
               case rel => exact ⟨_, (((t317.length : Int) != (t314.length : Int))), TF, H', ⟨by have := HJ6.out; have := HK2.out; have := HK3.out; first | omega | exact Nat.le_refl _⟩, MO HO_5, RW HO_6, MO HO332, ⟨TB⟩⟩
              ·replace c37 := Bool.eq_false_iff.mpr c37
               subst c37
               replace H := iff' H
               have H' := Aside0.mk H
               clear H
               go_wp2_with (first | (go_at_call 22; (with_reducible refine (impl_GoodAlias.calls k3 _ _ t317 false _ ?side1 ?side2 A36.out).mono ?_); (case side1 => exact CW ((Kd.R_reads' HO_6.out).2.2)); (case side2 => exact RI HO_6); rintro e w39 ⟨rfl, hb⟩; replace HO_5 := RB HO_5 hb; replace HO_6 := RB HO_6 hb; replace HO_79 := RB HO_79 hb; replace HO332 := RB HO332 hb; replace HB := BS hb; clear hb))
               repeat (go_quiet (first | (go_at_call 22; (with_reducible refine (impl_GoodAlias.calls k3 _ _ t317 false _ ?side1 ?side2 A36.out).mono ?_); (case side1 => exact CW ((Kd.R_reads' HO_6.out).2.2)); (case side2 => exact RI HO_6); rintro e w39 ⟨rfl, hb⟩; replace HO_5 := RB HO_5 hb; replace HO_6 := RB HO_6 hb; replace HO_79 := RB HO_79 hb; replace HO332 := RB HO332 hb; replace HB := BS hb; clear hb)); try go_wp2_with (first | (go_at_call 22; (with_reducible refine (impl_GoodAlias.calls k3 _ _ t317 false _ ?side1 ?side2 A36.out).mono ?_); (case side1 => exact CW ((Kd.R_reads' HO_6.out).2.2)); (case side2 => exact RI HO_6); rintro e w39 ⟨rfl, hb⟩; replace HO_5 := RB HO_5 hb; replace HO_6 := RB HO_6 hb; replace HO_79 := RB HO_79 hb; replace HO332 := RB HO332 hb; replace HB := BS hb; clear hb)))
               go_meet
               case rel => exact ⟨_, (true), TF, H', ⟨by have := HJ6.out; have := HK2.out; have := HK3.out; first | omega | exact Nat.le_refl _⟩, MO HO_5, RW HO_6, MO HO332, ⟨TB⟩⟩
             ·replace c35 := Bool.eq_false_iff.mpr c35
              subst c35
              replace H := iff' H
              have H' := Aside0.mk H
              clear H
              go_wp2
              repeat (go_quiet (fail); try go_wp2)
              go_meet
              case rel => exact ⟨_, (true), TF, H', ⟨by have := HJ6.out; have := HK2.out; have := HK3.out; first | omega | exact Nat.le_refl _⟩, MO HO_5, RW HO_6, MO HO332, ⟨TB⟩⟩
            case rest =>
             clear HC33
             obtain ⟨kq, x108_32, rfl, HA, HJ32, HO_5, HO_6, HO_14, HB⟩ := hcut
             cases kq with
             | zero => exact absurd HA.out (by simp [laws_FnAlias.j3])
             | succ kj32 =>
              have H := HA.out
              clear HA
              simp only [laws_FnAlias.j3] at H
              by_cases c40 : x108_32 = true
              ·subst c40
               replace H := ift H
               obtain rfl := Option.some.inj H
               go_wp2
               repeat (go_quiet (fail); try go_wp2)
               go_ret
               exact ⟨TE, TB⟩
              ·replace c40 := Bool.eq_false_iff.mpr c40
               subst c40
               replace H := iff' H
               have H' := Aside0.mk H
               clear H
               go_wp2
               repeat (go_quiet (fail); try go_wp2)
               go_loopg [111] kj32 (fun kq v111 w' => ∃ (x111_5 : Int), v111 = .int .i64 x111_5 ∧ Aside0 (laws_FnAlias.l2 kq l1 t314 t317 x11_3 t329 t314 (t314.length : Int) x111_5 = some r) ∧ Aside0 (kq ≤ kj32) ∧ Aside0 (Kd.R (Kd.int .i64) 3 w' w.heap.size (fun k_ => some k_ ≠ (v331 : Value).ownBlock) (.slice Ao9 t314.length co9) t314) ∧ Aside0 (Kd.R k_Column 65 w' w.heap.size (fun _ => True) (.slice Ao20 t317.length co20) t317) ∧ Aside0 (Kd.R (Kd.int .i64) 3 w' w.heap.size (fun k_ => some k_ ≠ ((.slice Ao9 t314.length co9) : Value).ownBlock ∧ some k_ ≠ ((.slice Ao9 t314.length co9) : Value).ownBlock) v331 t329) ∧ Aside0 (Kd.R (Kd.int .i64) 3 w' w.heap.size (fun k_ => some k_ ≠ (v331 : Value).ownBlock) (.slice Ao9 t314.length co9) t314) ∧ Aside0 (Below w.heap.size w w'))
               case atStart => exact ⟨(0), TF, H', ⟨Nat.le_refl _⟩, RW HO_5, RW HO_6, MO HO_14, RW HO_5, ⟨TB⟩⟩
               case round =>
                clear H'
                obtain ⟨x111_5, rfl, HA, HK5, HO_5, HO_6, HO_14, HO_109, HB⟩ := hrel
                cases gk with
                | zero => exact absurd HA.out (by simp [laws_FnAlias.l2])
                | succ k5 =>
                 have H := HA.out
                 clear HA
                 simp only [laws_FnAlias.l2] at H
                 by_cases c41 : x111_5 < (t314.length : Int)
                 ·rw [if_pos c41] at H
                  have c41b0 : decide (x111_5 < (t314.length : Int)) = true := decide_eq_true c41
                  clear c41
                  obtain ⟨c42, H⟩ := ifn H
                  have c42b0 : decide (0 ≤ x111_5) = true := decide_eq_true c42
                  clear c42
                  obtain ⟨c43, H⟩ := ifn H
                  have c43b0 : decide (x111_5 < (t314.length : Int)) = true := decide_eq_true c43
                  clear c43
                  obtain ⟨c44, H⟩ := ifn H
                  have c44b0 : decide (x111_5 < (t329.length : Int)) = true := decide_eq_true c44
                  clear c44
                  by_cases c45 : (rd t329 x111_5) = (wrap64 ((rd t314 x111_5) * (t314.length : Int)))
                  ·rw [if_pos c45] at H
                   have c45b0 : ((rd t329 x111_5) == (wrap64 ((rd t314 x111_5) * (t314.length : Int)))) = true := beq_iff_eq.mpr c45
                   have c45b1 : ((rd t329 x111_5) != (wrap64 ((rd t314 x111_5) * (t314.length : Int)))) = false := bne_eq_false_iff_eq.mpr c45
                   clear c45
                   have H' := Aside0.mk H
                   clear H
                   have p334 : 0 ≤ (x111_5 : Int) := TD
                   have q334 : x111_5 < (t314.length : Int) := TD
                   obtain ⟨ad334, e334, hx334_0⟩ := Kd.at_int (Kd.R_reads' HO_109.out).2.2 x111_5 p334 q334
                   cases e334
                   replace p334 := eq_true p334
                   replace q334 := eq_true q334
                   obtain ⟨Ao46, co46, eo46⟩ := Kd.R_slice HO_14.out
                   subst eo46
                   have p335 : 0 ≤ (x111_5 : Int) := TD
                   have q335 : x111_5 < (t329.length : Int) := TD
                   obtain ⟨ad335, e335, hx335_0⟩ := Kd.at_int (Kd.R_reads' HO_14.out).2.2 x111_5 p335 q335
                   cases e335
                   replace p335 := eq_true p335
                   replace q335 := eq_true q335
                   go_wp2
                   repeat (go_quiet (fail); try go_wp2)
                   go_roundg k5
                   case measure => have := HJ6.out; have := HK2.out; have := HK3.out; have := HJ32.out; have := HK5.out; omega
                   case rel => exact ⟨(wrap64 (x111_5 + 1)), TF, H', ⟨by have := HJ6.out; have := HK2.out; have := HK3.out; have := HJ32.out; have := HK5.out; omega⟩, RW HO_5, RW HO_6, RW HO_14, RW HO_109, ⟨TB⟩⟩
                  ·rw [if_neg c45] at H
                   have c45b0 : ((rd t329 x111_5) == (wrap64 ((rd t314 x111_5) * (t314.length : Int)))) = false := beq_eq_false_iff_ne.mpr c45
                   have c45b1 : ((rd t329 x111_5) != (wrap64 ((rd t314 x111_5) * (t314.length : Int)))) = true := bne_iff_ne.mpr c45
                   obtain rfl := Option.some.inj H
                   have p334 : 0 ≤ (x111_5 : Int) := TD
                   have q334 : x111_5 < (t314.length : Int) := TD
                   obtain ⟨ad334, e334, hx334_0⟩ := Kd.at_int (Kd.R_reads' HO_109.out).2.2 x111_5 p334 q334
                   cases e334
                   replace p334 := eq_true p334
                   replace q334 := eq_true q334
                   obtain ⟨Ao47, co47, eo47⟩ := Kd.R_slice HO_14.out
                   subst eo47
                   have p335 : 0 ≤ (x111_5 : Int) := TD
                   have q335 : x111_5 < (t329.length : Int) := TD
                   obtain ⟨ad335, e335, hx335_0⟩ := Kd.at_int (Kd.R_reads' HO_14.out).2.2 x111_5 p335 q335
                   cases e335
                   replace p335 := eq_true p335
                   replace q335 := eq_true q335
                   go_wp2
                   repeat (go_quiet (fail); try go_wp2)
                   go_ret
                   exact ⟨TE, TB⟩
                 ·rw [if_neg c41] at H
                  have c41b0 : decide (x111_5 < (t314.length : Int)) = false := decide_eq_false c41
                  clear c41
                  by_cases c48 : x11_3 ≤ 40
                  ·rw [if_pos c48] at H
                   have c48b0 : decide (x11_3 ≤ 40) = true := decide_eq_true c48
                   clear c48
                   obtain ⟨c49, H⟩ := ifn H
                   have c49b0 := eq_true c49
                   have c49b1 : decide (0 ≤ (t314.length : Int)) = true := decide_eq_true c49
                   clear c49
                   obtain ⟨c50, H⟩ := ifn H
                   have c50b0 := eq_true c50
                   have c50b1 : decide (((t314.length : Int) : Int).toNat ≤ 35184372088832) = true := decide_eq_true c50
                   clear c50
                   obtain ⟨y336, hy336⟩ : ∃ y_ : List Int, y_ = (List.replicate ((t314.length : Int) : Int).toNat 0) := ⟨_, rfl⟩
                   replace H : (laws_FnAlias.l3 k5 l1 t314 t317 x11_3 t329 y336 0) = some r := by first | (rw [hy336]; with_reducible exact H) | (have H2_ := (Option.bind_some _ _).symm.trans H; rw [hy336]; with_reducible exact H2_) | (have H2_ := (Option.bind_some _ _).symm.trans H; with_reducible exact H2_) | with_reducible exact H | (rw [hy336]; exact H) | exact H
                   have Ny336 := Aside0.mk hy336
                   clear hy336
                   have H' := Aside0.mk H
                   clear H
                   go_wp2_with (first | ((with_reducible refine gate_dst (N := 130) rfl ?_); (try (refine gate_guard (by rfl) ?_; dsimp only)); refine Kd.R_make (Kd.int .i64) _ 3 rfl (N := 130) rfl 22 _ _ rfl (t314.length : Int) rfl rfl Try.underlying22 (.int .i64 0) 8 info3 rfl (by decide) (by omega) 0 (ok := fun _ => True) (okp := fun _ => True) rfl (fun _ hk => hk) trivial TD (Nat.le_trans (Nat.mul_le_mul_right _ (TD : (t314.length : Int).toNat ≤ 35184372088832)) (by omega)) (Below.refl _ _) (Nat.le_refl _) ?_; intro v337 w51 ho52 hb hg_ hnew_; clear hg_ hnew_; (first | rw [← Ny336.out] at ho52 | (simp only [Int.reduceToNat] at ho52; rw [← Ny336.out] at ho52)); replace HO_6 := RB HO_6 hb; have HO338 := RL (NW (NW (NW ho52 HO_5) HO_14) HO_109); replace HO_5 := EL HO_5 ho52 hb; replace HO_14 := EL HO_14 ho52 hb; replace HO_109 := EL HO_109 ho52 hb; replace HB := BS hb; clear hb ho52))
                   repeat (go_quiet (first | ((with_reducible refine gate_dst (N := 130) rfl ?_); (try (refine gate_guard (by rfl) ?_; dsimp only)); refine Kd.R_make (Kd.int .i64) _ 3 rfl (N := 130) rfl 22 _ _ rfl (t314.length : Int) rfl rfl Try.underlying22 (.int .i64 0) 8 info3 rfl (by decide) (by omega) 0 (ok := fun _ => True) (okp := fun _ => True) rfl (fun _ hk => hk) trivial TD (Nat.le_trans (Nat.mul_le_mul_right _ (TD : (t314.length : Int).toNat ≤ 35184372088832)) (by omega)) (Below.refl _ _) (Nat.le_refl _) ?_; intro v337 w51 ho52 hb hg_ hnew_; clear hg_ hnew_; (first | rw [← Ny336.out] at ho52 | (simp only [Int.reduceToNat] at ho52; rw [← Ny336.out] at ho52)); replace HO_6 := RB HO_6 hb; have HO338 := RL (NW (NW (NW ho52 HO_5) HO_14) HO_109); replace HO_5 := EL HO_5 ho52 hb; replace HO_14 := EL HO_14 ho52 hb; replace HO_109 := EL HO_109 ho52 hb; replace HB := BS hb; clear hb ho52)); try go_wp2_with (first | ((with_reducible refine gate_dst (N := 130) rfl ?_); (try (refine gate_guard (by rfl) ?_; dsimp only)); refine Kd.R_make (Kd.int .i64) _ 3 rfl (N := 130) rfl 22 _ _ rfl (t314.length : Int) rfl rfl Try.underlying22 (.int .i64 0) 8 info3 rfl (by decide) (by omega) 0 (ok := fun _ => True) (okp := fun _ => True) rfl (fun _ hk => hk) trivial TD (Nat.le_trans (Nat.mul_le_mul_right _ (TD : (t314.length : Int).toNat ≤ 35184372088832)) (by omega)) (Below.refl _ _) (Nat.le_refl _) ?_; intro v337 w51 ho52 hb hg_ hnew_; clear hg_ hnew_; (first | rw [← Ny336.out] at ho52 | (simp only [Int.reduceToNat] at ho52; rw [← Ny336.out] at ho52)); replace HO_6 := RB HO_6 hb; have HO338 := RL (NW (NW (NW ho52 HO_5) HO_14) HO_109); replace HO_5 := EL HO_5 ho52 hb; replace HO_14 := EL HO_14 ho52 hb; replace HO_109 := EL HO_109 ho52 hb; replace HB := BS hb; clear hb ho52)))
                   go_loopg [19] k5 (fun kq v19 w' => ∃ (x18_6 : List Int) (x19_6 : Int), v19 = .int .i64 x19_6 ∧ Aside0 (laws_FnAlias.l3 kq l1 t314 t317 x11_3 t329 x18_6 x19_6 = some r) ∧ Aside0 (kq ≤ k5) ∧ Aside0 (Kd.R (Kd.int .i64) 3 w' w.heap.size (fun k_ => some k_ ≠ (v331 : Value).ownBlock ∧ some k_ ≠ (v337 : Value).ownBlock) (.slice Ao9 t314.length co9) t314) ∧ Aside0 (Kd.R k_Column 65 w' w.heap.size (fun _ => True) (.slice Ao20 t317.length co20) t317) ∧ Aside0 (Kd.R (Kd.int .i64) 3 w' w.heap.size (fun k_ => some k_ ≠ ((.slice Ao9 t314.length co9) : Value).ownBlock ∧ some k_ ≠ (v337 : Value).ownBlock) v331 t329) ∧ Aside0 (Kd.R (Kd.int .i64) 3 w' w.heap.size (fun k_ => some k_ ≠ ((.slice Ao9 t314.length co9) : Value).ownBlock ∧ some k_ ≠ (v331 : Value).ownBlock) v337 x18_6) ∧ Aside0 (Below w.heap.size w w'))
                   case atStart => exact ⟨(y336), (0), TF, H', ⟨Nat.le_refl _⟩, RW HO_5, RW HO_6, MO HO_14, MO HO338, ⟨TB⟩⟩
                   case round =>
                    clear H'
                    obtain ⟨x18_6, x19_6, rfl, HA, HK6, HO_5, HO_6, HO_14, HO_18, HB⟩ := hrel
                    cases gk with
                    | zero => exact absurd HA.out (by simp [laws_FnAlias.l3])
                    | succ k6 =>
                     have H := HA.out
                     clear HA
                     simp only [laws_FnAlias.l3] at H
                     by_cases c53 : x19_6 < (wrap64 ((t314.length : Int) * x11_3))
                     ·rw [if_pos c53] at H
                      have c53b0 : decide (x19_6 < (wrap64 ((t314.length : Int) * x11_3))) = true := decide_eq_true c53
                      clear c53
                      obtain ⟨⟨t339, t340⟩, A54, H⟩ := bnd H
                      try dsimp only at H
                      by_cases c55 : t340 = true
                      ·subst c55
                       replace H := ift H
                       by_cases c56 : t339 < 0
                       ·rw [if_pos c56] at H
                        have c56b0 : decide (t339 < 0) = true := decide_eq_true c56
                        clear c56
                        obtain rfl := Option.some.inj H
                        go_wp2_with (first | (go_at_call 25; (with_reducible refine (impl_PickBy.calls k6 _ _ t317 x11_3 x19_6 t339 true _ ?side1 ?side2 A54.out).mono ?_); (case side1 => exact CW ((Kd.R_reads' HO_6.out).2.2)); (case side2 => exact RI HO_6); rintro e w57 ⟨rfl, hb⟩; replace HO_5 := RB HO_5 hb; replace HO_6 := RB HO_6 hb; replace HO_14 := RB HO_14 hb; replace HO_18 := RB HO_18 hb; replace HB := BS hb; clear hb))
                        repeat (go_quiet (first | (go_at_call 25; (with_reducible refine (impl_PickBy.calls k6 _ _ t317 x11_3 x19_6 t339 true _ ?side1 ?side2 A54.out).mono ?_); (case side1 => exact CW ((Kd.R_reads' HO_6.out).2.2)); (case side2 => exact RI HO_6); rintro e w57 ⟨rfl, hb⟩; replace HO_5 := RB HO_5 hb; replace HO_6 := RB HO_6 hb; replace HO_14 := RB HO_14 hb; replace HO_18 := RB HO_18 hb; replace HB := BS hb; clear hb)); try go_wp2_with (first | (go_at_call 25; (with_reducible refine (impl_PickBy.calls k6 _ _ t317 x11_3 x19_6 t339 true _ ?side1 ?side2 A54.out).mono ?_); (case side1 => exact CW ((Kd.R_reads' HO_6.out).2.2)); (case side2 => exact RI HO_6); rintro e w57 ⟨rfl, hb⟩; replace HO_5 := RB HO_5 hb; replace HO_6 := RB HO_6 hb; replace HO_14 := RB HO_14 hb; replace HO_18 := RB HO_18 hb; replace HB := BS hb; clear hb)))
                        go_ret
                        exact ⟨TE, TB⟩
                       ·rw [if_neg c56] at H
                        have c56b0 : decide (t339 < 0) = false := decide_eq_false c56
                        clear c56
                        by_cases c58 : t339 ≥ (t314.length : Int)
                        ·rw [if_pos c58] at H
                         have c58b0 : decide ((t314.length : Int) ≤ t339) = true := decide_eq_true c58
                         clear c58
                         obtain rfl := Option.some.inj H
                         go_wp2_with (first | (go_at_call 25; (with_reducible refine (impl_PickBy.calls k6 _ _ t317 x11_3 x19_6 t339 true _ ?side1 ?side2 A54.out).mono ?_); (case side1 => exact CW ((Kd.R_reads' HO_6.out).2.2)); (case side2 => exact RI HO_6); rintro e w59 ⟨rfl, hb⟩; replace HO_5 := RB HO_5 hb; replace HO_6 := RB HO_6 hb; replace HO_14 := RB HO_14 hb; replace HO_18 := RB HO_18 hb; replace HB := BS hb; clear hb))
                         repeat (go_quiet (first | (go_at_call 25; (with_reducible refine (impl_PickBy.calls k6 _ _ t317 x11_3 x19_6 t339 true _ ?side1 ?side2 A54.out).mono ?_); (case side1 => exact CW ((Kd.R_reads' HO_6.out).2.2)); (case side2 => exact RI HO_6); rintro e w59 ⟨rfl, hb⟩; replace HO_5 := RB HO_5 hb; replace HO_6 := RB HO_6 hb; replace HO_14 := RB HO_14 hb; replace HO_18 := RB HO_18 hb; replace HB := BS hb; clear hb)); try go_wp2_with (first | (go_at_call 25; (with_reducible refine (impl_PickBy.calls k6 _ _ t317 x11_3 x19_6 t339 true _ ?side1 ?side2 A54.out).mono ?_); (case side1 => exact CW ((Kd.R_reads' HO_6.out).2.2)); (case side2 => exact RI HO_6); rintro e w59 ⟨rfl, hb⟩; replace HO_5 := RB HO_5 hb; replace HO_6 := RB HO_6 hb; replace HO_14 := RB HO_14 hb; replace HO_18 := RB HO_18 hb; replace HB := BS hb; clear hb)))
                         go_ret
                         exact ⟨TE, TB⟩
                        ·rw [if_neg c58] at H
                         have c58b0 : decide ((t314.length : Int) ≤ t339) = false := decide_eq_false c58
                         clear c58
                         obtain ⟨c60, H⟩ := ifn H
                         have c60b0 : decide (0 ≤ t339) = true := decide_eq_true c60
                         clear c60
                         obtain ⟨c61, H⟩ := ifn H
                         have c61b0 : decide (t339 < (x18_6.length : Int)) = true := decide_eq_true c61
                         clear c61
                         obtain ⟨y342, hy342⟩ : ∃ y_ : List Int, y_ = (x18_6.set (t339 : Int).toNat (wrap64 ((rd x18_6 t339) + 1))) := ⟨_, rfl⟩
                         replace H : (laws_FnAlias.l3 k6 l1 t314 t317 x11_3 t329 y342 (wrap64 (x19_6 + 1))) = some r := by first | (rw [hy342]; with_reducible exact H) | (have H2_ := (Option.bind_some _ _).symm.trans H; rw [hy342]; with_reducible exact H2_) | (have H2_ := (Option.bind_some _ _).symm.trans H; with_reducible exact H2_) | with_reducible exact H | (rw [hy342]; exact H) | exact H
                         have Ny342 := Aside0.mk hy342
                         clear hy342
                         have H' := Aside0.mk H
                         clear H
                         go_wp2_with (first | (go_at_call 25; (with_reducible refine (impl_PickBy.calls k6 _ _ t317 x11_3 x19_6 t339 true _ ?side1 ?side2 A54.out).mono ?_); (case side1 => exact CW ((Kd.R_reads' HO_6.out).2.2)); (case side2 => exact RI HO_6); rintro e w63 ⟨rfl, hb⟩; replace HO_5 := RB HO_5 hb; replace HO_6 := RB HO_6 hb; replace HO_14 := RB HO_14 hb; replace HO_18 := RB HO_18 hb; replace HB := BS hb; clear hb; obtain ⟨Ao64, co64, eo64⟩ := Kd.R_slice HO_18.out; subst eo64; have p341 : 0 ≤ (t339 : Int) := TD; have q341 : t339 < (x18_6.length : Int) := TD; obtain ⟨ad341, e341, hx341_0⟩ := Kd.at_int (Kd.R_reads' HO_18.out).2.2 t339 p341 q341; cases e341; replace p341 := eq_true p341; replace q341 := eq_true q341; have p62 : 0 ≤ (t339 : Int) := TD; have q62 : (t339 : Int) < ((x18_6.length : Int) : Int) := TD; obtain ⟨go62, co62, eo62, gb62, gl62, cl62, HG62⟩ := Kd.R_form HO_18.out (by omega); (first | cases eo62 | (injection eo62 with ea_ en_ ec_; (first | subst ea_ | (injection ea_ with ea_; subst ea_)); subst ec_; clear en_)); have GB62 := Aside0.mk gb62; have GG62 := Aside0.mk HG62; clear gb62 gl62 HG62; (first | simp only [add_plain] at hx341_0 | skip); obtain ⟨hx62_0, hf62_0⟩ := Kd.R_celln 0 HO_18.out (t339 : Int) p62 q62; replace p62 := eq_true p62; replace q62 := eq_true q62; obtain ⟨hy65_, hz65_⟩ := Kd.R_celln 0 HO_18.out (t339 : Int) TD TD; have HP65 := Kd.R_putg HO_18.out (t339 : Int) (wrap64 ((rd x18_6 t339) + 1))) | ((with_reducible refine gate_store (t := 3) (p := 163) rfl ?_); (try (rw [drewN_self w63]; generalize hq_ : World.drewN w63 _ = w63; have n0_ := Aside0.mk (Kd.R_at hq_ HO_5.out); have n1_ := Aside0.mk (Kd.R_at hq_ HO_6.out); have n2_ := Aside0.mk (Kd.R_at hq_ HO_14.out); have n3_ := Aside0.mk (Kd.R_at hq_ HO_18.out); have n4_ := Aside0.mk (below_at hq_ HB.out); clear hq_ HO_5 HO_6 HO_14 HO_18 HB; have HO_5 := n0_; have HO_6 := n1_; have HO_14 := n2_; have HO_18 := n3_; have HB := n4_; clear n0_ n1_ n2_ n3_ n4_; (try (obtain ⟨hy65_, hz65_⟩ := Kd.R_celln 0 HO_18.out (t339 : Int) TD TD)); (try (have HP65 := Kd.R_putg HO_18.out (t339 : Int) (wrap64 ((rd x18_6 t339) + 1)))))); refine store_event (t := 3) (p := 163) (v := ?vo_w66) (w1 := (w63.setCell ⟨go62, (t339 : Int).toNat, none⟩ (.int .i64 (wrap64 ((rd x18_6 t339) + 1))))) ?hg ?ho ?hn ?hr ?_; (case ho => rfl); (case hg => rfl); (case hn => rfl); (case hr => first | (go_simp; done) | (go_simp; rfl)); intro w66 hw; have hg : w63.grownBy w66 (some go62) := (by rw [hw]; exact HP65.2); have hp_ : Kd.R (Kd.int .i64) 3 w66 w.heap.size (fun k_ => some k_ ≠ (.slice Ao9 t314.length co9 : Value).ownBlock ∧ some k_ ≠ (v331 : Value).ownBlock) (.slice (some ⟨go62, 0, none⟩) x18_6.length co64) y342 := (by rw [hw, Ny342.out]; exact HP65.1); clear HP65; replace HO_5 := Aside0.mk (Kd.R_after (v := (.slice (some ⟨go62, 0, none⟩) x18_6.length co64)) (v1 := (.slice (some ⟨go62, 0, none⟩) x18_6.length co64)) (ok := (fun k_ => some k_ ≠ (v331 : Value).ownBlock)) (RW HO_5).out hg (.inl rfl)); replace HO_6 := Aside0.mk (Kd.R_over' (v := (.slice (some ⟨go62, 0, none⟩) x18_6.length co64)) (RW HO_6).out (Kd.R_typed HO_18.out) (by decide) hg); replace HO_14 := Aside0.mk (Kd.R_after (v := (.slice (some ⟨go62, 0, none⟩) x18_6.length co64)) (v1 := (.slice (some ⟨go62, 0, none⟩) x18_6.length co64)) (ok := (fun k_ => some k_ ≠ (.slice Ao9 t314.length co9 : Value).ownBlock)) (RW HO_14).out hg (.inl rfl)); replace HO_18 := Aside0.mk (hp_); replace HB := Aside0.mk ((by rw [hw]; exact below_set (HB.out) GB62.out : Below w.heap.size w w66)); clear hg hw hp_))
                         repeat (go_quiet (first | (go_at_call 25; (with_reducible refine (impl_PickBy.calls k6 _ _ t317 x11_3 x19_6 t339 true _ ?side1 ?side2 A54.out).mono ?_); (case side1 => exact CW ((Kd.R_reads' HO_6.out).2.2)); (case side2 => exact RI HO_6); rintro e w63 ⟨rfl, hb⟩; replace HO_5 := RB HO_5 hb; replace HO_6 := RB HO_6 hb; replace HO_14 := RB HO_14 hb; replace HO_18 := RB HO_18 hb; replace HB := BS hb; clear hb; obtain ⟨Ao64, co64, eo64⟩ := Kd.R_slice HO_18.out; subst eo64; have p341 : 0 ≤ (t339 : Int) := TD; have q341 : t339 < (x18_6.length : Int) := TD; obtain ⟨ad341, e341, hx341_0⟩ := Kd.at_int (Kd.R_reads' HO_18.out).2.2 t339 p341 q341; cases e341; replace p341 := eq_true p341; replace q341 := eq_true q341; have p62 : 0 ≤ (t339 : Int) := TD; have q62 : (t339 : Int) < ((x18_6.length : Int) : Int) := TD; obtain ⟨go62, co62, eo62, gb62, gl62, cl62, HG62⟩ := Kd.R_form HO_18.out (by omega); (first | cases eo62 | (injection eo62 with ea_ en_ ec_; (first | subst ea_ | (injection ea_ with ea_; subst ea_)); subst ec_; clear en_)); have GB62 := Aside0.mk gb62; have GG62 := Aside0.mk HG62; clear gb62 gl62 HG62; (first | simp only [add_plain] at hx341_0 | skip); obtain ⟨hx62_0, hf62_0⟩ := Kd.R_celln 0 HO_18.out (t339 : Int) p62 q62; replace p62 := eq_true p62; replace q62 := eq_true q62; obtain ⟨hy65_, hz65_⟩ := Kd.R_celln 0 HO_18.out (t339 : Int) TD TD; have HP65 := Kd.R_putg HO_18.out (t339 : Int) (wrap64 ((rd x18_6 t339) + 1))) | ((with_reducible refine gate_store (t := 3) (p := 163) rfl ?_); (try (rw [drewN_self w63]; generalize hq_ : World.drewN w63 _ = w63; have n0_ := Aside0.mk (Kd.R_at hq_ HO_5.out); have n1_ := Aside0.mk (Kd.R_at hq_ HO_6.out); have n2_ := Aside0.mk (Kd.R_at hq_ HO_14.out); have n3_ := Aside0.mk (Kd.R_at hq_ HO_18.out); have n4_ := Aside0.mk (below_at hq_ HB.out); clear hq_ HO_5 HO_6 HO_14 HO_18 HB; have HO_5 := n0_; have HO_6 := n1_; have HO_14 := n2_; have HO_18 := n3_; have HB := n4_; clear n0_ n1_ n2_ n3_ n4_; (try (obtain ⟨hy65_, hz65_⟩ := Kd.R_celln 0 HO_18.out (t339 : Int) TD TD)); (try (have HP65 := Kd.R_putg HO_18.out (t339 : Int) (wrap64 ((rd x18_6 t339) + 1)))))); refine store_event (t := 3) (p := 163) (v := ?vo_w66) (w1 := (w63.setCell ⟨go62, (t339 : Int).toNat, none⟩ (.int .i64 (wrap64 ((rd x18_6 t339) + 1))))) ?hg ?ho ?hn ?hr ?_; (case ho => rfl); (case hg => rfl); (case hn => rfl); (case hr => first | (go_simp; done) | (go_simp; rfl)); intro w66 hw; have hg : w63.grownBy w66 (some go62) := (by rw [hw]; exact HP65.2); have hp_ : Kd.R (Kd.int .i64) 3 w66 w.heap.size (fun k_ => some k_ ≠ (.slice Ao9 t314.length co9 : Value).ownBlock ∧ some k_ ≠ (v331 : Value).ownBlock) (.slice (some ⟨go62, 0, none⟩) x18_6.length co64) y342 := (by rw [hw, Ny342.out]; exact HP65.1); clear HP65; replace HO_5 := Aside0.mk (Kd.R_after (v := (.slice (some ⟨go62, 0, none⟩) x18_6.length co64)) (v1 := (.slice (some ⟨go62, 0, none⟩) x18_6.length co64)) (ok := (fun k_ => some k_ ≠ (v331 : Value).ownBlock)) (RW HO_5).out hg (.inl rfl)); replace HO_6 := Aside0.mk (Kd.R_over' (v := (.slice (some ⟨go62, 0, none⟩) x18_6.length co64)) (RW HO_6).out (Kd.R_typed HO_18.out) (by decide) hg); replace HO_14 := Aside0.mk (Kd.R_after (v := (.slice (some ⟨go62, 0, none⟩) x18_6.length co64)) (v1 := (.slice (some ⟨go62, 0, none⟩) x18_6.length co64)) (ok := (fun k_ => some k_ ≠ (.slice Ao9 t314.length co9 : Value).ownBlock)) (RW HO_14).out hg (.inl rfl)); replace HO_18 := Aside0.mk (hp_); replace HB := Aside0.mk ((by rw [hw]; exact below_set (HB.out) GB62.out : Below w.heap.size w w66)); clear hg hw hp_)); try go_wp2_with (first | (go_at_call 25; (with_reducible refine (impl_PickBy.calls k6 _ _ t317 x11_3 x19_6 t339 true _ ?side1 ?side2 A54.out).mono ?_); (case side1 => exact CW ((Kd.R_reads' HO_6.out).2.2)); (case side2 => exact RI HO_6); rintro e w63 ⟨rfl, hb⟩; replace HO_5 := RB HO_5 hb; replace HO_6 := RB HO_6 hb; replace HO_14 := RB HO_14 hb; replace HO_18 := RB HO_18 hb; replace HB := BS hb; clear hb; obtain ⟨Ao64, co64, eo64⟩ := Kd.R_slice HO_18.out; subst eo64; have p341 : 0 ≤ (t339 : Int) := TD; have q341 : t339 < (x18_6.length : Int) := TD; obtain ⟨ad341, e341, hx341_0⟩ := Kd.at_int (Kd.R_reads' HO_18.out).2.2 t339 p341 q341; cases e341; replace p341 := eq_true p341; replace q341 := eq_true q341; have p62 : 0 ≤ (t339 : Int) := TD; have q62 : (t339 : Int) < ((x18_6.length : Int) : Int) := TD; obtain ⟨go62, co62, eo62, gb62, gl62, cl62, HG62⟩ := Kd.R_form HO_18.out (by omega); (first | cases eo62 | (injection eo62 with ea_ en_ ec_; (first | subst ea_ | (injection ea_ with ea_; subst ea_)); subst ec_; clear en_)); have GB62 := Aside0.mk gb62; have GG62 := Aside0.mk HG62; clear gb62 gl62 HG62; (first | simp only [add_plain] at hx341_0 | skip); obtain ⟨hx62_0, hf62_0⟩ := Kd.R_celln 0 HO_18.out (t339 : Int) p62 q62; replace p62 := eq_true p62; replace q62 := eq_true q62; obtain ⟨hy65_, hz65_⟩ := Kd.R_celln 0 HO_18.out (t339 : Int) TD TD; have HP65 := Kd.R_putg HO_18.out (t339 : Int) (wrap64 ((rd x18_6 t339) + 1))) | ((with_reducible refine gate_store (t := 3) (p := 163) rfl ?_); (try (rw [drewN_self w63]; generalize hq_ : World.drewN w63 _ = w63; have n0_ := Aside0.mk (Kd.R_at hq_ HO_5.out); have n1_ := Aside0.mk (Kd.R_at hq_ HO_6.out); have n2_ := Aside0.mk (Kd.R_at hq_ HO_14.out); have n3_ := Aside0.mk (Kd.R_at hq_ HO_18.out); have n4_ := Aside0.mk (below_at hq_ HB.out); clear hq_ HO_5 HO_6 HO_14 HO_18 HB; have HO_5 := n0_; have HO_6 := n1_; have HO_14 := n2_; have HO_18 := n3_; have HB := n4_; clear n0_ n1_ n2_ n3_ n4_; (try (obtain ⟨hy65_, hz65_⟩ := Kd.R_celln 0 HO_18.out (t339 : Int) TD TD)); (try (have HP65 := Kd.R_putg HO_18.out (t339 : Int) (wrap64 ((rd x18_6 t339) + 1)))))); refine store_event (t := 3) (p := 163) (v := ?vo_w66) (w1 := (w63.setCell ⟨go62, (t339 : Int).toNat, none⟩ (.int .i64 (wrap64 ((rd x18_6 t339) + 1))))) ?hg ?ho ?hn ?hr ?_; (case ho => rfl); (case hg => rfl); (case hn => rfl); (case hr => first | (go_simp; done) | (go_simp; rfl)); intro w66 hw; have hg : w63.grownBy w66 (some go62) := (by rw [hw]; exact HP65.2); have hp_ : Kd.R (Kd.int .i64) 3 w66 w.heap.size (fun k_ => some k_ ≠ (.slice Ao9 t314.length co9 : Value).ownBlock ∧ some k_ ≠ (v331 : Value).ownBlock) (.slice (some ⟨go62, 0, none⟩) x18_6.length co64) y342 := (by rw [hw, Ny342.out]; exact HP65.1); clear HP65; replace HO_5 := Aside0.mk (Kd.R_after (v := (.slice (some ⟨go62, 0, none⟩) x18_6.length co64)) (v1 := (.slice (some ⟨go62, 0, none⟩) x18_6.length co64)) (ok := (fun k_ => some k_ ≠ (v331 : Value).ownBlock)) (RW HO_5).out hg (.inl rfl)); replace HO_6 := Aside0.mk (Kd.R_over' (v := (.slice (some ⟨go62, 0, none⟩) x18_6.length co64)) (RW HO_6).out (Kd.R_typed HO_18.out) (by decide) hg); replace HO_14 := Aside0.mk (Kd.R_after (v := (.slice (some ⟨go62, 0, none⟩) x18_6.length co64)) (v1 := (.slice (some ⟨go62, 0, none⟩) x18_6.length co64)) (ok := (fun k_ => some k_ ≠ (.slice Ao9 t314.length co9 : Value).ownBlock)) (RW HO_14).out hg (.inl rfl)); replace HO_18 := Aside0.mk (hp_); replace HB := Aside0.mk ((by rw [hw]; exact below_set (HB.out) GB62.out : Below w.heap.size w w66)); clear hg hw hp_)))
                         go_roundg k6
                         case measure => have := HJ6.out; have := HK2.out; have := HK3.out; have := HJ32.out; have := HK5.out; have := HK6.out; omega
                         case rel => exact ⟨(y342), (wrap64 (x19_6 + 1)), TF, H', ⟨by have := HJ6.out; have := HK2.out; have := HK3.out; have := HJ32.out; have := HK5.out; have := HK6.out; omega⟩, RW HO_5, RW HO_6, RW HO_14, RW HO_18, ⟨TB⟩⟩
                      ·replace c55 := Bool.eq_false_iff.mpr c55
                       subst c55
                       replace H := iff' H
                       obtain rfl := Option.some.inj H
                       go_wp2_with (first | (go_at_call 25; (with_reducible refine (impl_PickBy.calls k6 _ _ t317 x11_3 x19_6 t339 false _ ?side1 ?side2 A54.out).mono ?_); (case side1 => exact CW ((Kd.R_reads' HO_6.out).2.2)); (case side2 => exact RI HO_6); rintro e w67 ⟨rfl, hb⟩; replace HO_5 := RB HO_5 hb; replace HO_6 := RB HO_6 hb; replace HO_14 := RB HO_14 hb; replace HO_18 := RB HO_18 hb; replace HB := BS hb; clear hb))
                       repeat (go_quiet (first | (go_at_call 25; (with_reducible refine (impl_PickBy.calls k6 _ _ t317 x11_3 x19_6 t339 false _ ?side1 ?side2 A54.out).mono ?_); (case side1 => exact CW ((Kd.R_reads' HO_6.out).2.2)); (case side2 => exact RI HO_6); rintro e w67 ⟨rfl, hb⟩; replace HO_5 := RB HO_5 hb; replace HO_6 := RB HO_6 hb; replace HO_14 := RB HO_14 hb; replace HO_18 := RB HO_18 hb; replace HB := BS hb; clear hb)); try go_wp2_with (first | (go_at_call 25; (with_reducible refine (impl_PickBy.calls k6 _ _ t317 x11_3 x19_6 t339 false _ ?side1 ?side2 A54.out).mono ?_); (case side1 => exact CW ((Kd.R_reads' HO_6.out).2.2)); (case side2 => exact RI HO_6); rintro e w67 ⟨rfl, hb⟩; replace HO_5 := RB HO_5 hb; replace HO_6 := RB HO_6 hb; replace HO_14 := RB HO_14 hb; replace HO_18 := RB HO_18 hb; replace HB := BS hb; clear hb)))
                       go_ret
                       exact ⟨TE, TB⟩
                     ·rw [if_neg c53] at H
                      have c53b0 : decide (x19_6 < (wrap64 ((t314.length : Int) * x11_3))) = false := decide_eq_false c53
                      clear c53
                      obtain ⟨t343, A68, H⟩ := bnd H
                      by_cases c69 : t343 = true
                      ·subst c69
                       replace H := ift H
                       obtain ⟨⟨t344, t345, t346⟩, A70, H⟩ := bnd H
                       try dsimp only at H
                       obtain ⟨⟨t349, t350⟩, A71, H⟩ := bnd H
                       try dsimp only at H
                       obtain ⟨⟨t351, t352⟩, A72, H⟩ := bnd H
                       try dsimp only at H
                       by_cases c73 : (t350 == t352) = true
                       ·rw [if_pos c73] at H
                        have c73b0 : (t350 == t352) = true := c73
                        (try (have c73b1 : decide (t350 = t352) = true := by simpa using c73))
                        (try (have c73b2 : (t350 == t352) = true := by simpa using c73))
                        clear c73
                        obtain rfl := Option.some.inj H
                        obtain ⟨Ao74, co74, eo74⟩ := Kd.R_slice HO_18.out
                        subst eo74
                        obtain ⟨Ao75, co75, eo75⟩ := Kd.R_slice HO_14.out
                        subst eo75
                        go_wp2_with (first | (go_at_call 48; (with_reducible refine (laws_sameInts.calls k6 _ _ x18_6 _ _ t329 true _ ?side1 ?side2 ?side3 ?side4 A68.out).mono ?_); (case side1 => exact CW ((Kd.R_reads' HO_18.out).2.2)); (case side2 => exact RI HO_18); (case side3 => exact CW ((Kd.R_reads' HO_14.out).2.2)); (case side4 => exact RI HO_14); rintro e w' ⟨rfl, ⟨nd, rfl⟩⟩; (try first | exact ⟨rfl, _, World.drewN_drewN _ _ _⟩ | exact ⟨rfl, _, Eq.trans (World.drewN_drewN _ _ _) (congrArg (World.drewN _) (Nat.add_assoc _ _ _))⟩)) | (go_at_call 52; (with_reducible refine (spec_DrawPickBy.calls k6 _ _ l1 t344 t345 t346 _ ?side1 ?side2 A70.out).mono ?_); (case side1 => exact CW ((Kd.C_below HR1.out TB))); (case side2 => exact HC1.out); rintro e w76 ⟨v347, rfl, ho0, hb⟩; replace HO_5 := RB HO_5 hb; replace HO_14 := RB HO_14 hb; replace HO_18 := RB HO_18 hb; have HO348 := RL (NW ho0 HO_6); replace HO_6 := EL HO_6 ho0 hb; replace HB := BS hb; clear hb; (try clear ho0); obtain ⟨Ao77, co77, eo77⟩ := Kd.R_slice HO348.out; subst eo77) | (go_at_call 25; (with_reducible refine (impl_PickBy.calls k6 _ _ t344 t345 t346 t349 t350 _ ?side1 ?side2 A71.out).mono ?_); (case side1 => exact CW ((Kd.R_reads' HO348.out).2.2)); (case side2 => exact RI HO348); rintro e w78 ⟨rfl, hb⟩; replace HO_5 := RB HO_5 hb; replace HO_6 := RB HO_6 hb; replace HO_14 := RB HO_14 hb; replace HO_18 := RB HO_18 hb; replace HO348 := RB HO348 hb; replace HB := BS hb; clear hb) | (go_at_call 24; (with_reducible refine (spec_PickBy.calls k6 _ _ t344 t345 t346 t351 t352 _ ?side1 ?side2 A72.out).mono ?_); (case side1 => exact CW ((Kd.R_reads' HO348.out).2.2)); (case side2 => exact RI HO348); rintro e w79 ⟨rfl, hb⟩; replace HO_5 := RB HO_5 hb; replace HO_6 := RB HO_6 hb; replace HO_14 := RB HO_14 hb; replace HO_18 := RB HO_18 hb; replace HO348 := RB HO348 hb; replace HB := BS hb; clear hb))
                        repeat (go_quiet (first | (go_at_call 48; (with_reducible refine (laws_sameInts.calls k6 _ _ x18_6 _ _ t329 true _ ?side1 ?side2 ?side3 ?side4 A68.out).mono ?_); (case side1 => exact CW ((Kd.R_reads' HO_18.out).2.2)); (case side2 => exact RI HO_18); (case side3 => exact CW ((Kd.R_reads' HO_14.out).2.2)); (case side4 => exact RI HO_14); rintro e w' ⟨rfl, ⟨nd, rfl⟩⟩; (try first | exact ⟨rfl, _, World.drewN_drewN _ _ _⟩ | exact ⟨rfl, _, Eq.trans (World.drewN_drewN _ _ _) (congrArg (World.drewN _) (Nat.add_assoc _ _ _))⟩)) | (go_at_call 52; (with_reducible refine (spec_DrawPickBy.calls k6 _ _ l1 t344 t345 t346 _ ?side1 ?side2 A70.out).mono ?_); (case side1 => exact CW ((Kd.C_below HR1.out TB))); (case side2 => exact HC1.out); rintro e w76 ⟨v347, rfl, ho0, hb⟩; replace HO_5 := RB HO_5 hb; replace HO_14 := RB HO_14 hb; replace HO_18 := RB HO_18 hb; have HO348 := RL (NW ho0 HO_6); replace HO_6 := EL HO_6 ho0 hb; replace HB := BS hb; clear hb; (try clear ho0); obtain ⟨Ao77, co77, eo77⟩ := Kd.R_slice HO348.out; subst eo77) | (go_at_call 25; (with_reducible refine (impl_PickBy.calls k6 _ _ t344 t345 t346 t349 t350 _ ?side1 ?side2 A71.out).mono ?_); (case side1 => exact CW ((Kd.R_reads' HO348.out).2.2)); (case side2 => exact RI HO348); rintro e w78 ⟨rfl, hb⟩; replace HO_5 := RB HO_5 hb; replace HO_6 := RB HO_6 hb; replace HO_14 := RB HO_14 hb; replace HO_18 := RB HO_18 hb; replace HO348 := RB HO348 hb; replace HB := BS hb; clear hb) | (go_at_call 24; (with_reducible refine (spec_PickBy.calls k6 _ _ t344 t345 t346 t351 t352 _ ?side1 ?side2 A72.out).mono ?_); (case side1 => exact CW ((Kd.R_reads' HO348.out).2.2)); (case side2 => exact RI HO348); rintro e w79 ⟨rfl, hb⟩; replace HO_5 := RB HO_5 hb; replace HO_6 := RB HO_6 hb; replace HO_14 := RB HO_14 hb; replace HO_18 := RB HO_18 hb; replace HO348 := RB HO348 hb; replace HB := BS hb; clear hb)); try go_wp2_with (first | (go_at_call 48; (with_reducible refine (laws_sameInts.calls k6 _ _ x18_6 _ _ t329 true _ ?side1 ?side2 ?side3 ?side4 A68.out).mono ?_); (case side1 => exact CW ((Kd.R_reads' HO_18.out).2.2)); (case side2 => exact RI HO_18); (case side3 => exact CW ((Kd.R_reads' HO_14.out).2.2)); (case side4 => exact RI HO_14); rintro e w' ⟨rfl, ⟨nd, rfl⟩⟩; (try first | exact ⟨rfl, _, World.drewN_drewN _ _ _⟩ | exact ⟨rfl, _, Eq.trans (World.drewN_drewN _ _ _) (congrArg (World.drewN _) (Nat.add_assoc _ _ _))⟩)) | (go_at_call 52; (with_reducible refine (spec_DrawPickBy.calls k6 _ _ l1 t344 t345 t346 _ ?side1 ?side2 A70.out).mono ?_); (case side1 => exact CW ((Kd.C_below HR1.out TB))); (case side2 => exact HC1.out); rintro e w76 ⟨v347, rfl, ho0, hb⟩; replace HO_5 := RB HO_5 hb; replace HO_14 := RB HO_14 hb; replace HO_18 := RB HO_18 hb; have HO348 := RL (NW ho0 HO_6); replace HO_6 := EL HO_6 ho0 hb; replace HB := BS hb; clear hb; (try clear ho0); obtain ⟨Ao77, co77, eo77⟩ := Kd.R_slice HO348.out; subst eo77) | (go_at_call 25; (with_reducible refine (impl_PickBy.calls k6 _ _ t344 t345 t346 t349 t350 _ ?side1 ?side2 A71.out).mono ?_); (case side1 => exact CW ((Kd.R_reads' HO348.out).2.2)); (case side2 => exact RI HO348); rintro e w78 ⟨rfl, hb⟩; replace HO_5 := RB HO_5 hb; replace HO_6 := RB HO_6 hb; replace HO_14 := RB HO_14 hb; replace HO_18 := RB HO_18 hb; replace HO348 := RB HO348 hb; replace HB := BS hb; clear hb) | (go_at_call 24; (with_reducible refine (spec_PickBy.calls k6 _ _ t344 t345 t346 t351 t352 _ ?side1 ?side2 A72.out).mono ?_); (case side1 => exact CW ((Kd.R_reads' HO348.out).2.2)); (case side2 => exact RI HO348); rintro e w79 ⟨rfl, hb⟩; replace HO_5 := RB HO_5 hb; replace HO_6 := RB HO_6 hb; replace HO_14 := RB HO_14 hb; replace HO_18 := RB HO_18 hb; replace HO348 := RB HO348 hb; replace HB := BS hb; clear hb)))
                        go_ret
                        exact ⟨TE, TB⟩
                       ·rw [if_neg c73] at H
                        have c73b0 : (t350 == t352) = false := by simpa using c73
                        (try (have c73b1 : decide (t350 = t352) = false := by simpa using c73))
                        (try (have c73b2 : (t350 == t352) = false := by simpa using c73))
                        (try (have c73b3 : ¬ (t350 = t352) := by simpa using c73))
                        clear c73
                        obtain rfl := Option.some.inj H
                        obtain ⟨Ao80, co80, eo80⟩ := Kd.R_slice HO_18.out
                        subst eo80
                        obtain ⟨Ao81, co81, eo81⟩ := Kd.R_slice HO_14.out
                        subst eo81
                        go_wp2_with (first | (go_at_call 48; (with_reducible refine (laws_sameInts.calls k6 _ _ x18_6 _ _ t329 true _ ?side1 ?side2 ?side3 ?side4 A68.out).mono ?_); (case side1 => exact CW ((Kd.R_reads' HO_18.out).2.2)); (case side2 => exact RI HO_18); (case side3 => exact CW ((Kd.R_reads' HO_14.out).2.2)); (case side4 => exact RI HO_14); rintro e w' ⟨rfl, ⟨nd, rfl⟩⟩; (try first | exact ⟨rfl, _, World.drewN_drewN _ _ _⟩ | exact ⟨rfl, _, Eq.trans (World.drewN_drewN _ _ _) (congrArg (World.drewN _) (Nat.add_assoc _ _ _))⟩)) | (go_at_call 52; (with_reducible refine (spec_DrawPickBy.calls k6 _ _ l1 t344 t345 t346 _ ?side1 ?side2 A70.out).mono ?_); (case side1 => exact CW ((Kd.C_below HR1.out TB))); (case side2 => exact HC1.out); rintro e w82 ⟨v347, rfl, ho0, hb⟩; replace HO_5 := RB HO_5 hb; replace HO_14 := RB HO_14 hb; replace HO_18 := RB HO_18 hb; have HO348 := RL (NW ho0 HO_6); replace HO_6 := EL HO_6 ho0 hb; replace HB := BS hb; clear hb; (try clear ho0); obtain ⟨Ao83, co83, eo83⟩ := Kd.R_slice HO348.out; subst eo83) | (go_at_call 25; (with_reducible refine (impl_PickBy.calls k6 _ _ t344 t345 t346 t349 t350 _ ?side1 ?side2 A71.out).mono ?_); (case side1 => exact CW ((Kd.R_reads' HO348.out).2.2)); (case side2 => exact RI HO348); rintro e w84 ⟨rfl, hb⟩; replace HO_5 := RB HO_5 hb; replace HO_6 := RB HO_6 hb; replace HO_14 := RB HO_14 hb; replace HO_18 := RB HO_18 hb; replace HO348 := RB HO348 hb; replace HB := BS hb; clear hb) | (go_at_call 24; (with_reducible refine (spec_PickBy.calls k6 _ _ t344 t345 t346 t351 t352 _ ?side1 ?side2 A72.out).mono ?_); (case side1 => exact CW ((Kd.R_reads' HO348.out).2.2)); (case side2 => exact RI HO348); rintro e w85 ⟨rfl, hb⟩; replace HO_5 := RB HO_5 hb; replace HO_6 := RB HO_6 hb; replace HO_14 := RB HO_14 hb; replace HO_18 := RB HO_18 hb; replace HO348 := RB HO348 hb; replace HB := BS hb; clear hb))
                        repeat (go_quiet (first | (go_at_call 48; (with_reducible refine (laws_sameInts.calls k6 _ _ x18_6 _ _ t329 true _ ?side1 ?side2 ?side3 ?side4 A68.out).mono ?_); (case side1 => exact CW ((Kd.R_reads' HO_18.out).2.2)); (case side2 => exact RI HO_18); (case side3 => exact CW ((Kd.R_reads' HO_14.out).2.2)); (case side4 => exact RI HO_14); rintro e w' ⟨rfl, ⟨nd, rfl⟩⟩; (try first | exact ⟨rfl, _, World.drewN_drewN _ _ _⟩ | exact ⟨rfl, _, Eq.trans (World.drewN_drewN _ _ _) (congrArg (World.drewN _) (Nat.add_assoc _ _ _))⟩)) | (go_at_call 52; (with_reducible refine (spec_DrawPickBy.calls k6 _ _ l1 t344 t345 t346 _ ?side1 ?side2 A70.out).mono ?_); (case side1 => exact CW ((Kd.C_below HR1.out TB))); (case side2 => exact HC1.out); rintro e w82 ⟨v347, rfl, ho0, hb⟩; replace HO_5 := RB HO_5 hb; replace HO_14 := RB HO_14 hb; replace HO_18 := RB HO_18 hb; have HO348 := RL (NW ho0 HO_6); replace HO_6 := EL HO_6 ho0 hb; replace HB := BS hb; clear hb; (try clear ho0); obtain ⟨Ao83, co83, eo83⟩ := Kd.R_slice HO348.out; subst eo83) | (go_at_call 25; (with_reducible refine (impl_PickBy.calls k6 _ _ t344 t345 t346 t349 t350 _ ?side1 ?side2 A71.out).mono ?_); (case side1 => exact CW ((Kd.R_reads' HO348.out).2.2)); (case side2 => exact RI HO348); rintro e w84 ⟨rfl, hb⟩; replace HO_5 := RB HO_5 hb; replace HO_6 := RB HO_6 hb; replace HO_14 := RB HO_14 hb; replace HO_18 := RB HO_18 hb; replace HO348 := RB HO348 hb; replace HB := BS hb; clear hb) | (go_at_call 24; (with_reducible refine (spec_PickBy.calls k6 _ _ t344 t345 t346 t351 t352 _ ?side1 ?side2 A72.out).mono ?_); (case side1 => exact CW ((Kd.R_reads' HO348.out).2.2)); (case side2 => exact RI HO348); rintro e w85 ⟨rfl, hb⟩; replace HO_5 := RB HO_5 hb; replace HO_6 := RB HO_6 hb; replace HO_14 := RB HO_14 hb; replace HO_18 := RB HO_18 hb; replace HO348 := RB HO348 hb; replace HB := BS hb; clear hb)); try go_wp2_with (first | (go_at_call 48; (with_reducible refine (laws_sameInts.calls k6 _ _ x18_6 _ _ t329 true _ ?side1 ?side2 ?side3 ?side4 A68.out).mono ?_); (case side1 => exact CW ((Kd.R_reads' HO_18.out).2.2)); (case side2 => exact RI HO_18); (case side3 => exact CW ((Kd.R_reads' HO_14.out).2.2)); (case side4 => exact RI HO_14); rintro e w' ⟨rfl, ⟨nd, rfl⟩⟩; (try first | exact ⟨rfl, _, World.drewN_drewN _ _ _⟩ | exact ⟨rfl, _, Eq.trans (World.drewN_drewN _ _ _) (congrArg (World.drewN _) (Nat.add_assoc _ _ _))⟩)) | (go_at_call 52; (with_reducible refine (spec_DrawPickBy.calls k6 _ _ l1 t344 t345 t346 _ ?side1 ?side2 A70.out).mono ?_); (case side1 => exact CW ((Kd.C_below HR1.out TB))); (case side2 => exact HC1.out); rintro e w82 ⟨v347, rfl, ho0, hb⟩; replace HO_5 := RB HO_5 hb; replace HO_14 := RB HO_14 hb; replace HO_18 := RB HO_18 hb; have HO348 := RL (NW ho0 HO_6); replace HO_6 := EL HO_6 ho0 hb; replace HB := BS hb; clear hb; (try clear ho0); obtain ⟨Ao83, co83, eo83⟩ := Kd.R_slice HO348.out; subst eo83) | (go_at_call 25; (with_reducible refine (impl_PickBy.calls k6 _ _ t344 t345 t346 t349 t350 _ ?side1 ?side2 A71.out).mono ?_); (case side1 => exact CW ((Kd.R_reads' HO348.out).2.2)); (case side2 => exact RI HO348); rintro e w84 ⟨rfl, hb⟩; replace HO_5 := RB HO_5 hb; replace HO_6 := RB HO_6 hb; replace HO_14 := RB HO_14 hb; replace HO_18 := RB HO_18 hb; replace HO348 := RB HO348 hb; replace HB := BS hb; clear hb) | (go_at_call 24; (with_reducible refine (spec_PickBy.calls k6 _ _ t344 t345 t346 t351 t352 _ ?side1 ?side2 A72.out).mono ?_); (case side1 => exact CW ((Kd.R_reads' HO348.out).2.2)); (case side2 => exact RI HO348); rintro e w85 ⟨rfl, hb⟩; replace HO_5 := RB HO_5 hb; replace HO_6 := RB HO_6 hb; replace HO_14 := RB HO_14 hb; replace HO_18 := RB HO_18 hb; replace HO348 := RB HO348 hb; replace HB := BS hb; clear hb)))
                        go_ret
                        exact ⟨TE, TB⟩
                      ·replace c69 := Bool.eq_false_iff.mpr c69
                       subst c69
                       replace H := iff' H
                       obtain rfl := Option.some.inj H
                       obtain ⟨Ao86, co86, eo86⟩ := Kd.R_slice HO_18.out
                       subst eo86
                       obtain ⟨Ao87, co87, eo87⟩ := Kd.R_slice HO_14.out
                       subst eo87
                       go_wp2_with (first | (go_at_call 48; (with_reducible refine (laws_sameInts.calls k6 _ _ x18_6 _ _ t329 false _ ?side1 ?side2 ?side3 ?side4 A68.out).mono ?_); (case side1 => exact CW ((Kd.R_reads' HO_18.out).2.2)); (case side2 => exact RI HO_18); (case side3 => exact CW ((Kd.R_reads' HO_14.out).2.2)); (case side4 => exact RI HO_14); rintro e w' ⟨rfl, ⟨nd, rfl⟩⟩; (try first | exact ⟨rfl, _, World.drewN_drewN _ _ _⟩ | exact ⟨rfl, _, Eq.trans (World.drewN_drewN _ _ _) (congrArg (World.drewN _) (Nat.add_assoc _ _ _))⟩)))
                       repeat (go_quiet (first | (go_at_call 48; (with_reducible refine (laws_sameInts.calls k6 _ _ x18_6 _ _ t329 false _ ?side1 ?side2 ?side3 ?side4 A68.out).mono ?_); (case side1 => exact CW ((Kd.R_reads' HO_18.out).2.2)); (case side2 => exact RI HO_18); (case side3 => exact CW ((Kd.R_reads' HO_14.out).2.2)); (case side4 => exact RI HO_14); rintro e w' ⟨rfl, ⟨nd, rfl⟩⟩; (try first | exact ⟨rfl, _, World.drewN_drewN _ _ _⟩ | exact ⟨rfl, _, Eq.trans (World.drewN_drewN _ _ _) (congrArg (World.drewN _) (Nat.add_assoc _ _ _))⟩))); try go_wp2_with (first | (go_at_call 48; (with_reducible refine (laws_sameInts.calls k6 _ _ x18_6 _ _ t329 false _ ?side1 ?side2 ?side3 ?side4 A68.out).mono ?_); (case side1 => exact CW ((Kd.R_reads' HO_18.out).2.2)); (case side2 => exact RI HO_18); (case side3 => exact CW ((Kd.R_reads' HO_14.out).2.2)); (case side4 => exact RI HO_14); rintro e w' ⟨rfl, ⟨nd, rfl⟩⟩; (try first | exact ⟨rfl, _, World.drewN_drewN _ _ _⟩ | exact ⟨rfl, _, Eq.trans (World.drewN_drewN _ _ _) (congrArg (World.drewN _) (Nat.add_assoc _ _ _))⟩))))
                       go_ret
                       exact ⟨TE, TB⟩
                  ·rw [if_neg c48] at H
                   have c48b0 : decide (x11_3 ≤ 40) = false := decide_eq_false c48
                   clear c48
                   obtain ⟨⟨t353, t354, t355⟩, A88, H⟩ := bnd H
                   try dsimp only at H
                   obtain ⟨⟨t358, t359⟩, A89, H⟩ := bnd H
                   try dsimp only at H
                   obtain ⟨⟨t360, t361⟩, A90, H⟩ := bnd H
                   try dsimp only at H
                   by_cases c91 : (t359 == t361) = true
                   ·rw [if_pos c91] at H
                    have c91b0 : (t359 == t361) = true := c91
                    (try (have c91b1 : decide (t359 = t361) = true := by simpa using c91))
                    (try (have c91b2 : (t359 == t361) = true := by simpa using c91))
                    clear c91
                    obtain rfl := Option.some.inj H
                    go_wp2_with (first | (go_at_call 52; (with_reducible refine (spec_DrawPickBy.calls k5 _ _ l1 t353 t354 t355 _ ?side1 ?side2 A88.out).mono ?_); (case side1 => exact CW ((Kd.C_below HR1.out HB.out))); (case side2 => exact HC1.out); rintro e w92 ⟨v356, rfl, ho0, hb⟩; replace HO_5 := RB HO_5 hb; replace HO_14 := RB HO_14 hb; replace HO_109 := RB HO_109 hb; have HO357 := RL (NW ho0 HO_6); replace HO_6 := EL HO_6 ho0 hb; replace HB := BS hb; clear hb; (try clear ho0); obtain ⟨Ao93, co93, eo93⟩ := Kd.R_slice HO357.out; subst eo93) | (go_at_call 25; (with_reducible refine (impl_PickBy.calls k5 _ _ t353 t354 t355 t358 t359 _ ?side1 ?side2 A89.out).mono ?_); (case side1 => exact CW ((Kd.R_reads' HO357.out).2.2)); (case side2 => exact RI HO357); rintro e w94 ⟨rfl, hb⟩; replace HO_5 := RB HO_5 hb; replace HO_6 := RB HO_6 hb; replace HO_14 := RB HO_14 hb; replace HO_109 := RB HO_109 hb; replace HO357 := RB HO357 hb; replace HB := BS hb; clear hb) | (go_at_call 24; (with_reducible refine (spec_PickBy.calls k5 _ _ t353 t354 t355 t360 t361 _ ?side1 ?side2 A90.out).mono ?_); (case side1 => exact CW ((Kd.R_reads' HO357.out).2.2)); (case side2 => exact RI HO357); rintro e w95 ⟨rfl, hb⟩; replace HO_5 := RB HO_5 hb; replace HO_6 := RB HO_6 hb; replace HO_14 := RB HO_14 hb; replace HO_109 := RB HO_109 hb; replace HO357 := RB HO357 hb; replace HB := BS hb; clear hb))
                    repeat (go_quiet (first | (go_at_call 52; (with_reducible refine (spec_DrawPickBy.calls k5 _ _ l1 t353 t354 t355 _ ?side1 ?side2 A88.out).mono ?_); (case side1 => exact CW ((Kd.C_below HR1.out HB.out))); (case side2 => exact HC1.out); rintro e w92 ⟨v356, rfl, ho0, hb⟩; replace HO_5 := RB HO_5 hb; replace HO_14 := RB HO_14 hb; replace HO_109 := RB HO_109 hb; have HO357 := RL (NW ho0 HO_6); replace HO_6 := EL HO_6 ho0 hb; replace HB := BS hb; clear hb; (try clear ho0); obtain ⟨Ao93, co93, eo93⟩ := Kd.R_slice HO357.out; subst eo93) | (go_at_call 25; (with_reducible refine (impl_PickBy.calls k5 _ _ t353 t354 t355 t358 t359 _ ?side1 ?side2 A89.out).mono ?_); (case side1 => exact CW ((Kd.R_reads' HO357.out).2.2)); (case side2 => exact RI HO357); rintro e w94 ⟨rfl, hb⟩; replace HO_5 := RB HO_5 hb; replace HO_6 := RB HO_6 hb; replace HO_14 := RB HO_14 hb; replace HO_109 := RB HO_109 hb; replace HO357 := RB HO357 hb; replace HB := BS hb; clear hb) | (go_at_call 24; (with_reducible refine (spec_PickBy.calls k5 _ _ t353 t354 t355 t360 t361 _ ?side1 ?side2 A90.out).mono ?_); (case side1 => exact CW ((Kd.R_reads' HO357.out).2.2)); (case side2 => exact RI HO357); rintro e w95 ⟨rfl, hb⟩; replace HO_5 := RB HO_5 hb; replace HO_6 := RB HO_6 hb; replace HO_14 := RB HO_14 hb; replace HO_109 := RB HO_109 hb; replace HO357 := RB HO357 hb; replace HB := BS hb; clear hb)); try go_wp2_with (first | (go_at_call 52; (with_reducible refine (spec_DrawPickBy.calls k5 _ _ l1 t353 t354 t355 _ ?side1 ?side2 A88.out).mono ?_); (case side1 => exact CW ((Kd.C_below HR1.out HB.out))); (case side2 => exact HC1.out); rintro e w92 ⟨v356, rfl, ho0, hb⟩; replace HO_5 := RB HO_5 hb; replace HO_14 := RB HO_14 hb; replace HO_109 := RB HO_109 hb; have HO357 := RL (NW ho0 HO_6); replace HO_6 := EL HO_6 ho0 hb; replace HB := BS hb; clear hb; (try clear ho0); obtain ⟨Ao93, co93, eo93⟩ := Kd.R_slice HO357.out; subst eo93) | (go_at_call 25; (with_reducible refine (impl_PickBy.calls k5 _ _ t353 t354 t355 t358 t359 _ ?side1 ?side2 A89.out).mono ?_); (case side1 => exact CW ((Kd.R_reads' HO357.out).2.2)); (case side2 => exact RI HO357); rintro e w94 ⟨rfl, hb⟩; replace HO_5 := RB HO_5 hb; replace HO_6 := RB HO_6 hb; replace HO_14 := RB HO_14 hb; replace HO_109 := RB HO_109 hb; replace HO357 := RB HO357 hb; replace HB := BS hb; clear hb) | (go_at_call 24; (with_reducible refine (spec_PickBy.calls k5 _ _ t353 t354 t355 t360 t361 _ ?side1 ?side2 A90.out).mono ?_); (case side1 => exact CW ((Kd.R_reads' HO357.out).2.2)); (case side2 => exact RI HO357); rintro e w95 ⟨rfl, hb⟩; replace HO_5 := RB HO_5 hb; replace HO_6 := RB HO_6 hb; replace HO_14 := RB HO_14 hb; replace HO_109 := RB HO_109 hb; replace HO357 := RB HO357 hb; replace HB := BS hb; clear hb)))
                    go_ret
                    exact ⟨TE, TB⟩
                   ·rw [if_neg c91] at H
                    have c91b0 : (t359 == t361) = false := by simpa using c91
                    (try (have c91b1 : decide (t359 = t361) = false := by simpa using c91))
                    (try (have c91b2 : (t359 == t361) = false := by simpa using c91))
                    (try (have c91b3 : ¬ (t359 = t361) := by simpa using c91))
                    clear c91
                    obtain rfl := Option.some.inj H
                    go_wp2_with (first | (go_at_call 52; (with_reducible refine (spec_DrawPickBy.calls k5 _ _ l1 t353 t354 t355 _ ?side1 ?side2 A88.out).mono ?_); (case side1 => exact CW ((Kd.C_below HR1.out HB.out))); (case side2 => exact HC1.out); rintro e w96 ⟨v356, rfl, ho0, hb⟩; replace HO_5 := RB HO_5 hb; replace HO_14 := RB HO_14 hb; replace HO_109 := RB HO_109 hb; have HO357 := RL (NW ho0 HO_6); replace HO_6 := EL HO_6 ho0 hb; replace HB := BS hb; clear hb; (try clear ho0); obtain ⟨Ao97, co97, eo97⟩ := Kd.R_slice HO357.out; subst eo97) | (go_at_call 25; (with_reducible refine (impl_PickBy.calls k5 _ _ t353 t354 t355 t358 t359 _ ?side1 ?side2 A89.out).mono ?_); (case side1 => exact CW ((Kd.R_reads' HO357.out).2.2)); (case side2 => exact RI HO357); rintro e w98 ⟨rfl, hb⟩; replace HO_5 := RB HO_5 hb; replace HO_6 := RB HO_6 hb; replace HO_14 := RB HO_14 hb; replace HO_109 := RB HO_109 hb; replace HO357 := RB HO357 hb; replace HB := BS hb; clear hb) | (go_at_call 24; (with_reducible refine (spec_PickBy.calls k5 _ _ t353 t354 t355 t360 t361 _ ?side1 ?side2 A90.out).mono ?_); (case side1 => exact CW ((Kd.R_reads' HO357.out).2.2)); (case side2 => exact RI HO357); rintro e w99 ⟨rfl, hb⟩; replace HO_5 := RB HO_5 hb; replace HO_6 := RB HO_6 hb; replace HO_14 := RB HO_14 hb; replace HO_109 := RB HO_109 hb; replace HO357 := RB HO357 hb; replace HB := BS hb; clear hb))
                    repeat (go_quiet (first | (go_at_call 52; (with_reducible refine (spec_DrawPickBy.calls k5 _ _ l1 t353 t354 t355 _ ?side1 ?side2 A88.out).mono ?_); (case side1 => exact CW ((Kd.C_below HR1.out HB.out))); (case side2 => exact HC1.out); rintro e w96 ⟨v356, rfl, ho0, hb⟩; replace HO_5 := RB HO_5 hb; replace HO_14 := RB HO_14 hb; replace HO_109 := RB HO_109 hb; have HO357 := RL (NW ho0 HO_6); replace HO_6 := EL HO_6 ho0 hb; replace HB := BS hb; clear hb; (try clear ho0); obtain ⟨Ao97, co97, eo97⟩ := Kd.R_slice HO357.out; subst eo97) | (go_at_call 25; (with_reducible refine (impl_PickBy.calls k5 _ _ t353 t354 t355 t358 t359 _ ?side1 ?side2 A89.out).mono ?_); (case side1 => exact CW ((Kd.R_reads' HO357.out).2.2)); (case side2 => exact RI HO357); rintro e w98 ⟨rfl, hb⟩; replace HO_5 := RB HO_5 hb; replace HO_6 := RB HO_6 hb; replace HO_14 := RB HO_14 hb; replace HO_109 := RB HO_109 hb; replace HO357 := RB HO357 hb; replace HB := BS hb; clear hb) | (go_at_call 24; (with_reducible refine (spec_PickBy.calls k5 _ _ t353 t354 t355 t360 t361 _ ?side1 ?side2 A90.out).mono ?_); (case side1 => exact CW ((Kd.R_reads' HO357.out).2.2)); (case side2 => exact RI HO357); rintro e w99 ⟨rfl, hb⟩; replace HO_5 := RB HO_5 hb; replace HO_6 := RB HO_6 hb; replace HO_14 := RB HO_14 hb; replace HO_109 := RB HO_109 hb; replace HO357 := RB HO357 hb; replace HB := BS hb; clear hb)); try go_wp2_with (first | (go_at_call 52; (with_reducible refine (spec_DrawPickBy.calls k5 _ _ l1 t353 t354 t355 _ ?side1 ?side2 A88.out).mono ?_); (case side1 => exact CW ((Kd.C_below HR1.out HB.out))); (case side2 => exact HC1.out); rintro e w96 ⟨v356, rfl, ho0, hb⟩; replace HO_5 := RB HO_5 hb; replace HO_14 := RB HO_14 hb; replace HO_109 := RB HO_109 hb; have HO357 := RL (NW ho0 HO_6); replace HO_6 := EL HO_6 ho0 hb; replace HB := BS hb; clear hb; (try clear ho0); obtain ⟨Ao97, co97, eo97⟩ := Kd.R_slice HO357.out; subst eo97) | (go_at_call 25; (with_reducible refine (impl_PickBy.calls k5 _ _ t353 t354 t355 t358 t359 _ ?side1 ?side2 A89.out).mono ?_); (case side1 => exact CW ((Kd.R_reads' HO357.out).2.2)); (case side2 => exact RI HO357); rintro e w98 ⟨rfl, hb⟩; replace HO_5 := RB HO_5 hb; replace HO_6 := RB HO_6 hb; replace HO_14 := RB HO_14 hb; replace HO_109 := RB HO_109 hb; replace HO357 := RB HO357 hb; replace HB := BS hb; clear hb) | (go_at_call 24; (with_reducible refine (spec_PickBy.calls k5 _ _ t353 t354 t355 t360 t361 _ ?side1 ?side2 A90.out).mono ?_); (case side1 => exact CW ((Kd.R_reads' HO357.out).2.2)); (case side2 => exact RI HO357); rintro e w99 ⟨rfl, hb⟩; replace HO_5 := RB HO_5 hb; replace HO_6 := RB HO_6 hb; replace HO_14 := RB HO_14 hb; replace HO_109 := RB HO_109 hb; replace HO357 := RB HO357 hb; replace HB := BS hb; clear hb)))
                    go_ret
                    exact ⟨TE, TB⟩
        ·replace c28 := Bool.eq_false_iff.mpr c28
         subst c28
         replace H := iff' H
         obtain ⟨⟨t362, t363, t364⟩, A100, H⟩ := bnd H
         try dsimp only at H
         obtain ⟨⟨t367, t368⟩, A101, H⟩ := bnd H
         try dsimp only at H
         obtain ⟨⟨t369, t370⟩, A102, H⟩ := bnd H
         try dsimp only at H
         by_cases c103 : (t368 == t370) = true
         ·rw [if_pos c103] at H
          have c103b0 : (t368 == t370) = true := c103
          (try (have c103b1 : decide (t368 = t370) = true := by simpa using c103))
          (try (have c103b2 : (t368 == t370) = true := by simpa using c103))
          clear c103
          obtain rfl := Option.some.inj H
          go_wp2_with (first | (go_at_call 52; (with_reducible refine (spec_DrawPickBy.calls k2 _ _ l1 t362 t363 t364 _ ?side1 ?side2 A100.out).mono ?_); (case side1 => exact CW ((Kd.C_below HR1.out HB.out))); (case side2 => exact HC1.out); rintro e w104 ⟨v365, rfl, ho0, hb⟩; replace HO_5 := RB HO_5 hb; have HO366 := RL (NW (NW ho0 HO_6) HO_8); replace HO_6 := EL HO_6 ho0 hb; replace HO_8 := EL HO_8 ho0 hb; replace HB := BS hb; clear hb; (try clear ho0); obtain ⟨Ao105, co105, eo105⟩ := Kd.R_slice HO366.out; subst eo105) | (go_at_call 25; (with_reducible refine (impl_PickBy.calls k2 _ _ t362 t363 t364 t367 t368 _ ?side1 ?side2 A101.out).mono ?_); (case side1 => exact CW ((Kd.R_reads' HO366.out).2.2)); (case side2 => exact RI HO366); rintro e w106 ⟨rfl, hb⟩; replace HO_5 := RB HO_5 hb; replace HO_6 := RB HO_6 hb; replace HO_8 := RB HO_8 hb; replace HO366 := RB HO366 hb; replace HB := BS hb; clear hb) | (go_at_call 24; (with_reducible refine (spec_PickBy.calls k2 _ _ t362 t363 t364 t369 t370 _ ?side1 ?side2 A102.out).mono ?_); (case side1 => exact CW ((Kd.R_reads' HO366.out).2.2)); (case side2 => exact RI HO366); rintro e w107 ⟨rfl, hb⟩; replace HO_5 := RB HO_5 hb; replace HO_6 := RB HO_6 hb; replace HO_8 := RB HO_8 hb; replace HO366 := RB HO366 hb; replace HB := BS hb; clear hb))
          repeat (go_quiet (first | (go_at_call 52; (with_reducible refine (spec_DrawPickBy.calls k2 _ _ l1 t362 t363 t364 _ ?side1 ?side2 A100.out).mono ?_); (case side1 => exact CW ((Kd.C_below HR1.out HB.out))); (case side2 => exact HC1.out); rintro e w104 ⟨v365, rfl, ho0, hb⟩; replace HO_5 := RB HO_5 hb; have HO366 := RL (NW (NW ho0 HO_6) HO_8); replace HO_6 := EL HO_6 ho0 hb; replace HO_8 := EL HO_8 ho0 hb; replace HB := BS hb; clear hb; (try clear ho0); obtain ⟨Ao105, co105, eo105⟩ := Kd.R_slice HO366.out; subst eo105) | (go_at_call 25; (with_reducible refine (impl_PickBy.calls k2 _ _ t362 t363 t364 t367 t368 _ ?side1 ?side2 A101.out).mono ?_); (case side1 => exact CW ((Kd.R_reads' HO366.out).2.2)); (case side2 => exact RI HO366); rintro e w106 ⟨rfl, hb⟩; replace HO_5 := RB HO_5 hb; replace HO_6 := RB HO_6 hb; replace HO_8 := RB HO_8 hb; replace HO366 := RB HO366 hb; replace HB := BS hb; clear hb) | (go_at_call 24; (with_reducible refine (spec_PickBy.calls k2 _ _ t362 t363 t364 t369 t370 _ ?side1 ?side2 A102.out).mono ?_); (case side1 => exact CW ((Kd.R_reads' HO366.out).2.2)); (case side2 => exact RI HO366); rintro e w107 ⟨rfl, hb⟩; replace HO_5 := RB HO_5 hb; replace HO_6 := RB HO_6 hb; replace HO_8 := RB HO_8 hb; replace HO366 := RB HO366 hb; replace HB := BS hb; clear hb)); try go_wp2_with (first | (go_at_call 52; (with_reducible refine (spec_DrawPickBy.calls k2 _ _ l1 t362 t363 t364 _ ?side1 ?side2 A100.out).mono ?_); (case side1 => exact CW ((Kd.C_below HR1.out HB.out))); (case side2 => exact HC1.out); rintro e w104 ⟨v365, rfl, ho0, hb⟩; replace HO_5 := RB HO_5 hb; have HO366 := RL (NW (NW ho0 HO_6) HO_8); replace HO_6 := EL HO_6 ho0 hb; replace HO_8 := EL HO_8 ho0 hb; replace HB := BS hb; clear hb; (try clear ho0); obtain ⟨Ao105, co105, eo105⟩ := Kd.R_slice HO366.out; subst eo105) | (go_at_call 25; (with_reducible refine (impl_PickBy.calls k2 _ _ t362 t363 t364 t367 t368 _ ?side1 ?side2 A101.out).mono ?_); (case side1 => exact CW ((Kd.R_reads' HO366.out).2.2)); (case side2 => exact RI HO366); rintro e w106 ⟨rfl, hb⟩; replace HO_5 := RB HO_5 hb; replace HO_6 := RB HO_6 hb; replace HO_8 := RB HO_8 hb; replace HO366 := RB HO366 hb; replace HB := BS hb; clear hb) | (go_at_call 24; (with_reducible refine (spec_PickBy.calls k2 _ _ t362 t363 t364 t369 t370 _ ?side1 ?side2 A102.out).mono ?_); (case side1 => exact CW ((Kd.R_reads' HO366.out).2.2)); (case side2 => exact RI HO366); rintro e w107 ⟨rfl, hb⟩; replace HO_5 := RB HO_5 hb; replace HO_6 := RB HO_6 hb; replace HO_8 := RB HO_8 hb; replace HO366 := RB HO366 hb; replace HB := BS hb; clear hb)))
          go_ret
          exact ⟨TE, TB⟩
         ·rw [if_neg c103] at H
          have c103b0 : (t368 == t370) = false := by simpa using c103
          (try (have c103b1 : decide (t368 = t370) = false := by simpa using c103))
          (try (have c103b2 : (t368 == t370) = false := by simpa using c103))
          (try (have c103b3 : ¬ (t368 = t370) := by simpa using c103))
          clear c103
          obtain rfl := Option.some.inj H
          go_wp2_with (first | (go_at_call 52; (with_reducible refine (spec_DrawPickBy.calls k2 _ _ l1 t362 t363 t364 _ ?side1 ?side2 A100.out).mono ?_); (case side1 => exact CW ((Kd.C_below HR1.out HB.out))); (case side2 => exact HC1.out); rintro e w108 ⟨v365, rfl, ho0, hb⟩; replace HO_5 := RB HO_5 hb; have HO366 := RL (NW (NW ho0 HO_6) HO_8); replace HO_6 := EL HO_6 ho0 hb; replace HO_8 := EL HO_8 ho0 hb; replace HB := BS hb; clear hb; (try clear ho0); obtain ⟨Ao109, co109, eo109⟩ := Kd.R_slice HO366.out; subst eo109) | (go_at_call 25; (with_reducible refine (impl_PickBy.calls k2 _ _ t362 t363 t364 t367 t368 _ ?side1 ?side2 A101.out).mono ?_); (case side1 => exact CW ((Kd.R_reads' HO366.out).2.2)); (case side2 => exact RI HO366); rintro e w110 ⟨rfl, hb⟩; replace HO_5 := RB HO_5 hb; replace HO_6 := RB HO_6 hb; replace HO_8 := RB HO_8 hb; replace HO366 := RB HO366 hb; replace HB := BS hb; clear hb) | (go_at_call 24; (with_reducible refine (spec_PickBy.calls k2 _ _ t362 t363 t364 t369 t370 _ ?side1 ?side2 A102.out).mono ?_); (case side1 => exact CW ((Kd.R_reads' HO366.out).2.2)); (case side2 => exact RI HO366); rintro e w111 ⟨rfl, hb⟩; replace HO_5 := RB HO_5 hb; replace HO_6 := RB HO_6 hb; replace HO_8 := RB HO_8 hb; replace HO366 := RB HO366 hb; replace HB := BS hb; clear hb))
          repeat (go_quiet (first | (go_at_call 52; (with_reducible refine (spec_DrawPickBy.calls k2 _ _ l1 t362 t363 t364 _ ?side1 ?side2 A100.out).mono ?_); (case side1 => exact CW ((Kd.C_below HR1.out HB.out))); (case side2 => exact HC1.out); rintro e w108 ⟨v365, rfl, ho0, hb⟩; replace HO_5 := RB HO_5 hb; have HO366 := RL (NW (NW ho0 HO_6) HO_8); replace HO_6 := EL HO_6 ho0 hb; replace HO_8 := EL HO_8 ho0 hb; replace HB := BS hb; clear hb; (try clear ho0); obtain ⟨Ao109, co109, eo109⟩ := Kd.R_slice HO366.out; subst eo109) | (go_at_call 25; (with_reducible refine (impl_PickBy.calls k2 _ _ t362 t363 t364 t367 t368 _ ?side1 ?side2 A101.out).mono ?_); (case side1 => exact CW ((Kd.R_reads' HO366.out).2.2)); (case side2 => exact RI HO366); rintro e w110 ⟨rfl, hb⟩; replace HO_5 := RB HO_5 hb; replace HO_6 := RB HO_6 hb; replace HO_8 := RB HO_8 hb; replace HO366 := RB HO366 hb; replace HB := BS hb; clear hb) | (go_at_call 24; (with_reducible refine (spec_PickBy.calls k2 _ _ t362 t363 t364 t369 t370 _ ?side1 ?side2 A102.out).mono ?_); (case side1 => exact CW ((Kd.R_reads' HO366.out).2.2)); (case side2 => exact RI HO366); rintro e w111 ⟨rfl, hb⟩; replace HO_5 := RB HO_5 hb; replace HO_6 := RB HO_6 hb; replace HO_8 := RB HO_8 hb; replace HO366 := RB HO366 hb; replace HB := BS hb; clear hb)); try go_wp2_with (first | (go_at_call 52; (with_reducible refine (spec_DrawPickBy.calls k2 _ _ l1 t362 t363 t364 _ ?side1 ?side2 A100.out).mono ?_); (case side1 => exact CW ((Kd.C_below HR1.out HB.out))); (case side2 => exact HC1.out); rintro e w108 ⟨v365, rfl, ho0, hb⟩; replace HO_5 := RB HO_5 hb; have HO366 := RL (NW (NW ho0 HO_6) HO_8); replace HO_6 := EL HO_6 ho0 hb; replace HO_8 := EL HO_8 ho0 hb; replace HB := BS hb; clear hb; (try clear ho0); obtain ⟨Ao109, co109, eo109⟩ := Kd.R_slice HO366.out; subst eo109) | (go_at_call 25; (with_reducible refine (impl_PickBy.calls k2 _ _ t362 t363 t364 t367 t368 _ ?side1 ?side2 A101.out).mono ?_); (case side1 => exact CW ((Kd.R_reads' HO366.out).2.2)); (case side2 => exact RI HO366); rintro e w110 ⟨rfl, hb⟩; replace HO_5 := RB HO_5 hb; replace HO_6 := RB HO_6 hb; replace HO_8 := RB HO_8 hb; replace HO366 := RB HO366 hb; replace HB := BS hb; clear hb) | (go_at_call 24; (with_reducible refine (spec_PickBy.calls k2 _ _ t362 t363 t364 t369 t370 _ ?side1 ?side2 A102.out).mono ?_); (case side1 => exact CW ((Kd.R_reads' HO366.out).2.2)); (case side2 => exact RI HO366); rintro e w111 ⟨rfl, hb⟩; replace HO_5 := RB HO_5 hb; replace HO_6 := RB HO_6 hb; replace HO_8 := RB HO_8 hb; replace HO366 := RB HO366 hb; replace HB := BS hb; clear hb)))
          go_ret
          exact ⟨TE, TB⟩

/-- THE ONE PURE STATEMENT of laws_FnAlias. -/
def laws_FnAlias.Pure : Prop := ∀ (l0 : List Int) (l1 : List Int), (l0.length ≤ maxLen ∧ ∀ x_ ∈ l0, (Lit.int .u8 x_).wf = true) → (l1.length ≤ maxLen ∧ ∀ x_ ∈ l1, (Lit.int .u8 x_).wf = true) → ∃ k, laws_FnAlias.f k l0 l1 = some true
end
section
/-! ### impl_GoodTurn_1: function 71 -/
def impl_GoodTurn_1.f (a0 : Int) : Option (Bool) := (impl_within.f a0 (-10000) 10000).bind fun t461 => (some (!t461))
theorem impl_GoodTurn_1.calls (a0 : Int) (r : Bool) (w : World) (h : impl_GoodTurn_1.f a0 = some r) :
  Calls Try.prog 71 #[.int .i64 a0] w fun e w' => e = .returned (.bool r) ∧ Drawn0 w w' := by
 have H : ((impl_within.f a0 (-10000) 10000).bind fun t461 => (some (!t461))) = some r := h
 clear h
 obtain ⟨t461, A2, H⟩ := bnd H
 obtain rfl := Option.some.inj H
 go_enter Try.func71, Try.ntmps71
 go_wp2_with (first | ((with_reducible refine gate_callee (f := 59) rfl ?_); refine goesL_ (some 4) rfl rfl Try.func59 KR rfl #[.int .i64 a0, .int .i64 (-10000), .int .i64 10000] rfl TA ?_; (with_reducible refine (impl_within.calls a0 (-10000) 10000 t461 _ A2.out).mono ?_); rintro e w' ⟨rfl, ⟨nd, rfl⟩⟩; refine ⟨_, rfl, ?_⟩))
 go_ret
 exact ⟨TF, TN⟩
end
section
/-! ### slices_IndexFunc_int_int_GoodTurn_1: function 85 -/
def slices_IndexFunc_int_int_GoodTurn_1.l0 : Nat → List Int → Int → Int → Option (Int)
 | 0, _, _, _ => none
 | k + 1, x0, x7, x8 => if x8 < x7 then (if 0 ≤ x8 then (if x8 < (x0.length : Int) then ((impl_GoodTurn_1.f (rd x0 x8)).bind fun t463 => (if t463 = true then (some x8) else (slices_IndexFunc_int_int_GoodTurn_1.l0 k x0 x7 (wrap64 (x8 + 1))))) else (none)) else (none)) else (some (-1))
def slices_IndexFunc_int_int_GoodTurn_1.f (k : Nat) (l0 : List Int)  : Option (Int) := slices_IndexFunc_int_int_GoodTurn_1.l0 k l0 (l0.length : Int) 0
theorem slices_IndexFunc_int_int_GoodTurn_1.calls (k : Nat) (A0 : Option Addr) (c0 : Nat) (l0 : List Int)  (r : Int) (w : World) (hr0 : Kd.C (Kd.int .i64) w A0 l0.length l0) (hc0 : l0.length ≤ c0) (h : slices_IndexFunc_int_int_GoodTurn_1.f k l0 = some r) :
  Calls Try.prog 85 #[.slice A0 l0.length c0, .func (.func 71) #[] #[]] w fun e w' => e = .returned (.int .i64 r) ∧ Drawn0 w w' := by
 have HR0 := Aside0.mk hr0
 have HC0 := Aside0.mk hc0
 clear hr0 hc0
 have H : (slices_IndexFunc_int_int_GoodTurn_1.l0 k l0 (l0.length : Int) 0) = some r := h
 clear h
 have H' := Aside0.mk H
 clear H
 go_enter Try.func85, Try.ntmps85
 go_wp2
 go_loopg [8] k (fun kq v8 w' => ∃ (x8_1 : Int), v8 = .int .i64 x8_1 ∧ Aside0 (slices_IndexFunc_int_int_GoodTurn_1.l0 kq l0 (l0.length : Int) x8_1 = some r) ∧ Aside0 (kq ≤ k) ∧ Drawn0 w w')
 case atStart => exact ⟨(0), TF, H', ⟨Nat.le_refl _⟩, TN⟩
 case round =>
  clear H'
  obtain ⟨x8_1, rfl, HA, HK1, ⟨m1, rfl⟩⟩ := hrel
  cases gk with
  | zero => exact absurd HA.out (by simp [slices_IndexFunc_int_int_GoodTurn_1.l0])
  | succ k1 =>
   have H := HA.out
   clear HA
   simp only [slices_IndexFunc_int_int_GoodTurn_1.l0] at H
   by_cases c3 : x8_1 < (l0.length : Int)
   ·rw [if_pos c3] at H
    have c3b0 : decide (x8_1 < (l0.length : Int)) = true := decide_eq_true c3
    clear c3
    obtain ⟨c4, H⟩ := ifn H
    have c4b0 : decide (0 ≤ x8_1) = true := decide_eq_true c4
    clear c4
    obtain ⟨c5, H⟩ := ifn H
    have c5b0 : decide (x8_1 < (l0.length : Int)) = true := decide_eq_true c5
    clear c5
    obtain ⟨t463, A6, H⟩ := bnd H
    by_cases c7 : t463 = true
    ·subst c7
     replace H := ift H
     obtain rfl := Option.some.inj H
     have p462 : 0 ≤ (x8_1 : Int) := TD
     have q462 : x8_1 < (l0.length : Int) := TD
     obtain ⟨ad462, e462, hx462_0⟩ := Kd.at_int HR0.out x8_1 p462 q462
     cases e462
     replace p462 := eq_true p462
     replace q462 := eq_true q462
     go_wp2_with (first | (go_at_call 71; (with_reducible refine (impl_GoodTurn_1.calls (rd l0 x8_1) true _ A6.out).mono ?_); rintro e w' ⟨rfl, ⟨nd, rfl⟩⟩))
     go_ret
     exact ⟨TF, TN⟩
    ·replace c7 := Bool.eq_false_iff.mpr c7
     subst c7
     replace H := iff' H
     have H' := Aside0.mk H
     clear H
     have p462 : 0 ≤ (x8_1 : Int) := TD
     have q462 : x8_1 < (l0.length : Int) := TD
     obtain ⟨ad462, e462, hx462_0⟩ := Kd.at_int HR0.out x8_1 p462 q462
     cases e462
     replace p462 := eq_true p462
     replace q462 := eq_true q462
     go_wp2_with (first | (go_at_call 71; (with_reducible refine (impl_GoodTurn_1.calls (rd l0 x8_1) false _ A6.out).mono ?_); rintro e w' ⟨rfl, ⟨nd, rfl⟩⟩))
     go_roundg k1
     case measure => have := HK1.out; omega
     case rel => exact ⟨(wrap64 (x8_1 + 1)), TF, H', ⟨TM⟩, TN⟩
   ·rw [if_neg c3] at H
    have c3b0 : decide (x8_1 < (l0.length : Int)) = false := decide_eq_false c3
    clear c3
    obtain rfl := Option.some.inj H
    go_wp2
    go_ret
    exact ⟨TF, TN⟩
end
section
/-! ### slices_ContainsFunc_int_int_GoodTurn_1: function 60 -/
def slices_ContainsFunc_int_int_GoodTurn_1.f (k : Nat) (l0 : List Int)  : Option (Bool) := (slices_IndexFunc_int_int_GoodTurn_1.f k l0).bind fun t464 => (some (decide (t464 ≥ 0)))
theorem slices_ContainsFunc_int_int_GoodTurn_1.calls (k : Nat) (A0 : Option Addr) (c0 : Nat) (l0 : List Int)  (r : Bool) (w : World) (hr0 : Kd.C (Kd.int .i64) w A0 l0.length l0) (hc0 : l0.length ≤ c0) (h : slices_ContainsFunc_int_int_GoodTurn_1.f k l0 = some r) :
  Calls Try.prog 60 #[.slice A0 l0.length c0, .func (.func 71) #[] #[]] w fun e w' => e = .returned (.bool r) ∧ Drawn0 w w' := by
 have HR0 := Aside0.mk hr0
 have HC0 := Aside0.mk hc0
 clear hr0 hc0
 have H : ((slices_IndexFunc_int_int_GoodTurn_1.f k l0).bind fun t464 => (some (decide (t464 ≥ 0)))) = some r := h
 clear h
 obtain ⟨t464, A3, H⟩ := bnd H
 obtain rfl := Option.some.inj H
 go_enter Try.func60, Try.ntmps60
 go_wp2_with (first | ((with_reducible refine gate_callee (f := 85) rfl ?_); refine goesL_ (some 7) rfl rfl Try.func85 KR rfl #[.slice A0 l0.length c0, .func (.func 71) #[] #[]] rfl TA ?_; (with_reducible refine (slices_IndexFunc_int_int_GoodTurn_1.calls k _ _ l0  t464 _ ?side1 ?side2 A3.out).mono ?_); (case side1 => exact CW (HR0.out)); (case side2 => exact HC0.out); rintro e w' ⟨rfl, ⟨nd, rfl⟩⟩; refine ⟨_, rfl, ?_⟩))
 go_ret
 exact ⟨TF, TN⟩
end
section
/-! ### impl_GoodTurn: function 29 -/
def impl_GoodTurn.f (k : Nat) (l0_0 : List Int) (l0_1 : List Int) : Option (Bool) := (impl_GoodWeights.f k l0_0).bind fun t466 => (if t466 = true then (if (l0_1.length : Int) = (l0_0.length : Int) then ((slices_ContainsFunc_int_int_GoodTurn_1.f k l0_1).bind fun t467 => (if t467 = true then (some false) else ((impl_totalOf.f k l0_1).bind fun t468 => (some (t468 == 0))))) else (some false)) else (some false))
theorem impl_GoodTurn.calls (k : Nat) (A0_0 : Option Addr) (c0_0 : Nat) (l0_0 : List Int) (A0_1 : Option Addr) (c0_1 : Nat) (l0_1 : List Int) (r : Bool) (w : World) (hr0_0 : Kd.C (Kd.int .i64) w A0_0 l0_0.length l0_0) (hc0_0 : l0_0.length ≤ c0_0) (hr0_1 : Kd.C (Kd.int .i64) w A0_1 l0_1.length l0_1) (hc0_1 : l0_1.length ≤ c0_1) (h : impl_GoodTurn.f k l0_0 l0_1 = some r) :
  Calls Try.prog 29 #[.agg #[.slice A0_0 l0_0.length c0_0, .slice A0_1 l0_1.length c0_1]] w fun e w' => e = .returned (.bool r) ∧ Below w.heap.size w w' := by
 have hu40 := Try.underlying40
 have HR0_0 := Aside0.mk hr0_0
 have HC0_0 := Aside0.mk hc0_0
 clear hr0_0 hc0_0
 have HR0_1 := Aside0.mk hr0_1
 have HC0_1 := Aside0.mk hc0_1
 clear hr0_1 hc0_1
 have HB := Aside0.mk (Below.refl w.heap.size w)
 have H : ((impl_GoodWeights.f k l0_0).bind fun t466 => (if t466 = true then (if (l0_1.length : Int) = (l0_0.length : Int) then ((slices_ContainsFunc_int_int_GoodTurn_1.f k l0_1).bind fun t467 => (if t467 = true then (some false) else ((impl_totalOf.f k l0_1).bind fun t468 => (some (t468 == 0))))) else (some false)) else (some false))) = some r := h
 clear h
 obtain ⟨t466, A2, H⟩ := bnd H
 by_cases c3 : t466 = true
 ·subst c3
  replace H := ift H
  by_cases c4 : (l0_1.length : Int) = (l0_0.length : Int)
  ·rw [if_pos c4] at H
   have c4b0 : ((l0_1.length : Int) == (l0_0.length : Int)) = true := beq_iff_eq.mpr c4
   have c4b1 : ((l0_1.length : Int) != (l0_0.length : Int)) = false := bne_eq_false_iff_eq.mpr c4
   have c4b2 : (l0_1.length == l0_0.length) = true := by first | simpa using c4 | (simp at c4 ⊢; omega)
   clear c4
   obtain ⟨t467, A5, H⟩ := bnd H
   by_cases c6 : t467 = true
   ·subst c6
    replace H := ift H
    obtain rfl := Option.some.inj H
    go_enter Try.func29, Try.ntmps29
    go_wp2_with (first | ((with_reducible refine gate_dst (N := 1) rfl ?_); (try (refine gate_guard (by rfl) ?_; dsimp only)); refine bE 1 #[.slice A0_0 l0_0.length c0_0, .slice A0_1 l0_1.length c0_1] 40 ?_; intro gb465 hg w7 hbox hb; have BK465 := Aside0.mk (hbox); have GE465 := bG hg; replace HB := BS hb; clear hb hbox hg; have hcz8 := cz2 BK465) | ((with_reducible refine gate_callee (f := 17) rfl ?_); refine goesL_ (some 5) rfl rfl Try.func17 KR rfl #[.slice A0_0 l0_0.length c0_0] rfl TA ?_; (with_reducible refine (impl_GoodWeights.calls k _ _ l0_0 true _ ?side1 ?side2 A2.out).mono ?_); (case side1 => exact CW ((Kd.C_below HR0_0.out HB.out))); (case side2 => exact HC0_0.out); rintro e w' ⟨rfl, ⟨nd, rfl⟩⟩; refine ⟨_, rfl, ?_⟩) | (go_at_call 60; (with_reducible refine (slices_ContainsFunc_int_int_GoodTurn_1.calls k _ _ l0_1  true _ ?side1 ?side2 A5.out).mono ?_); (case side1 => exact CW ((Kd.C_below HR0_1.out TB))); (case side2 => exact HC0_1.out); rintro e w' ⟨rfl, ⟨nd, rfl⟩⟩))
    go_ret
    exact ⟨TE, TB⟩
   ·replace c6 := Bool.eq_false_iff.mpr c6
    subst c6
    replace H := iff' H
    obtain ⟨t468, A9, H⟩ := bnd H
    obtain rfl := Option.some.inj H
    go_enter Try.func29, Try.ntmps29
    go_wp2_with (first | ((with_reducible refine gate_dst (N := 1) rfl ?_); (try (refine gate_guard (by rfl) ?_; dsimp only)); refine bE 1 #[.slice A0_0 l0_0.length c0_0, .slice A0_1 l0_1.length c0_1] 40 ?_; intro gb465 hg w10 hbox hb; have BK465 := Aside0.mk (hbox); have GE465 := bG hg; replace HB := BS hb; clear hb hbox hg; have hcz11 := cz2 BK465) | ((with_reducible refine gate_callee (f := 17) rfl ?_); refine goesL_ (some 5) rfl rfl Try.func17 KR rfl #[.slice A0_0 l0_0.length c0_0] rfl TA ?_; (with_reducible refine (impl_GoodWeights.calls k _ _ l0_0 true _ ?side1 ?side2 A2.out).mono ?_); (case side1 => exact CW ((Kd.C_below HR0_0.out HB.out))); (case side2 => exact HC0_0.out); rintro e w' ⟨rfl, ⟨nd, rfl⟩⟩; refine ⟨_, rfl, ?_⟩) | (go_at_call 60; (with_reducible refine (slices_ContainsFunc_int_int_GoodTurn_1.calls k _ _ l0_1  false _ ?side1 ?side2 A5.out).mono ?_); (case side1 => exact CW ((Kd.C_below HR0_1.out TB))); (case side2 => exact HC0_1.out); rintro e w' ⟨rfl, ⟨nd, rfl⟩⟩) | (go_at_call 62; (with_reducible refine (impl_totalOf.calls k _ _ l0_1 t468 _ ?side1 ?side2 A9.out).mono ?_); (case side1 => exact CW ((Kd.C_below HR0_1.out TB))); (case side2 => exact HC0_1.out); rintro e w' ⟨rfl, ⟨nd, rfl⟩⟩))
    go_ret
    exact ⟨TE, TB⟩
  ·rw [if_neg c4] at H
   have c4b0 : ((l0_1.length : Int) == (l0_0.length : Int)) = false := beq_eq_false_iff_ne.mpr c4
   have c4b1 : ((l0_1.length : Int) != (l0_0.length : Int)) = true := bne_iff_ne.mpr c4
   have c4b2 : (l0_1.length == l0_0.length) = false := by first | simpa using c4 | (simp at c4 ⊢; omega)
   obtain rfl := Option.some.inj H
   go_enter Try.func29, Try.ntmps29
   go_wp2_with (first | ((with_reducible refine gate_dst (N := 1) rfl ?_); (try (refine gate_guard (by rfl) ?_; dsimp only)); refine bE 1 #[.slice A0_0 l0_0.length c0_0, .slice A0_1 l0_1.length c0_1] 40 ?_; intro gb465 hg w12 hbox hb; have BK465 := Aside0.mk (hbox); have GE465 := bG hg; replace HB := BS hb; clear hb hbox hg; have hcz13 := cz2 BK465) | ((with_reducible refine gate_callee (f := 17) rfl ?_); refine goesL_ (some 5) rfl rfl Try.func17 KR rfl #[.slice A0_0 l0_0.length c0_0] rfl TA ?_; (with_reducible refine (impl_GoodWeights.calls k _ _ l0_0 true _ ?side1 ?side2 A2.out).mono ?_); (case side1 => exact CW ((Kd.C_below HR0_0.out HB.out))); (case side2 => exact HC0_0.out); rintro e w' ⟨rfl, ⟨nd, rfl⟩⟩; refine ⟨_, rfl, ?_⟩))
   go_ret
   exact ⟨TE, TB⟩
 ·replace c3 := Bool.eq_false_iff.mpr c3
  subst c3
  replace H := iff' H
  obtain rfl := Option.some.inj H
  go_enter Try.func29, Try.ntmps29
  go_wp2_with (first | ((with_reducible refine gate_dst (N := 1) rfl ?_); (try (refine gate_guard (by rfl) ?_; dsimp only)); refine bE 1 #[.slice A0_0 l0_0.length c0_0, .slice A0_1 l0_1.length c0_1] 40 ?_; intro gb465 hg w14 hbox hb; have BK465 := Aside0.mk (hbox); have GE465 := bG hg; replace HB := BS hb; clear hb hbox hg; have hcz15 := cz2 BK465) | ((with_reducible refine gate_callee (f := 17) rfl ?_); refine goesL_ (some 5) rfl rfl Try.func17 KR rfl #[.slice A0_0 l0_0.length c0_0] rfl TA ?_; (with_reducible refine (impl_GoodWeights.calls k _ _ l0_0 false _ ?side1 ?side2 A2.out).mono ?_); (case side1 => exact CW ((Kd.C_below HR0_0.out HB.out))); (case side2 => exact HC0_0.out); rintro e w' ⟨rfl, ⟨nd, rfl⟩⟩; refine ⟨_, rfl, ?_⟩))
  go_ret
  exact ⟨TE, TB⟩
end
section
/-! ### spec_GoodTurn: function 27 -/
mutual
def spec_GoodTurn.j0 : Nat → Bool → List Int → List Int → Option (Bool)
 | 0, _, _, _ => none
 | k + 1, x18, x458000, x458001 => if x18 = true then (some false) else (spec_GoodTurn.l0 k 0 x458001 (x458001.length : Int) 0)
def spec_GoodTurn.l0 : Nat → Int → List Int → Int → Int → Option (Bool)
 | 0, _, _, _, _ => none
 | k + 1, x3, x20, x21, x22 => if x22 < x21 then (if 0 ≤ x22 then (if x22 < (x20.length : Int) then ((spec_l1In.f (rd x20 x22) (-10000) 10000).bind fun t460 => (if t460 = true then (spec_GoodTurn.l0 k (wrap64 (x3 + (rd x20 x22))) x20 x21 (wrap64 (x22 + 1))) else (some false))) else (none)) else (none)) else (some (x3 == 0))
end
def spec_GoodTurn.f (k : Nat) (l0_0 : List Int) (l0_1 : List Int) : Option (Bool) := (spec_GoodWeights.f k l0_0).bind fun t458 => (if t458 = true then (spec_GoodTurn.j0 k ((l0_1.length : Int) != (l0_0.length : Int)) l0_0 l0_1) else (spec_GoodTurn.j0 k true l0_0 l0_1))
theorem spec_GoodTurn.calls (k : Nat) (A0_0 : Option Addr) (c0_0 : Nat) (l0_0 : List Int) (A0_1 : Option Addr) (c0_1 : Nat) (l0_1 : List Int) (r : Bool) (w : World) (hr0_0 : Kd.C (Kd.int .i64) w A0_0 l0_0.length l0_0) (hc0_0 : l0_0.length ≤ c0_0) (hr0_1 : Kd.C (Kd.int .i64) w A0_1 l0_1.length l0_1) (hc0_1 : l0_1.length ≤ c0_1) (h : spec_GoodTurn.f k l0_0 l0_1 = some r) :
  Calls Try.prog 27 #[.agg #[.slice A0_0 l0_0.length c0_0, .slice A0_1 l0_1.length c0_1]] w fun e w' => e = .returned (.bool r) ∧ Below w.heap.size w w' := by
 have hu40 := Try.underlying40
 have HR0_0 := Aside0.mk hr0_0
 have HC0_0 := Aside0.mk hc0_0
 clear hr0_0 hc0_0
 have HR0_1 := Aside0.mk hr0_1
 have HC0_1 := Aside0.mk hc0_1
 clear hr0_1 hc0_1
 have HB := Aside0.mk (Below.refl w.heap.size w)
 have H : ((spec_GoodWeights.f k l0_0).bind fun t458 => (if t458 = true then (spec_GoodTurn.j0 k ((l0_1.length : Int) != (l0_0.length : Int)) l0_0 l0_1) else (spec_GoodTurn.j0 k true l0_0 l0_1))) = some r := h
 clear h
 have HC2 := Aside0.mk H
 clear H
 go_enter Try.func27, Try.ntmps27
 go_upto_region 1 with (first | ((with_reducible refine gate_dst (N := 1) rfl ?_); (try (refine gate_guard (by rfl) ?_; dsimp only)); refine bE 1 #[.slice A0_0 l0_0.length c0_0, .slice A0_1 l0_1.length c0_1] 40 ?_; intro gb457 hg w3 hbox hb; have BK457 := Aside0.mk (hbox); have GE457 := bG hg; replace HB := BS hb; clear hb hbox hg))
 (try simp only [Act.put, List.setIfInBounds_toArray, List.set_cons_zero, List.set_cons_succ])
 go_cut [18] (fun v18 wc => ∃ (kq : Nat) (x18_1 : Bool), v18 = .bool x18_1 ∧ Aside0 (spec_GoodTurn.j0 kq x18_1 l0_0 l0_1 = some r) ∧ Aside0 (kq ≤ k) ∧ Aside0 (wc.heap[gb457]? = some (.cells #[(.slice A0_0 l0_0.length c0_0), (.slice A0_1 l0_1.length c0_1)] 40 (0, 0))) ∧ Aside0 (Below w.heap.size w wc))
 case first =>
  have H := HC2.out
  clear HC2
  obtain ⟨t458, A4, H⟩ := bnd H
  by_cases c5 : t458 = true
  ·subst c5
   replace H := ift H
   have H' := Aside0.mk H
   clear H
   have hcz6 := cz2 BK457
   go_wp2_with (first | ((with_reducible refine gate_callee (f := 15) rfl ?_); refine goesL_ (some 8) rfl rfl Try.func15 KR rfl #[.slice A0_0 l0_0.length c0_0] rfl TA ?_; (with_reducible refine (spec_GoodWeights.calls k _ _ l0_0 true _ ?side1 ?side2 A4.out).mono ?_); (case side1 => exact CW ((Kd.C_below HR0_0.out HB.out))); (case side2 => exact HC0_0.out); rintro e w' ⟨rfl, ⟨nd, rfl⟩⟩; refine ⟨_, rfl, ?_⟩))
   go_meet
   case rel => exact ⟨_, (((l0_1.length : Int) != (l0_0.length : Int))), TF, H', ⟨by first | omega | exact Nat.le_refl _⟩, KW BK457, ⟨TB⟩⟩
  ·replace c5 := Bool.eq_false_iff.mpr c5
   subst c5
   replace H := iff' H
   have H' := Aside0.mk H
   clear H
   have hcz7 := cz2 BK457
   go_wp2_with (first | ((with_reducible refine gate_callee (f := 15) rfl ?_); refine goesL_ (some 8) rfl rfl Try.func15 KR rfl #[.slice A0_0 l0_0.length c0_0] rfl TA ?_; (with_reducible refine (spec_GoodWeights.calls k _ _ l0_0 false _ ?side1 ?side2 A4.out).mono ?_); (case side1 => exact CW ((Kd.C_below HR0_0.out HB.out))); (case side2 => exact HC0_0.out); rintro e w' ⟨rfl, ⟨nd, rfl⟩⟩; refine ⟨_, rfl, ?_⟩))
   go_meet
   case rel => exact ⟨_, (true), TF, H', ⟨by first | omega | exact Nat.le_refl _⟩, KW BK457, ⟨TB⟩⟩
 case rest =>
  clear HC2
  obtain ⟨kq, x18_1, rfl, HA, HJ1, BK457, HB⟩ := hcut
  cases kq with
  | zero => exact absurd HA.out (by simp [spec_GoodTurn.j0])
  | succ kj1 =>
   have H := HA.out
   clear HA
   simp only [spec_GoodTurn.j0] at H
   by_cases c8 : x18_1 = true
   ·subst c8
    replace H := ift H
    obtain rfl := Option.some.inj H
    go_wp2
    go_ret
    exact ⟨TE, TB⟩
   ·replace c8 := Bool.eq_false_iff.mpr c8
    subst c8
    replace H := iff' H
    have H' := Aside0.mk H
    clear H
    have hcz9 := cz2 BK457
    go_wp2
    go_loopg [3, 22] kj1 (fun kq v3 v22 w' => ∃ (x3_2 : Int) (x22_2 : Int), v3 = .int .i64 x3_2 ∧ v22 = .int .i64 x22_2 ∧ Aside0 (spec_GoodTurn.l0 kq x3_2 l0_1 (l0_1.length : Int) x22_2 = some r) ∧ Aside0 (kq ≤ kj1) ∧ Aside0 (w'.heap[gb457]? = some (.cells #[(.slice A0_0 l0_0.length c0_0), (.slice A0_1 l0_1.length c0_1)] 40 (0, 0))) ∧ Aside0 (Below w.heap.size w w'))
    case atStart => exact ⟨(0), (0), TF, TF, H', ⟨Nat.le_refl _⟩, KW BK457, ⟨TB⟩⟩
    case round =>
     clear H'
     obtain ⟨x3_2, x22_2, rfl, rfl, HA, HK2, BK457, HB⟩ := hrel
     cases gk with
     | zero => exact absurd HA.out (by simp [spec_GoodTurn.l0])
     | succ k2 =>
      have H := HA.out
      clear HA
      simp only [spec_GoodTurn.l0] at H
      by_cases c10 : x22_2 < (l0_1.length : Int)
      ·rw [if_pos c10] at H
       have c10b0 : decide (x22_2 < (l0_1.length : Int)) = true := decide_eq_true c10
       clear c10
       obtain ⟨c11, H⟩ := ifn H
       have c11b0 : decide (0 ≤ x22_2) = true := decide_eq_true c11
       clear c11
       obtain ⟨c12, H⟩ := ifn H
       have c12b0 : decide (x22_2 < (l0_1.length : Int)) = true := decide_eq_true c12
       clear c12
       obtain ⟨t460, A13, H⟩ := bnd H
       by_cases c14 : t460 = true
       ·subst c14
        replace H := ift H
        have H' := Aside0.mk H
        clear H
        have p459 : 0 ≤ (x22_2 : Int) := TD
        have q459 : x22_2 < (l0_1.length : Int) := TD
        obtain ⟨ad459, e459, hx459_0⟩ := Kd.at_int (Kd.C_below HR0_1.out HB.out) x22_2 p459 q459
        cases e459
        replace p459 := eq_true p459
        replace q459 := eq_true q459
        go_wp2_with (first | ((with_reducible refine gate_callee (f := 58) rfl ?_); refine goesL_ (some 27) rfl rfl Try.func58 KR rfl #[.int .i64 (rd l0_1 x22_2), .int .i64 (-10000), .int .i64 10000] rfl TA ?_; (with_reducible refine (spec_l1In.calls (rd l0_1 x22_2) (-10000) 10000 true _ A13.out).mono ?_); rintro e w' ⟨rfl, ⟨nd, rfl⟩⟩; refine ⟨_, rfl, ?_⟩))
        go_roundg k2
        case measure => have := HJ1.out; have := HK2.out; omega
        case rel => exact ⟨(wrap64 (x3_2 + (rd l0_1 x22_2))), (wrap64 (x22_2 + 1)), TF, TF, H', ⟨by have := HJ1.out; have := HK2.out; omega⟩, KW BK457, ⟨TB⟩⟩
       ·replace c14 := Bool.eq_false_iff.mpr c14
        subst c14
        replace H := iff' H
        obtain rfl := Option.some.inj H
        have p459 : 0 ≤ (x22_2 : Int) := TD
        have q459 : x22_2 < (l0_1.length : Int) := TD
        obtain ⟨ad459, e459, hx459_0⟩ := Kd.at_int (Kd.C_below HR0_1.out HB.out) x22_2 p459 q459
        cases e459
        replace p459 := eq_true p459
        replace q459 := eq_true q459
        go_wp2_with (first | ((with_reducible refine gate_callee (f := 58) rfl ?_); refine goesL_ (some 27) rfl rfl Try.func58 KR rfl #[.int .i64 (rd l0_1 x22_2), .int .i64 (-10000), .int .i64 10000] rfl TA ?_; (with_reducible refine (spec_l1In.calls (rd l0_1 x22_2) (-10000) 10000 false _ A13.out).mono ?_); rintro e w' ⟨rfl, ⟨nd, rfl⟩⟩; refine ⟨_, rfl, ?_⟩))
        go_ret
        exact ⟨TE, TB⟩
      ·rw [if_neg c10] at H
       have c10b0 : decide (x22_2 < (l0_1.length : Int)) = false := decide_eq_false c10
       clear c10
       obtain rfl := Option.some.inj H
       go_wp2
       go_ret
       exact ⟨TE, TB⟩
end
section
/-! ### slices_Clone_int_int: function 72 -/
def slices_Clone_int_int.f (l0 : List Int) : Option (List Int) := (some (([] : List Int) : List Int)).bind fun y577 => (if y577.length + l0.length < 17592186044416 then (some (y577 ++ l0)) else (none))
theorem slices_Clone_int_int.calls (A0 : Option Addr) (c0 : Nat) (l0 : List Int) (r : List Int) (w : World) (hr0 : Kd.C (Kd.int .i64) w A0 l0.length l0) (hc0 : l0.length ≤ c0) (h : slices_Clone_int_int.f l0 = some r) :
  Calls Try.prog 72 #[.slice A0 l0.length c0] w fun e w' => ∃ v0_ : Value, e = .returned (v0_) ∧ Kd.R (Kd.int .i64) 3 w' w.heap.size (fun _ => True) v0_ r ∧ Below w.heap.size w w' := by
 have HR0 := Aside0.mk hr0
 have HC0 := Aside0.mk hc0
 clear hr0 hc0
 have HB := Aside0.mk (Below.refl w.heap.size w)
 have H : ((some (([] : List Int) : List Int)).bind fun y577 => (if y577.length + l0.length < 17592186044416 then (some (y577 ++ l0)) else (none))) = some r := h
 clear h
 cases A0 with
 | none =>
  have hz_ : l0 = [] := Kd.C_none_nil HR0.out
  subst hz_
  have hnq_ : ∀ W, (Go.binOp .eql 22 (.slice none 0 c0) (.slice none 0 0)).run Try.prog W = .ok (.bool true) W := fun W => Go.Lib.run_eql_slice_nil W 22 3 none 0 c0 0 0 Try.underlying22
  replace H : (some ([] : List Int)) = some r := by simpa using H
  obtain rfl := Option.some.inj H
  go_enter Try.func72, Try.ntmps72
  go_wp2
  go_ret
  exact ⟨_, TE, TZ, TB⟩
 | some adq_ =>
  have hnq_ : ∀ W, (Go.binOp .eql 22 (.slice (some adq_) l0.length c0) (.slice none 0 0)).run Try.prog W = .ok (.bool false) W := fun W => Go.Lib.run_eql_slice_nil W 22 3 (some adq_) l0.length c0 0 0 Try.underlying22
  obtain ⟨y577, hy577⟩ : ∃ y_ : List Int, y_ = (([] : List Int)) := ⟨_, rfl⟩
  replace H : (if y577.length + l0.length < 17592186044416 then (some (y577 ++ l0)) else (none)) = some r := by first | (rw [hy577]; with_reducible exact H) | (have H2_ := (Option.bind_some _ _).symm.trans H; rw [hy577]; with_reducible exact H2_) | (have H2_ := (Option.bind_some _ _).symm.trans H; with_reducible exact H2_) | with_reducible exact H | (rw [hy577]; exact H) | exact H
  have Ny577 := Aside0.mk hy577
  clear hy577
  obtain ⟨c2, H⟩ := ifn H
  have LMc2 := Aside0.mk c2
  clear c2
  obtain ⟨y580, hy580⟩ : ∃ y_ : List Int, y_ = (y577 ++ l0) := ⟨_, rfl⟩
  replace H : (some y580) = some r := by first | (rw [hy580]; with_reducible exact H) | (have H2_ := (Option.bind_some _ _).symm.trans H; rw [hy580]; with_reducible exact H2_) | (have H2_ := (Option.bind_some _ _).symm.trans H; with_reducible exact H2_) | with_reducible exact H | (rw [hy580]; exact H) | exact H
  have Ny580 := Aside0.mk hy580
  clear hy580
  obtain rfl := Option.some.inj H
  go_enter Try.func72, Try.ntmps72
  go_wp2_with (first | ((with_reducible refine gate_dst (N := 5) rfl ?_); refine Kd.R_lit (Kd.int .i64) _ 3 ?hg (N := 5) ?hd (xs := ([] : List Int)) (inner := []) (ok := fun _ => True) (okp := fun _ => True) ?hr ?hp (fun _ hk => hk) trivial (Below.refl _ _) (Nat.le_refl _) (by simp) ?_; (case hd => rfl); (case hg => rfl); (case hr => first | (go_simp; done) | (go_simp; rfl)); (case hp => exact (Reps.none _ _)); intro v578 w3 ho4 hb hg_ hnew_; clear hg_ hnew_; (first | rw [← Ny577.out] at ho4 | (simp only [Int.reduceToNat] at ho4; rw [← Ny577.out] at ho4)); have HO579 := RL ho4; replace HB := BS hb; clear hb ho4) | ((with_reducible refine gate_builtin (b := .append) (xs := #[.tmp 5, .tmp 6]) rfl ?_); at_builtin; refine Kd.R_append_rows (Kd.int .i64) (w0 := w) w.heap.size rfl (.tmp 5) (.tmp 6) 22 3 (.int .i64 0) 8 rfl Try.underlying22 info3 rfl (by decide) (by omega) v578 y577 l0 _ _ _ (fun _ => True) (fun _ => False) rfl rfl ?aO ?aR (fun _ _ h => h) (fun _ h => h.elim) ?aF ?aB ?aS ?aL ?_; (case aR => repeat (first | exact (Kd.C_below HR0.out HB.out) | (with_reducible refine Kd.C_alloc ?_ _) | (with_reducible refine Kd.C_drewN ?_ _) | (with_reducible refine Kd.C_drew ?_))); (case aB => exact TB); (case aF => exact (fun _ _ => trivial)); (case aO => exact (RW HO579).out); (case aS => exact (below_size TB)); (case aL => have := LMc2.out; omega); intro v581 w5 ho hb hg hat; rw [← Ny580.out] at ho; have n0_ := Aside0.mk (hb); have n1_ := Aside0.mk (ho); clear HB; clear HO579; have HB := n0_; have HO582 := n1_; clear n0_ n1_; clear ho hb hg hat))
  go_ret
  exact ⟨_, TE, (RW HO582).out, TB⟩
end
section
/-! ### impl_NewTurn: function 32 -/
def impl_NewTurn.f (k : Nat) (l0 : List Int) : Option (List Int × List Int × Bool) := (impl_GoodWeights.f k l0).bind fun t584 => (if t584 = true then ((slices_Clone_int_int.f l0).bind fun t585 => (if 0 ≤ (l0.length : Int) then (if ((l0.length : Int) : Int).toNat ≤ 35184372088832 then (some (t585, (List.replicate ((l0.length : Int) : Int).toNat 0), true)) else (none)) else (none))) else (some (([] : List Int), ([] : List Int), false)))
def impl_NewTurn.T3 : Bool × List (List Nat × List Nat) := (true, [([], []), ([0], [0]), ([], []), ([2], [2]), ([3, 3], [3]), ([1, 4], [1, 4]), ([5, 1, 0, 1, 2, 3, 4, 5], [5]), ([6, 0, 1, 2, 3, 4, 5, 6], [])])
def impl_NewTurn.B3 : List Nat := [0, 1, 0, 4, 12, 31, 63, 127]
theorem impl_NewTurn.tab3 : rtab .any (opsOf Try.f32 3) = impl_NewTurn.T3 := by kernel_rfl
theorem impl_NewTurn.bits3 : waitsOk impl_NewTurn.T3.2 impl_NewTurn.B3 = true := by kernel_rfl
theorem impl_NewTurn.calls (k : Nat) (A0 : Option Addr) (c0 : Nat) (l0 : List Int) (r1 : List Int) (r2 : List Int) (r3 : Bool) (w : World) (hr0 : Kd.C (Kd.int .i64) w A0 l0.length l0) (hc0 : l0.length ≤ c0) (h : impl_NewTurn.f k l0 = some (r1, r2, r3)) :
  Calls Try.prog 32 #[.slice A0 l0.length c0] w fun e w' => ∃ v0_ v1_ : Value, e = .returned (.tuple #[.agg #[v0_, v1_], .bool r3]) ∧ Kd.R (Kd.int .i64) 3 w' w.heap.size (fun k_ => some k_ ≠ (v1_ : Value).ownBlock) v0_ r1 ∧ Kd.R (Kd.int .i64) 3 w' w.heap.size (fun k_ => some k_ ≠ (v0_ : Value).ownBlock) v1_ r2 ∧ Below w.heap.size w w' := by
 have hu40 := Try.underlying40
 have HR0 := Aside0.mk hr0
 have HC0 := Aside0.mk hc0
 clear hr0 hc0
 have HB := Aside0.mk (Below.refl w.heap.size w)
 have H : ((impl_GoodWeights.f k l0).bind fun t584 => (if t584 = true then ((slices_Clone_int_int.f l0).bind fun t585 => (if 0 ≤ (l0.length : Int) then (if ((l0.length : Int) : Int).toNat ≤ 35184372088832 then (some (t585, (List.replicate ((l0.length : Int) : Int).toNat 0), true)) else (none)) else (none))) else (some (([] : List Int), ([] : List Int), false)))) = some (r1, r2, r3) := h
 clear h
 obtain ⟨t584, A2, H⟩ := bnd H
 by_cases c3 : t584 = true
 ·subst c3
  replace H := ift H
  obtain ⟨t585, A4, H⟩ := bnd H
  obtain ⟨c5, H⟩ := ifn H
  have c5b0 := eq_true c5
  have c5b1 : decide (0 ≤ (l0.length : Int)) = true := decide_eq_true c5
  clear c5
  obtain ⟨c6, H⟩ := ifn H
  have c6b0 := eq_true c6
  have c6b1 : decide (((l0.length : Int) : Int).toNat ≤ 35184372088832) = true := decide_eq_true c6
  clear c6
  obtain ⟨y588, hy588⟩ : ∃ y_ : List Int, y_ = (List.replicate ((l0.length : Int) : Int).toNat 0) := ⟨_, rfl⟩
  replace H : (some (t585, y588, true)) = some (r1, r2, r3) := by first | (rw [hy588]; with_reducible exact H) | (have H2_ := (Option.bind_some _ _).symm.trans H; rw [hy588]; with_reducible exact H2_) | (have H2_ := (Option.bind_some _ _).symm.trans H; with_reducible exact H2_) | with_reducible exact H | (rw [hy588]; exact H) | exact H
  have Ny588 := Aside0.mk hy588
  clear hy588
  simp only [Option.some.injEq, Prod.mk.injEq] at H
  obtain ⟨rfl, rfl, rfl⟩ := H
  go_enter Try.func32, Try.ntmps32
  try go_wp2_with (first | ((with_reducible refine gate_dst (N := 2) rfl ?_); refine bE 2 #[.slice none 0 0, .slice none 0 0] 40 ?_; intro gb583 hg w7 hbox hb; have BK583 := Aside0.mk (hbox); have GE583 := bG hg; replace HB := BS hb; clear hb hbox hg) | ((with_reducible refine gate_callee (f := 17) rfl ?_); refine goesL_ (some 5) rfl rfl Try.func17 KR rfl #[.slice A0 l0.length c0] rfl TA ?_; (with_reducible refine (impl_GoodWeights.calls k _ _ l0 true _ ?side1 ?side2 A2.out).mono ?_); (case side1 => exact CW ((Kd.C_below HR0.out HB.out))); (case side2 => exact HC0.out); rintro e w' ⟨rfl, ⟨nd, rfl⟩⟩; refine ⟨_, rfl, ?_⟩; (try (rw [drewN_self w7]; generalize hq_ : World.drewN w7 _ = w7; have n0_ : Aside0 (w7.heap[gb583]? = some (.cells #[.slice none 0 0, .slice none 0 0] 40 (0, 0))) := ⟨by rw [← hq_]; exact (KW BK583).out⟩; have n1_ : Aside0 (Below w.heap.size w w7) := ⟨by rw [← hq_]; exact TB⟩; clear BK583 HB hq_; have BK583 := n0_; have HB := n1_; clear n0_ n1_))))
  replace BK583 := Aside0.mk (blk_drew BK583.out)
  replace HB := Aside0.mk (below_drew1 HB.out)
  refine start_ (n := 8) (S := fun w' => True) (ds := []) #[false, false, false, false, false, false, false, false] KR rfl rfl trivial (fun hHeld => ?_); refine with_tabW impl_NewTurn.tab3 impl_NewTurn.bits3 (fun HT_ HW_ => ?_)
  generalize w7.drew = w8 at BK583 HB hHeld ⊢
  refine pA 0 8 (mL 8 1) HT_ rfl rfl ?_
  refine pA 2 10 (mL 8 5) HT_ rfl rfl ?_
  refine pA 3 11 (mL 8 13) HT_ rfl rfl ?_
  refine join_ (σ := Value × Value) 3 #[true, true, true, true, true, false, false, false] (fun s_ => [(9, s_.1), (12, s_.2)]) (fun s_ w' => (Kd.R (Kd.int .i64) 3 w' w.heap.size (fun k_ => some k_ ≠ (s_.2 : Value).ownBlock) s_.1 t585) ∧ (Kd.R (Kd.int .i64) 3 w' w.heap.size (fun k_ => some k_ ≠ (s_.1 : Value).ownBlock) s_.2 y588) ∧ (w'.heap[gb583]? = some (.cells #[.slice none 0 0, .slice none 0 0] 40 (0, 0))) ∧ (Below w.heap.size w w')) ?_ ?_
  rotate_left
  ·intro hCont
   refine two_ (i := 1) (j := 4) (Ni := some 9) (Nj := some 12) #[true, true, true, true, false, false, false, false] #[true, false, true, true, true, false, false, false] rfl rfl rfl rfl (two_of HT_.out KR) (by decide) (by decide) (fun K hK => ?_) (fun K hK => ?_)
   ·skip
    refine goes_ Try.func72 KR rfl #[.slice A0 l0.length c0] (by rfl) rfl rfl TA ?_
    with_reducible refine (slices_Clone_int_int.calls _ _ l0 t585 _ ?side1 ?side2 A4.out).mono ?_
    (case side1 => exact CW ((Kd.C_below HR0.out HB.out)))
    (case side2 => exact HC0.out)
    rintro e w9 ⟨v586, rfl, ho0, hb⟩
    refine ⟨_, rfl, ?_⟩
    have HO587 := RL ho0
    replace BK583 := KB BK583 hb
    replace HB := BS hb
    (try clear hb)
    (try clear hb2)
    (try clear hk)
    (try clear hi)
    (try clear ho0)
    refine hK.out _ _ trivial (fun hHeld => ?_)
    clear hK K
    refine nA ?_
    refine one_ (i := 4) (N := some 12) (mL 8 31) rfl rfl (one_of HT_.out KR) (by decide) (fun K hK => ?_)
    refine Kd.R_make_step (Kd.int .i64) _ 3 (by rfl) (N := 12) rfl 22 _ _ rfl (l0.length : Int) rfl rfl Try.underlying22 (.int .i64 0) 8 info3 rfl (by decide) (by omega) 0 (ok := fun _ => True) (okp := fun _ => True) rfl (fun _ hk => hk) trivial TD (Nat.le_trans (Nat.mul_le_mul_right _ (TD : (l0.length : Int).toNat ≤ 35184372088832)) (by omega)) (Below.refl _ _) (Nat.le_refl _) ?_
    intro v589 w10 ho11 hb hg_ hnew_
    clear hg_ hnew_
    (first | rw [← Ny588.out] at ho11 | (simp only [Int.reduceToNat] at ho11; rw [← Ny588.out] at ho11))
    have HO590 := RL (NW ho11 HO587)
    replace HO587 := EL HO587 ho11 hb
    replace BK583 := KB BK583 hb
    replace HB := BS hb
    clear hb ho11
    obtain ⟨Ao12, co12, eo12⟩ := Kd.R_slice HO590.out
    (first | subst eo12 | (injection eo12 with f1_ f2_ f3_; have f4_ := f1_.symm; have f5_ := f3_.symm; clear f1_ f2_ f3_; subst f4_; subst f5_))
    obtain ⟨Ao13, co13, eo13⟩ := Kd.R_slice HO587.out
    (first | subst eo13 | (injection eo13 with f1_ f2_ f3_; have f4_ := f1_.symm; have f5_ := f3_.symm; clear f1_ f2_ f3_; subst f4_; subst f5_))
    refine hK.out _ _ trivial (fun hHeld => ?_)
    clear hK K
    refine nA ?_
    exact norm_ (by simp only [putAll, Act.put, List.setIfInBounds_toArray, List.set_cons_zero, List.set_cons_succ]) (hCont (.slice Ao13 t585.length co13, .slice Ao12 y588.length co12) _ ⟨(MO HO587).out, (MO HO590).out, (KW BK583).out, TB⟩)
   ·skip
    refine Kd.R_make_step (Kd.int .i64) _ 3 (by rfl) (N := 12) rfl 22 _ _ rfl (l0.length : Int) rfl rfl Try.underlying22 (.int .i64 0) 8 info3 rfl (by decide) (by omega) 0 (ok := fun _ => True) (okp := fun _ => True) rfl (fun _ hk => hk) trivial TD (Nat.le_trans (Nat.mul_le_mul_right _ (TD : (l0.length : Int).toNat ≤ 35184372088832)) (by omega)) (Below.refl _ _) (Nat.le_refl _) ?_
    intro v589 w9 ho10 hb hg_ hnew_
    clear hg_ hnew_
    (first | rw [← Ny588.out] at ho10 | (simp only [Int.reduceToNat] at ho10; rw [← Ny588.out] at ho10))
    have HO590 := RL ho10
    replace BK583 := KB BK583 hb
    replace HB := BS hb
    clear hb ho10
    refine hK.out _ _ trivial (fun hHeld => ?_)
    clear hK K
    refine nA ?_
    refine one_ (i := 1) (N := some 9) (mL 8 31) rfl rfl (one_of HT_.out KR) (by decide) (fun K hK => ?_)
    refine goes_ Try.func72 KR rfl #[.slice A0 l0.length c0] (by rfl) rfl rfl TA ?_
    with_reducible refine (slices_Clone_int_int.calls _ _ l0 t585 _ ?side1 ?side2 A4.out).mono ?_
    (case side1 => exact CW ((Kd.C_below HR0.out HB.out)))
    (case side2 => exact HC0.out)
    rintro e w11 ⟨v586, rfl, ho0, hb⟩
    refine ⟨_, rfl, ?_⟩
    have HO587 := RL (NW ho0 HO590)
    replace HO590 := EL HO590 ho0 hb
    replace BK583 := KB BK583 hb
    replace HB := BS hb
    (try clear hb)
    (try clear hb2)
    (try clear hk)
    (try clear hi)
    (try clear ho0)
    obtain ⟨Ao12, co12, eo12⟩ := Kd.R_slice HO590.out
    (first | subst eo12 | (injection eo12 with f1_ f2_ f3_; have f4_ := f1_.symm; have f5_ := f3_.symm; clear f1_ f2_ f3_; subst f4_; subst f5_))
    obtain ⟨Ao13, co13, eo13⟩ := Kd.R_slice HO587.out
    (first | subst eo13 | (injection eo13 with f1_ f2_ f3_; have f4_ := f1_.symm; have f5_ := f3_.symm; clear f1_ f2_ f3_; subst f4_; subst f5_))
    refine hK.out _ _ trivial (fun hHeld => ?_)
    clear hK K
    refine nA ?_
    exact norm_ (by simp only [putAll, Act.put, List.setIfInBounds_toArray, List.set_cons_zero, List.set_cons_succ]) (hCont (.slice Ao13 t585.length co13, .slice Ao12 y588.length co12) _ ⟨(MO HO587).out, (MO HO590).out, (KW BK583).out, TB⟩)
  rintro ⟨v586, v589⟩ w14 ⟨h0_, h1_, h2_, h3_⟩
  have n0_ : Aside0 (Kd.R (Kd.int .i64) 3 w14 w.heap.size (fun k_ => some k_ ≠ (v589 : Value).ownBlock) v586 t585) := ⟨h0_⟩
  have n1_ : Aside0 (Kd.R (Kd.int .i64) 3 w14 w.heap.size (fun k_ => some k_ ≠ (v586 : Value).ownBlock) v589 y588) := ⟨h1_⟩
  have n2_ : Aside0 (w14.heap[gb583]? = some (.cells #[.slice none 0 0, .slice none 0 0] 40 (0, 0))) := ⟨h2_⟩
  have n3_ : Aside0 (Below w.heap.size w w14) := ⟨h3_⟩
  clear BK583
  clear HB
  clear h0_ h1_ h2_ h3_
  have HO587 := n0_
  have HO590 := n1_
  have BK583 := n2_
  have HB := n3_
  clear n0_ n1_ n2_ n3_
  have hHeld := trivial
  obtain ⟨Ao15, co15, eo15⟩ := Kd.R_slice HO590.out
  (first | subst eo15 | (injection eo15 with f1_ f2_ f3_; have f4_ := f1_.symm; have f5_ := f3_.symm; clear f1_ f2_ f3_; subst f4_; subst f5_))
  obtain ⟨Ao16, co16, eo16⟩ := Kd.R_slice HO587.out
  (first | subst eo16 | (injection eo16 with f1_ f2_ f3_; have f4_ := f1_.symm; have f5_ := f3_.symm; clear f1_ f2_ f3_; subst f4_; subst f5_))
  refine norm_ (a' := ?_) ?_ ?_
  rotate_left
  ·simp only [putAll, Act.put, List.setIfInBounds_toArray, List.set_cons_zero, List.set_cons_succ]
   rfl
  refine pA 5 13 (mL 8 63) HT_ rfl rfl ?_
  refine one_ (i := 6) (N := none) (mL 8 127) rfl rfl (one_of HT_.out KR) (by decide) (fun K hK => ?_)
  have hs17 := bc 0 BK583
  have hfs17 := blk_frozen BK583.out 0
  have hs18 := bc 1 BK583
  have hfs18 := blk_frozen BK583.out 1
  refine skip_ (w1 := ?_) (by rfl) rfl ?_ ?_
  rotate_left
  ·go_simp
   rfl
  refine hK.out _ _ trivial (fun hHeld => ?_)
  clear hK K
  refine pA 7 3 (mL 8 255) HT_ rfl rfl ?_
  refine done_ (done_of HT_.out KR) ?_
  try go_wp2
  refine bodyPost_ret (results_ct rfl _ _ gb583 40 #[.slice Ao16 t585.length co16, .slice Ao15 y588.length co15] (0, 0) _ rfl (by (with_reducible repeat (first | refine blk_drewN ?_ _ | refine blk_drew ?_ | refine blk_alloc ?_ _)); refine blk_put (cs := #[.slice Ao16 t585.length co16, .slice none 0 0]) ?_ 1 _ rfl; (with_reducible repeat (first | refine blk_drewN ?_ _ | refine blk_drew ?_ | refine blk_alloc ?_ _)); refine blk_put (cs := #[.slice none 0 0, .slice none 0 0]) ?_ 0 _ rfl; (with_reducible repeat (first | refine blk_drewN ?_ _ | refine blk_drew ?_ | refine blk_alloc ?_ _)); exact BK583.out) Try.underlying40 rfl KR) rfl ?_
  exact ⟨_, _, TE, by (with_reducible repeat (first | apply Kd.R_alloc | apply Kd.R_drewN | apply Kd.R_drew)); exact Kd.R_mono (Kd.R_far (p := ⟨gb583, 1, none⟩) (Kd.R_far (p := ⟨gb583, 0, none⟩) (Kd.R_types HO587.out BK583.out (by decide)) (fun _ hk => hk.2) (.slice Ao16 t585.length co16)) (fun _ hk => hk.2) (.slice Ao15 y588.length co15)) (fun _ hk => hk.1), by (with_reducible repeat (first | apply Kd.R_alloc | apply Kd.R_drewN | apply Kd.R_drew)); exact Kd.R_mono (Kd.R_far (p := ⟨gb583, 1, none⟩) (Kd.R_far (p := ⟨gb583, 0, none⟩) (Kd.R_types HO590.out BK583.out (by decide)) (fun _ hk => hk.2) (.slice Ao16 t585.length co16)) (fun _ hk => hk.2) (.slice Ao15 y588.length co15)) (fun _ hk => hk.1), TB⟩
 ·replace c3 := Bool.eq_false_iff.mpr c3
  subst c3
  replace H := iff' H
  simp only [Option.some.injEq, Prod.mk.injEq] at H
  obtain ⟨rfl, rfl, rfl⟩ := H
  go_enter Try.func32, Try.ntmps32
  go_wp2_with (first | ((with_reducible refine gate_dst (N := 2) rfl ?_); refine bE 2 #[.slice none 0 0, .slice none 0 0] 40 ?_; intro gb583 hg w19 hbox hb; have BK583 := Aside0.mk (hbox); have GE583 := bG hg; replace HB := BS hb; clear hb hbox hg) | ((with_reducible refine gate_callee (f := 17) rfl ?_); refine goesL_ (some 5) rfl rfl Try.func17 KR rfl #[.slice A0 l0.length c0] rfl TA ?_; (with_reducible refine (impl_GoodWeights.calls k _ _ l0 false _ ?side1 ?side2 A2.out).mono ?_); (case side1 => exact CW ((Kd.C_below HR0.out HB.out))); (case side2 => exact HC0.out); rintro e w' ⟨rfl, ⟨nd, rfl⟩⟩; refine ⟨_, rfl, ?_⟩; (try (rw [drewN_self w19]; generalize hq_ : World.drewN w19 _ = w19; have n0_ : Aside0 (w19.heap[gb583]? = some (.cells #[.slice none 0 0, .slice none 0 0] 40 (0, 0))) := ⟨by rw [← hq_]; exact (KW BK583).out⟩; have n1_ : Aside0 (Below w.heap.size w w19) := ⟨by rw [← hq_]; exact TB⟩; clear BK583 HB hq_; have BK583 := n0_; have HB := n1_; clear n0_ n1_)); have hcz20 := cz2 BK583))
  refine bodyPost_ret (results_ct rfl _ _ gb583 40 #[.slice none 0 0, .slice none 0 0] (0, 0) _ rfl (by (with_reducible repeat (first | refine blk_drewN ?_ _ | refine blk_drew ?_ | refine blk_alloc ?_ _)); refine blk_put (cs := #[.slice none 0 0, .slice none 0 0]) ?_ 1 _ rfl; (with_reducible repeat (first | refine blk_drewN ?_ _ | refine blk_drew ?_ | refine blk_alloc ?_ _)); refine blk_put (cs := #[.slice none 0 0, .slice none 0 0]) ?_ 0 _ rfl; (with_reducible repeat (first | refine blk_drewN ?_ _ | refine blk_drew ?_ | refine blk_alloc ?_ _)); exact BK583.out) Try.underlying40 rfl KR) rfl ?_
  exact ⟨_, _, TE, TZ, TZ, TB⟩
end
section
/-! ### spec_NewTurn: function 31 -/
def spec_NewTurn.f (k : Nat) (l0 : List Int) : Option (List Int × List Int × Bool) := (spec_GoodWeights.f k l0).bind fun t567 => (if t567 = true then ((some (([] : List Int) : List Int)).bind fun y568 => (if y568.length + l0.length < 17592186044416 then (if 0 ≤ (l0.length : Int) then (if ((l0.length : Int) : Int).toNat ≤ 35184372088832 then (some ((y568 ++ l0), (List.replicate ((l0.length : Int) : Int).toNat 0), true)) else (none)) else (none)) else (none))) else (some (([] : List Int), ([] : List Int), false)))
def spec_NewTurn.T3 : Bool × List (List Nat × List Nat) := (true, [([], []), ([], []), ([0, 1], [0, 1]), ([], []), ([3], [3]), ([4, 4], [4]), ([2, 5], [2, 5]), ([6, 2, 0, 1, 2, 3, 4, 5, 6], [6]), ([7, 0, 1, 2, 3, 4, 5, 6, 7], [])])
def spec_NewTurn.B3 : List Nat := [0, 0, 3, 0, 8, 24, 63, 127, 255]
theorem spec_NewTurn.tab3 : rtab .any (opsOf Try.f31 3) = spec_NewTurn.T3 := by kernel_rfl
theorem spec_NewTurn.bits3 : waitsOk spec_NewTurn.T3.2 spec_NewTurn.B3 = true := by kernel_rfl
theorem spec_NewTurn.calls (k : Nat) (A0 : Option Addr) (c0 : Nat) (l0 : List Int) (r1 : List Int) (r2 : List Int) (r3 : Bool) (w : World) (hr0 : Kd.C (Kd.int .i64) w A0 l0.length l0) (hc0 : l0.length ≤ c0) (h : spec_NewTurn.f k l0 = some (r1, r2, r3)) :
  Calls Try.prog 31 #[.slice A0 l0.length c0] w fun e w' => ∃ v0_ v1_ : Value, e = .returned (.tuple #[.agg #[v0_, v1_], .bool r3]) ∧ Kd.R (Kd.int .i64) 3 w' w.heap.size (fun k_ => some k_ ≠ (v1_ : Value).ownBlock) v0_ r1 ∧ Kd.R (Kd.int .i64) 3 w' w.heap.size (fun k_ => some k_ ≠ (v0_ : Value).ownBlock) v1_ r2 ∧ Below w.heap.size w w' := by
 have hu40 := Try.underlying40
 have HR0 := Aside0.mk hr0
 have HC0 := Aside0.mk hc0
 clear hr0 hc0
 have HB := Aside0.mk (Below.refl w.heap.size w)
 have H : ((spec_GoodWeights.f k l0).bind fun t567 => (if t567 = true then ((some (([] : List Int) : List Int)).bind fun y568 => (if y568.length + l0.length < 17592186044416 then (if 0 ≤ (l0.length : Int) then (if ((l0.length : Int) : Int).toNat ≤ 35184372088832 then (some ((y568 ++ l0), (List.replicate ((l0.length : Int) : Int).toNat 0), true)) else (none)) else (none)) else (none))) else (some (([] : List Int), ([] : List Int), false)))) = some (r1, r2, r3) := h
 clear h
 obtain ⟨t567, A2, H⟩ := bnd H
 by_cases c3 : t567 = true
 ·subst c3
  replace H := ift H
  obtain ⟨y568, hy568⟩ : ∃ y_ : List Int, y_ = (([] : List Int)) := ⟨_, rfl⟩
  replace H : (if y568.length + l0.length < 17592186044416 then (if 0 ≤ (l0.length : Int) then (if ((l0.length : Int) : Int).toNat ≤ 35184372088832 then (some ((y568 ++ l0), (List.replicate ((l0.length : Int) : Int).toNat 0), true)) else (none)) else (none)) else (none)) = some (r1, r2, r3) := by first | (rw [hy568]; with_reducible exact H) | (have H2_ := (Option.bind_some _ _).symm.trans H; rw [hy568]; with_reducible exact H2_) | (have H2_ := (Option.bind_some _ _).symm.trans H; with_reducible exact H2_) | with_reducible exact H | (rw [hy568]; exact H) | exact H
  have Ny568 := Aside0.mk hy568
  clear hy568
  obtain ⟨c4, H⟩ := ifn H
  have LMc4 := Aside0.mk c4
  clear c4
  obtain ⟨y571, hy571⟩ : ∃ y_ : List Int, y_ = (y568 ++ l0) := ⟨_, rfl⟩
  replace H : (if 0 ≤ (l0.length : Int) then (if ((l0.length : Int) : Int).toNat ≤ 35184372088832 then (some (y571, (List.replicate ((l0.length : Int) : Int).toNat 0), true)) else (none)) else (none)) = some (r1, r2, r3) := by first | (rw [hy571]; with_reducible exact H) | (have H2_ := (Option.bind_some _ _).symm.trans H; rw [hy571]; with_reducible exact H2_) | (have H2_ := (Option.bind_some _ _).symm.trans H; with_reducible exact H2_) | with_reducible exact H | (rw [hy571]; exact H) | exact H
  have Ny571 := Aside0.mk hy571
  clear hy571
  obtain ⟨c5, H⟩ := ifn H
  have c5b0 := eq_true c5
  have c5b1 : decide (0 ≤ (l0.length : Int)) = true := decide_eq_true c5
  clear c5
  obtain ⟨c6, H⟩ := ifn H
  have c6b0 := eq_true c6
  have c6b1 : decide (((l0.length : Int) : Int).toNat ≤ 35184372088832) = true := decide_eq_true c6
  clear c6
  obtain ⟨y574, hy574⟩ : ∃ y_ : List Int, y_ = (List.replicate ((l0.length : Int) : Int).toNat 0) := ⟨_, rfl⟩
  replace H : (some (y571, y574, true)) = some (r1, r2, r3) := by first | (rw [hy574]; with_reducible exact H) | (have H2_ := (Option.bind_some _ _).symm.trans H; rw [hy574]; with_reducible exact H2_) | (have H2_ := (Option.bind_some _ _).symm.trans H; with_reducible exact H2_) | with_reducible exact H | (rw [hy574]; exact H) | exact H
  have Ny574 := Aside0.mk hy574
  clear hy574
  simp only [Option.some.injEq, Prod.mk.injEq] at H
  obtain ⟨rfl, rfl, rfl⟩ := H
  go_enter Try.func31, Try.ntmps31
  try go_wp2_with (first | ((with_reducible refine gate_dst (N := 2) rfl ?_); refine bE 2 #[.slice none 0 0, .slice none 0 0] 40 ?_; intro gb566 hg w7 hbox hb; have BK566 := Aside0.mk (hbox); have GE566 := bG hg; replace HB := BS hb; clear hb hbox hg) | ((with_reducible refine gate_callee (f := 15) rfl ?_); refine goesL_ (some 5) rfl rfl Try.func15 KR rfl #[.slice A0 l0.length c0] rfl TA ?_; (with_reducible refine (spec_GoodWeights.calls k _ _ l0 true _ ?side1 ?side2 A2.out).mono ?_); (case side1 => exact CW ((Kd.C_below HR0.out HB.out))); (case side2 => exact HC0.out); rintro e w' ⟨rfl, ⟨nd, rfl⟩⟩; refine ⟨_, rfl, ?_⟩; (try (rw [drewN_self w7]; generalize hq_ : World.drewN w7 _ = w7; have n0_ : Aside0 (w7.heap[gb566]? = some (.cells #[.slice none 0 0, .slice none 0 0] 40 (0, 0))) := ⟨by rw [← hq_]; exact (KW BK566).out⟩; have n1_ : Aside0 (Below w.heap.size w w7) := ⟨by rw [← hq_]; exact TB⟩; clear BK566 HB hq_; have BK566 := n0_; have HB := n1_; clear n0_ n1_))))
  replace BK566 := Aside0.mk (blk_drew BK566.out)
  replace HB := Aside0.mk (below_drew1 HB.out)
  refine start_ (n := 9) (S := fun w' => True) (ds := []) #[false, false, false, false, false, false, false, false, false] KR rfl rfl trivial (fun hHeld => ?_); refine with_tabW spec_NewTurn.tab3 spec_NewTurn.bits3 (fun HT_ HW_ => ?_)
  generalize w7.drew = w8 at BK566 HB hHeld ⊢
  refine pA 1 9 (mL 9 2) HT_ rfl rfl ?_
  refine pA 3 11 (mL 9 10) HT_ rfl rfl ?_
  refine pA 4 12 (mL 9 26) HT_ rfl rfl ?_
  refine join_ (σ := Value × Value × Value) 3 #[true, true, true, true, true, true, false, false, false] (fun s_ => [(8, s_.1), (10, s_.2.1), (13, s_.2.2)]) (fun s_ w' => (Kd.R (Kd.int .i64) 3 w' w.heap.size (fun k_ => some k_ ≠ (s_.2.2 : Value).ownBlock) s_.2.1 y571) ∧ (Kd.R (Kd.int .i64) 3 w' w.heap.size (fun k_ => some k_ ≠ (s_.2.1 : Value).ownBlock) s_.2.2 y574) ∧ (w'.heap[gb566]? = some (.cells #[.slice none 0 0, .slice none 0 0] 40 (0, 0))) ∧ (Below w.heap.size w w')) ?_ ?_
  rotate_left
  ·intro hCont
   refine two_ (i := 0) (j := 5) (Ni := some 8) (Nj := some 13) #[true, true, false, true, true, false, false, false, false] #[false, true, false, true, true, true, false, false, false] rfl rfl rfl rfl (two_of HT_.out KR) (by decide) (by decide) (fun K hK => ?_) (fun K hK => ?_)
   ·skip
    refine Kd.R_lit_step (Kd.int .i64) _ 3 ?hg (N := 8) ?hd (xs := ([] : List Int)) (inner := []) (ok := fun _ => True) (okp := fun _ => True) ?hr ?hp (fun _ hk => hk) trivial (Below.refl _ _) (Nat.le_refl _) (by simp) ?_; (case hd => rfl); (case hg => rfl); (case hr => first | (go_simp; done) | (go_simp; rfl)); (case hp => exact (Reps.none _ _))
    intro v569 w9 ho10 hb hg_ hnew_
    clear hg_ hnew_
    (first | rw [← Ny568.out] at ho10 | (simp only [Int.reduceToNat] at ho10; rw [← Ny568.out] at ho10))
    have HO570 := RL ho10
    replace BK566 := KB BK566 hb
    replace HB := BS hb
    clear hb ho10
    refine hK.out _ _ trivial (fun hHeld => ?_)
    clear hK K
    refine nA ?_
    refine two_ (i := 2) (j := 5) (Ni := some 10) (Nj := some 13) #[true, true, true, true, true, false, false, false, false] #[true, true, false, true, true, true, false, false, false] rfl rfl rfl rfl (two_of HT_.out KR) (by decide) (by decide) (fun K hK => ?_) (fun K hK => ?_)
    ·skip
     refine Kd.R_append_rows_step (Kd.int .i64) (w0 := w) w.heap.size (by rfl) (.tmp 8) (.tmp 9) 22 3 (.int .i64 0) 8 rfl Try.underlying22 info3 rfl (by decide) (by omega) v569 y568 l0 _ _ _ (fun _ => True) (fun _ => False) rfl rfl ?aO ?aR (fun _ _ h => h) (fun _ h => h.elim) ?aF ?aB ?aS ?aL ?_
     (case aR => repeat (first | exact (Kd.C_below HR0.out HB.out) | (with_reducible refine Kd.C_alloc ?_ _) | (with_reducible refine Kd.C_drewN ?_ _) | (with_reducible refine Kd.C_drew ?_)))
     (case aB => exact TB)
     (case aF => exact (fun _ _ => trivial))
     (case aO => exact (RW HO570).out)
     (case aS => exact (below_size TB))
     (case aL => have := LMc4.out; omega)
     intro v572 w11 ho hb hg hat
     rw [← Ny571.out] at ho
     have n0_ := Aside0.mk (blk_grown (g := gb566) (o := .cells #[.slice none 0 0, .slice none 0 0] 40 (0, 0)) (KW BK566).out hg (Kd.R_ne HO570.out BK566.out (by decide)))
     have n1_ := Aside0.mk (hb)
     have n2_ := Aside0.mk (ho)
     clear BK566
     clear HB
     clear HO570
     have BK566 := n0_
     have HB := n1_
     have HO573 := n2_
     clear n0_ n1_ n2_
     clear ho hb hg hat
     refine hK.out _ _ trivial (fun hHeld => ?_)
     clear hK K
     refine nA ?_
     refine one_ (i := 5) (N := some 13) (mL 9 63) rfl rfl (one_of HT_.out KR) (by decide) (fun K hK => ?_)
     refine Kd.R_make_step (Kd.int .i64) _ 3 (by rfl) (N := 13) rfl 22 _ _ rfl (l0.length : Int) rfl rfl Try.underlying22 (.int .i64 0) 8 info3 rfl (by decide) (by omega) 0 (ok := fun _ => True) (okp := fun _ => True) rfl (fun _ hk => hk) trivial TD (Nat.le_trans (Nat.mul_le_mul_right _ (TD : (l0.length : Int).toNat ≤ 35184372088832)) (by omega)) (Below.refl _ _) (Nat.le_refl _) ?_
     intro v575 w12 ho13 hb hg_ hnew_
     clear hg_ hnew_
     (first | rw [← Ny574.out] at ho13 | (simp only [Int.reduceToNat] at ho13; rw [← Ny574.out] at ho13))
     have HO576 := RL (NW ho13 HO573)
     replace HO573 := EL HO573 ho13 hb
     replace BK566 := KB BK566 hb
     replace HB := BS hb
     clear hb ho13
     obtain ⟨Ao14, co14, eo14⟩ := Kd.R_slice HO576.out
     (first | subst eo14 | (injection eo14 with f1_ f2_ f3_; have f4_ := f1_.symm; have f5_ := f3_.symm; clear f1_ f2_ f3_; subst f4_; subst f5_))
     obtain ⟨Ao15, co15, eo15⟩ := Kd.R_slice HO573.out
     (first | subst eo15 | (injection eo15 with f1_ f2_ f3_; have f4_ := f1_.symm; have f5_ := f3_.symm; clear f1_ f2_ f3_; subst f4_; subst f5_))
     refine hK.out _ _ trivial (fun hHeld => ?_)
     clear hK K
     refine nA ?_
     exact norm_ (by simp only [putAll, Act.put, List.setIfInBounds_toArray, List.set_cons_zero, List.set_cons_succ]) (hCont (v569, .slice Ao15 y571.length co15, .slice Ao14 y574.length co14) _ ⟨(MO HO573).out, (MO HO576).out, (KW BK566).out, TB⟩)
    ·skip
     refine Kd.R_make_step (Kd.int .i64) _ 3 (by rfl) (N := 13) rfl 22 _ _ rfl (l0.length : Int) rfl rfl Try.underlying22 (.int .i64 0) 8 info3 rfl (by decide) (by omega) 0 (ok := fun _ => True) (okp := fun _ => True) rfl (fun _ hk => hk) trivial TD (Nat.le_trans (Nat.mul_le_mul_right _ (TD : (l0.length : Int).toNat ≤ 35184372088832)) (by omega)) (Below.refl _ _) (Nat.le_refl _) ?_
     intro v575 w11 ho12 hb hg_ hnew_
     clear hg_ hnew_
     (first | rw [← Ny574.out] at ho12 | (simp only [Int.reduceToNat] at ho12; rw [← Ny574.out] at ho12))
     have HO576 := RL (NW ho12 HO570)
     replace HO570 := EL HO570 ho12 hb
     replace BK566 := KB BK566 hb
     replace HB := BS hb
     clear hb ho12
     refine hK.out _ _ trivial (fun hHeld => ?_)
     clear hK K
     refine nA ?_
     refine one_ (i := 2) (N := some 10) (mL 9 63) rfl rfl (one_of HT_.out KR) (by decide) (fun K hK => ?_)
     refine Kd.R_append_rows_step (Kd.int .i64) (w0 := w) w.heap.size (by rfl) (.tmp 8) (.tmp 9) 22 3 (.int .i64 0) 8 rfl Try.underlying22 info3 rfl (by decide) (by omega) v569 y568 l0 _ _ _ (fun k_ => some k_ ≠ (v575 : Value).ownBlock) (fun _ => False) rfl rfl ?aO ?aR (fun _ _ h => h) (fun _ h => h.elim) ?aF ?aB ?aS ?aL ?_
     (case aR => repeat (first | exact (Kd.C_below HR0.out HB.out) | (with_reducible refine Kd.C_alloc ?_ _) | (with_reducible refine Kd.C_drewN ?_ _) | (with_reducible refine Kd.C_drew ?_)))
     (case aB => exact TB)
     (case aF => exact (fun k_ hk => Kd.fresh' (Kd.R_lt (RW HO576).out) k_ hk))
     (case aO => exact (MO HO570).out)
     (case aS => exact (below_size TB))
     (case aL => have := LMc4.out; omega)
     intro v572 w13 ho hb hg hat
     rw [← Ny571.out] at ho
     have n0_ := Aside0.mk (blk_grown (g := gb566) (o := .cells #[.slice none 0 0, .slice none 0 0] 40 (0, 0)) (KW BK566).out hg (Kd.R_ne HO570.out BK566.out (by decide)))
     have n1_ := Aside0.mk (Kd.R_after (ok := (fun _ => True)) (RW HO576).out hg hat)
     have n2_ := Aside0.mk (hb)
     have n3_ := Aside0.mk (ho)
     clear BK566
     clear HO576
     clear HB
     clear HO570
     have BK566 := n0_
     have HO576 := n1_
     have HB := n2_
     have HO573 := n3_
     clear n0_ n1_ n2_ n3_
     clear ho hb hg hat
     obtain ⟨Ao14, co14, eo14⟩ := Kd.R_slice HO576.out
     (first | subst eo14 | (injection eo14 with f1_ f2_ f3_; have f4_ := f1_.symm; have f5_ := f3_.symm; clear f1_ f2_ f3_; subst f4_; subst f5_))
     obtain ⟨Ao15, co15, eo15⟩ := Kd.R_slice HO573.out
     (first | subst eo15 | (injection eo15 with f1_ f2_ f3_; have f4_ := f1_.symm; have f5_ := f3_.symm; clear f1_ f2_ f3_; subst f4_; subst f5_))
     refine hK.out _ _ trivial (fun hHeld => ?_)
     clear hK K
     refine nA ?_
     exact norm_ (by simp only [putAll, Act.put, List.setIfInBounds_toArray, List.set_cons_zero, List.set_cons_succ]) (hCont (v569, .slice Ao15 y571.length co15, .slice Ao14 y574.length co14) _ ⟨(RW HO573).out, (MO HO576).out, (KW BK566).out, TB⟩)
   ·skip
    refine Kd.R_make_step (Kd.int .i64) _ 3 (by rfl) (N := 13) rfl 22 _ _ rfl (l0.length : Int) rfl rfl Try.underlying22 (.int .i64 0) 8 info3 rfl (by decide) (by omega) 0 (ok := fun _ => True) (okp := fun _ => True) rfl (fun _ hk => hk) trivial TD (Nat.le_trans (Nat.mul_le_mul_right _ (TD : (l0.length : Int).toNat ≤ 35184372088832)) (by omega)) (Below.refl _ _) (Nat.le_refl _) ?_
    intro v575 w9 ho10 hb hg_ hnew_
    clear hg_ hnew_
    (first | rw [← Ny574.out] at ho10 | (simp only [Int.reduceToNat] at ho10; rw [← Ny574.out] at ho10))
    have HO576 := RL ho10
    replace BK566 := KB BK566 hb
    replace HB := BS hb
    clear hb ho10
    refine hK.out _ _ trivial (fun hHeld => ?_)
    clear hK K
    refine nA ?_
    refine one_ (i := 0) (N := some 8) (mL 9 59) rfl rfl (one_of HT_.out KR) (by decide) (fun K hK => ?_)
    refine Kd.R_lit_step (Kd.int .i64) _ 3 ?hg (N := 8) ?hd (xs := ([] : List Int)) (inner := []) (ok := fun _ => True) (okp := fun _ => True) ?hr ?hp (fun _ hk => hk) trivial (Below.refl _ _) (Nat.le_refl _) (by simp) ?_; (case hd => rfl); (case hg => rfl); (case hr => first | (go_simp; done) | (go_simp; rfl)); (case hp => exact (Reps.none _ _))
    intro v569 w11 ho12 hb hg_ hnew_
    clear hg_ hnew_
    (first | rw [← Ny568.out] at ho12 | (simp only [Int.reduceToNat] at ho12; rw [← Ny568.out] at ho12))
    have HO570 := RL (NW ho12 HO576)
    replace HO576 := EL HO576 ho12 hb
    replace BK566 := KB BK566 hb
    replace HB := BS hb
    clear hb ho12
    refine hK.out _ _ trivial (fun hHeld => ?_)
    clear hK K
    refine nA ?_
    refine one_ (i := 2) (N := some 10) (mL 9 63) rfl rfl (one_of HT_.out KR) (by decide) (fun K hK => ?_)
    refine Kd.R_append_rows_step (Kd.int .i64) (w0 := w) w.heap.size (by rfl) (.tmp 8) (.tmp 9) 22 3 (.int .i64 0) 8 rfl Try.underlying22 info3 rfl (by decide) (by omega) v569 y568 l0 _ _ _ (fun k_ => some k_ ≠ (v575 : Value).ownBlock) (fun _ => False) rfl rfl ?aO ?aR (fun _ _ h => h) (fun _ h => h.elim) ?aF ?aB ?aS ?aL ?_
    (case aR => repeat (first | exact (Kd.C_below HR0.out HB.out) | (with_reducible refine Kd.C_alloc ?_ _) | (with_reducible refine Kd.C_drewN ?_ _) | (with_reducible refine Kd.C_drew ?_)))
    (case aB => exact TB)
    (case aF => exact (fun k_ hk => Kd.fresh' (Kd.R_lt (RW HO576).out) k_ hk))
    (case aO => exact (MO HO570).out)
    (case aS => exact (below_size TB))
    (case aL => have := LMc4.out; omega)
    intro v572 w13 ho hb hg hat
    rw [← Ny571.out] at ho
    have n0_ := Aside0.mk (blk_grown (g := gb566) (o := .cells #[.slice none 0 0, .slice none 0 0] 40 (0, 0)) (KW BK566).out hg (Kd.R_ne HO570.out BK566.out (by decide)))
    have n1_ := Aside0.mk (Kd.R_after (ok := (fun _ => True)) (RW HO576).out hg hat)
    have n2_ := Aside0.mk (hb)
    have n3_ := Aside0.mk (ho)
    clear BK566
    clear HO576
    clear HB
    clear HO570
    have BK566 := n0_
    have HO576 := n1_
    have HB := n2_
    have HO573 := n3_
    clear n0_ n1_ n2_ n3_
    clear ho hb hg hat
    obtain ⟨Ao14, co14, eo14⟩ := Kd.R_slice HO576.out
    (first | subst eo14 | (injection eo14 with f1_ f2_ f3_; have f4_ := f1_.symm; have f5_ := f3_.symm; clear f1_ f2_ f3_; subst f4_; subst f5_))
    obtain ⟨Ao15, co15, eo15⟩ := Kd.R_slice HO573.out
    (first | subst eo15 | (injection eo15 with f1_ f2_ f3_; have f4_ := f1_.symm; have f5_ := f3_.symm; clear f1_ f2_ f3_; subst f4_; subst f5_))
    refine hK.out _ _ trivial (fun hHeld => ?_)
    clear hK K
    refine nA ?_
    exact norm_ (by simp only [putAll, Act.put, List.setIfInBounds_toArray, List.set_cons_zero, List.set_cons_succ]) (hCont (v569, .slice Ao15 y571.length co15, .slice Ao14 y574.length co14) _ ⟨(RW HO573).out, (MO HO576).out, (KW BK566).out, TB⟩)
  rintro ⟨v569, v572, v575⟩ w16 ⟨h0_, h1_, h2_, h3_⟩
  have n0_ : Aside0 (Kd.R (Kd.int .i64) 3 w16 w.heap.size (fun k_ => some k_ ≠ (v575 : Value).ownBlock) v572 y571) := ⟨h0_⟩
  have n1_ : Aside0 (Kd.R (Kd.int .i64) 3 w16 w.heap.size (fun k_ => some k_ ≠ (v572 : Value).ownBlock) v575 y574) := ⟨h1_⟩
  have n2_ : Aside0 (w16.heap[gb566]? = some (.cells #[.slice none 0 0, .slice none 0 0] 40 (0, 0))) := ⟨h2_⟩
  have n3_ : Aside0 (Below w.heap.size w w16) := ⟨h3_⟩
  clear BK566
  clear HB
  clear h0_ h1_ h2_ h3_
  have HO573 := n0_
  have HO576 := n1_
  have BK566 := n2_
  have HB := n3_
  clear n0_ n1_ n2_ n3_
  have hHeld := trivial
  obtain ⟨Ao17, co17, eo17⟩ := Kd.R_slice HO576.out
  (first | subst eo17 | (injection eo17 with f1_ f2_ f3_; have f4_ := f1_.symm; have f5_ := f3_.symm; clear f1_ f2_ f3_; subst f4_; subst f5_))
  obtain ⟨Ao18, co18, eo18⟩ := Kd.R_slice HO573.out
  (first | subst eo18 | (injection eo18 with f1_ f2_ f3_; have f4_ := f1_.symm; have f5_ := f3_.symm; clear f1_ f2_ f3_; subst f4_; subst f5_))
  refine norm_ (a' := ?_) ?_ ?_
  rotate_left
  ·simp only [putAll, Act.put, List.setIfInBounds_toArray, List.set_cons_zero, List.set_cons_succ]
   rfl
  refine pA 6 14 (mL 9 127) HT_ rfl rfl ?_
  refine one_ (i := 7) (N := none) (mL 9 255) rfl rfl (one_of HT_.out KR) (by decide) (fun K hK => ?_)
  have hs19 := bc 0 BK566
  have hfs19 := blk_frozen BK566.out 0
  have hs20 := bc 1 BK566
  have hfs20 := blk_frozen BK566.out 1
  refine skip_ (w1 := ?_) (by rfl) rfl ?_ ?_
  rotate_left
  ·go_simp
   rfl
  refine hK.out _ _ trivial (fun hHeld => ?_)
  clear hK K
  refine pA 8 3 (mL 9 511) HT_ rfl rfl ?_
  refine done_ (done_of HT_.out KR) ?_
  try go_wp2
  refine bodyPost_ret (results_ct rfl _ _ gb566 40 #[.slice Ao18 y571.length co18, .slice Ao17 y574.length co17] (0, 0) _ rfl (by (with_reducible repeat (first | refine blk_drewN ?_ _ | refine blk_drew ?_ | refine blk_alloc ?_ _)); refine blk_put (cs := #[.slice Ao18 y571.length co18, .slice none 0 0]) ?_ 1 _ rfl; (with_reducible repeat (first | refine blk_drewN ?_ _ | refine blk_drew ?_ | refine blk_alloc ?_ _)); refine blk_put (cs := #[.slice none 0 0, .slice none 0 0]) ?_ 0 _ rfl; (with_reducible repeat (first | refine blk_drewN ?_ _ | refine blk_drew ?_ | refine blk_alloc ?_ _)); exact BK566.out) Try.underlying40 rfl KR) rfl ?_
  exact ⟨_, _, TE, by (with_reducible repeat (first | apply Kd.R_alloc | apply Kd.R_drewN | apply Kd.R_drew)); exact Kd.R_mono (Kd.R_far (p := ⟨gb566, 1, none⟩) (Kd.R_far (p := ⟨gb566, 0, none⟩) (Kd.R_types HO573.out BK566.out (by decide)) (fun _ hk => hk.2) (.slice Ao18 y571.length co18)) (fun _ hk => hk.2) (.slice Ao17 y574.length co17)) (fun _ hk => hk.1), by (with_reducible repeat (first | apply Kd.R_alloc | apply Kd.R_drewN | apply Kd.R_drew)); exact Kd.R_mono (Kd.R_far (p := ⟨gb566, 1, none⟩) (Kd.R_far (p := ⟨gb566, 0, none⟩) (Kd.R_types HO576.out BK566.out (by decide)) (fun _ hk => hk.2) (.slice Ao18 y571.length co18)) (fun _ hk => hk.2) (.slice Ao17 y574.length co17)) (fun _ hk => hk.1), TB⟩
 ·replace c3 := Bool.eq_false_iff.mpr c3
  subst c3
  replace H := iff' H
  simp only [Option.some.injEq, Prod.mk.injEq] at H
  obtain ⟨rfl, rfl, rfl⟩ := H
  go_enter Try.func31, Try.ntmps31
  go_wp2_with (first | ((with_reducible refine gate_dst (N := 2) rfl ?_); refine bE 2 #[.slice none 0 0, .slice none 0 0] 40 ?_; intro gb566 hg w21 hbox hb; have BK566 := Aside0.mk (hbox); have GE566 := bG hg; replace HB := BS hb; clear hb hbox hg) | ((with_reducible refine gate_callee (f := 15) rfl ?_); refine goesL_ (some 5) rfl rfl Try.func15 KR rfl #[.slice A0 l0.length c0] rfl TA ?_; (with_reducible refine (spec_GoodWeights.calls k _ _ l0 false _ ?side1 ?side2 A2.out).mono ?_); (case side1 => exact CW ((Kd.C_below HR0.out HB.out))); (case side2 => exact HC0.out); rintro e w' ⟨rfl, ⟨nd, rfl⟩⟩; refine ⟨_, rfl, ?_⟩; (try (rw [drewN_self w21]; generalize hq_ : World.drewN w21 _ = w21; have n0_ : Aside0 (w21.heap[gb566]? = some (.cells #[.slice none 0 0, .slice none 0 0] 40 (0, 0))) := ⟨by rw [← hq_]; exact (KW BK566).out⟩; have n1_ : Aside0 (Below w.heap.size w w21) := ⟨by rw [← hq_]; exact TB⟩; clear BK566 HB hq_; have BK566 := n0_; have HB := n1_; clear n0_ n1_)); have hcz22 := cz2 BK566))
  refine bodyPost_ret (results_ct rfl _ _ gb566 40 #[.slice none 0 0, .slice none 0 0] (0, 0) _ rfl (by (with_reducible repeat (first | refine blk_drewN ?_ _ | refine blk_drew ?_ | refine blk_alloc ?_ _)); refine blk_put (cs := #[.slice none 0 0, .slice none 0 0]) ?_ 1 _ rfl; (with_reducible repeat (first | refine blk_drewN ?_ _ | refine blk_drew ?_ | refine blk_alloc ?_ _)); refine blk_put (cs := #[.slice none 0 0, .slice none 0 0]) ?_ 0 _ rfl; (with_reducible repeat (first | refine blk_drewN ?_ _ | refine blk_drew ?_ | refine blk_alloc ?_ _)); exact BK566.out) Try.underlying40 rfl KR) rfl ?_
  exact ⟨_, _, TE, TZ, TZ, TB⟩
end
end Go.Proofs.Ytioeomjjfajldaa.Pp
