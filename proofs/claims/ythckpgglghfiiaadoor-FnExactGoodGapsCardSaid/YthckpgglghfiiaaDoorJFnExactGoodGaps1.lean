/- The functions that the law reaches, one Lean function and its proof for each; written by wip/pp of this workplace, joined by claimit.py. -/
import Derived.Test.YthckpgglghfiiaaDoorProg
import Derived.Below
import Derived.Deep.Draws
import Derived.Deep.AppendLies
import Derived.Maps.AppendAt
import Derived.OwnWalk
import Derived.Laws.BytesArg
import Derived.Laws.MakeOwn
import Derived.Laws.OwnMore
import Derived.Deep.OwnRows
import Derived.Tactics
import Derived.Lib.ConvBytes
import Derived.Laws.Slices
import Derived.WalkKit
import Derived.KernelRfl
import Derived.RowKit3
import Derived.Deep.LoopGhost
import Derived.Deep.QuietTactic
import Derived.BigQuiet
import Derived.WideLaws
import Derived.Deep.DeepCutAuto
import Derived.Deep.CutBlock
import Derived.Deep.RegionHeld3
import Derived.Laws.Rows
import Derived.Lib.AppendStr
import Derived.ArgAppend
import Derived.Laws.IdiomCopy
import Derived.OrdersHeld
import Derived.Laws.BitsLemmas
import Derived.RowKit
import Derived.Test.YthckpgglghfiiaaDoorXWords
import Derived.Test.YthckpgglghfiiaaDoorXSq
import Derived.Test.YthckpgglghfiiaaDoorXShelf
import Derived.Test.YthckpgglghfiiaaDoorWWords
import Derived.Test.YthckpgglghfiiaaDoorWLast
import Derived.Test.YthckpgglghfiiaaDoorWTab
import Derived.Test.YthckpgglghfiiaaDoorWFour
import Derived.Test.YthckpgglghfiiaaDoorWQPut
import Derived.Test.YthckpgglghfiiaaDoorWApart
import Derived.Test.YthckpgglghfiiaaDoorWArr
import Derived.Test.YthckpgglghfiiaaDoorWZeros
import Derived.Test.YthckpgglghfiiaaDoorWFoot
import Derived.Test.YthckpgglghfiiaaDoorWKept
import Derived.Test.YthckpgglghfiiaaDoorWShare
import Derived.Test.YthckpgglghfiiaaDoorWN
import Derived.Test.YthckpgglghfiiaaDoorWFootNe
import Derived.Test.YthckpgglghfiiaaDoorWAt
import Derived.Test.YthckpgglghfiiaaDoorWEqStruct
import Derived.Test.YthckpgglghfiiaaDoorWRepsOne
import Derived.Test.YthckpgglghfiiaaDoorWInv
import Derived.Test.YthckpgglghfiiaaDoorWInvWords
import Derived.Test.YthckpgglghfiiaaDoorWGuard
import Derived.Test.YthckpgglghfiiaaDoorWNEv
import Derived.Test.YthckpgglghfiiaaDoorWMore
import Derived.Test.YthckpgglghfiiaaDoorJFnExactGoodGaps0
namespace Go.Proofs.YthckpgglghfiiaaDoor.Pp
open Go.RowKit Go.Proofs.YthckpgglghfiiaaDoorW.PrintWords Go.Proofs.YthckpgglghfiiaaDoorW.PrintLast Go.Proofs.YthckpgglghfiiaaDoorW.PrintMore
attribute [local go_sem] max2_int min2_int max_two min_two max_three min_three max_four min_four   -- for this text's walks alone
set_option linter.unusedVariables false
set_option linter.unusedSimpArgs false
set_option maxHeartbeats 8000000
set_option maxRecDepth 100000

section
/-! ### strings_genSplit: function 128 -/
mutual
def strings_genSplit.j0 : Nat → ByteArray → ByteArray → Int → Int → Option (List ByteArray)
 | 0, _, _, _, _ => none
 | k + 1, x0, x1, x2, x3 => if 0 ≤ (mn x3 (wrap64 ((x0.size : Int) + 1))) then (if (mn x3 (wrap64 ((x0.size : Int) + 1)) : Int).toNat ≤ 17592186044416 then (strings_genSplit.l0 k x0 x1 x2 (wrap64 ((mn x3 (wrap64 ((x0.size : Int) + 1))) - 1)) (List.replicate (mn x3 (wrap64 ((x0.size : Int) + 1)) : Int).toNat (⟨#[]⟩ : ByteArray)) 0) else (none)) else (none)
def strings_genSplit.l0 : Nat → ByteArray → ByteArray → Int → Int → List ByteArray → Int → Option (List ByteArray)
 | 0, _, _, _, _, _, _ => none
 | k + 1, x0, x1, x2, x3, x9, x10 => if x10 < x3 then ((strings_Index.f x0 x1).bind fun t190 => (if t190 < 0 then (if 0 ≤ x10 then (if x10 < (x9.length : Int) then (if 0 ≤ (wrap64 (x10 + 1)) then (if (wrap64 (x10 + 1)) ≤ (x9.length : Int) then (some ((x9.set (x10 : Int).toNat x0).take ((wrap64 (x10 + 1)) : Int).toNat)) else (none)) else (none)) else (none)) else (none)) else (if 0 ≤ (wrap64 (t190 + x2)) then (if (wrap64 (t190 + x2)) ≤ (x0.size : Int) then (if 0 ≤ x10 then (if x10 < (x9.length : Int) then (if 0 ≤ (wrap64 (t190 + (x1.size : Int))) then (if (wrap64 (t190 + (x1.size : Int))) ≤ (x0.size : Int) then (strings_genSplit.l0 k (x0.extract ((wrap64 (t190 + (x1.size : Int))) : Int).toNat x0.size) x1 x2 x3 (x9.set (x10 : Int).toNat (x0.extract 0 ((wrap64 (t190 + x2)) : Int).toNat)) (wrap64 (x10 + 1))) else (none)) else (none)) else (none)) else (none)) else (none)) else (none)))) else (if 0 ≤ x10 then (if x10 < (x9.length : Int) then (if 0 ≤ (wrap64 (x10 + 1)) then (if (wrap64 (x10 + 1)) ≤ (x9.length : Int) then (some ((x9.set (x10 : Int).toNat x0).take ((wrap64 (x10 + 1)) : Int).toNat)) else (none)) else (none)) else (none)) else (none))
end
def strings_genSplit.f (k : Nat) (a0 : ByteArray) (a1 : ByteArray) (a2 : Int) (a3 : Int) : Option (List ByteArray) := if a3 = 0 then (some ([] : List ByteArray)) else (if a1.toList = ([] : List UInt8) then ((strings_explode.f a0 a3).bind fun t183 => (some t183)) else (if a3 < 0 then ((strings_Count.f a0 a1).bind fun t186 => (strings_genSplit.j0 k a0 a1 a2 (wrap64 (t186 + 1)))) else (strings_genSplit.j0 k a0 a1 a2 a3)))
theorem strings_genSplit.mono_l : ∀ k, (∀ y0 y1 y2 y3, LeO (strings_genSplit.j0 k y0 y1 y2 y3) (strings_genSplit.j0 (k + 1) y0 y1 y2 y3)) ∧ (∀ y0 y1 y2 y3 y4 y5, LeO (strings_genSplit.l0 k y0 y1 y2 y3 y4 y5) (strings_genSplit.l0 (k + 1) y0 y1 y2 y3 y4 y5))
 | 0 => ⟨fun _ _ _ _ r h => by simp [strings_genSplit.j0] at h, fun _ _ _ _ _ _ r h => by simp [strings_genSplit.l0] at h⟩
 | k + 1 => by
  obtain ⟨ih0, ih1⟩ := strings_genSplit.mono_l k
  refine ⟨?_, ?_⟩
  ·intro y0 y1 y2 y3
   unfold strings_genSplit.j0
   repeat' first
   | (with_reducible exact ih0 _ _ _ _)
   | (with_reducible exact ih1 _ _ _ _ _ _)
   | (with_reducible exact LeO.refl _)
   | (with_reducible exact LeO.none _)
   | (with_reducible refine LeO.ite ?_ ?_)
   | (with_reducible refine LeO.bind ?_ (fun _ => ?_))
   | exact ih0 _ _ _ _
   | exact ih1 _ _ _ _ _ _
   | exact LeO.none _
   | refine LeO.ite ?_ ?_
   | refine LeO.bind ?_ (fun _ => ?_)
  ·intro y0 y1 y2 y3 y4 y5
   unfold strings_genSplit.l0
   repeat' first
   | (with_reducible exact ih0 _ _ _ _)
   | (with_reducible exact ih1 _ _ _ _ _ _)
   | (with_reducible exact LeO.refl _)
   | (with_reducible exact LeO.none _)
   | (with_reducible refine LeO.ite ?_ ?_)
   | (with_reducible refine LeO.bind ?_ (fun _ => ?_))
   | exact ih0 _ _ _ _
   | exact ih1 _ _ _ _ _ _
   | exact LeO.none _
   | refine LeO.ite ?_ ?_
   | refine LeO.bind ?_ (fun _ => ?_)
theorem strings_genSplit.mono : ∀ a0 a1 a2 a3 k, LeO (strings_genSplit.f k a0 a1 a2 a3) (strings_genSplit.f (k + 1) a0 a1 a2 a3) := by
 intro a0 a1 a2 a3 k
 obtain ⟨ih0, ih1⟩ := strings_genSplit.mono_l k
 unfold strings_genSplit.f
 repeat' first
   | (with_reducible exact ih0 _ _ _ _)
   | (with_reducible exact ih1 _ _ _ _ _ _)
   | (with_reducible exact LeO.refl _)
   | (with_reducible exact LeO.none _)
   | (with_reducible refine LeO.ite ?_ ?_)
   | (with_reducible refine LeO.bind ?_ (fun _ => ?_))
   | exact ih0 _ _ _ _
   | exact ih1 _ _ _ _ _ _
   | exact LeO.none _
   | refine LeO.ite ?_ ?_
   | refine LeO.bind ?_ (fun _ => ?_)
theorem strings_genSplit.calls (k : Nat) (a0 : ByteArray) (a1 : ByteArray) (a2 : Int) (a3 : Int) (r : List ByteArray) (w : World) (h : strings_genSplit.f k a0 a1 a2 a3 = some r) :
  Calls Tryd.prog 128 #[.string a0, .string a1, .int .i64 a2, .int .i64 a3] w fun e w' => ∃ v0_ : Value, e = .returned (v0_) ∧ Kd.R Kd.string 9 w' w.heap.size (fun _ => True) v0_ r ∧ Below w.heap.size w w' := by
 have HB := Aside0.mk (Below.refl w.heap.size w)
 have H : (if a3 = 0 then (some ([] : List ByteArray)) else (if a1.toList = ([] : List UInt8) then ((strings_explode.f a0 a3).bind fun t183 => (some t183)) else (if a3 < 0 then ((strings_Count.f a0 a1).bind fun t186 => (strings_genSplit.j0 k a0 a1 a2 (wrap64 (t186 + 1)))) else (strings_genSplit.j0 k a0 a1 a2 a3)))) = some r := h
 clear h
 by_cases c5 : a3 = 0
 ·rw [if_pos c5] at H
  have c5b0 : (a3 == 0) = true := beq_iff_eq.mpr c5
  have c5b1 : (a3 != 0) = false := bne_eq_false_iff_eq.mpr c5
  clear c5
  obtain rfl := Option.some.inj H
  go_enter Tryd.func128, Tryd.ntmps128
  go_wp2
  go_ret
  exact ⟨_, by first | rfl | (simp [errW_none, errW_some] <;> rfl) | (simp [*, errW_none, errW_some] <;> rfl) | (simp [errW_none, errW_some]; rw [Bool.eq_iff_iff]; simp), TZ, TB⟩
 ·rw [if_neg c5] at H
  have c5b0 : (a3 == 0) = false := beq_eq_false_iff_ne.mpr c5
  have c5b1 : (a3 != 0) = true := bne_iff_ne.mpr c5
  by_cases c6 : a1.toList = ([] : List UInt8)
  ·rw [if_pos c6] at H
   have c6b0 : (a1.toList == ([] : List UInt8)) = true := beq_iff_eq.mpr c6
   have c6b1 : (a1.toList != ([] : List UInt8)) = false := bne_eq_false_iff_eq.mpr c6
   clear c6
   obtain ⟨t183, A7, H⟩ := bnd H
   obtain rfl := Option.some.inj H
   go_enter Tryd.func128, Tryd.ntmps128
   go_wp2_with (first | ((with_reducible refine gate_callee (f := 140) rfl ?_); refine goesL_ (some 18) rfl rfl Tryd.func140 KR rfl #[.string a0, .int .i64 a3] rfl TA ?_; (with_reducible refine (strings_explode.calls a0 a3 t183 _ A7.out).mono ?_); rintro e w8 ⟨v184, rfl, ho0, hb⟩; refine ⟨_, rfl, ?_⟩; have HO185 := RL ho0; replace HB := BS hb; (try clear hb); (try clear hb2); (try clear hk); (try clear hi); (try clear ho0)))
   go_ret
   exact ⟨_, by first | rfl | (simp [errW_none, errW_some] <;> rfl) | (simp [*, errW_none, errW_some] <;> rfl) | (simp [errW_none, errW_some]; rw [Bool.eq_iff_iff]; simp), (RW HO185).out, TB⟩
  ·rw [if_neg c6] at H
   have c6b0 : (a1.toList == ([] : List UInt8)) = false := beq_eq_false_iff_ne.mpr c6
   have c6b1 : (a1.toList != ([] : List UInt8)) = true := bne_iff_ne.mpr c6
   have HC9 := Aside0.mk H
   clear H
   go_enter Tryd.func128, Tryd.ntmps128
   go_upto_if 20 with (fail)
   go_cut [3] (fun v3 wc => ∃ (kq : Nat) (x3_8 : Int), v3 = .int .i64 x3_8 ∧ Aside0 (strings_genSplit.j0 kq a0 a1 a2 x3_8 = some r) ∧ Aside0 (kq ≤ k) ∧ Aside0 (Below w.heap.size w wc))
   case first =>
    have H := HC9.out
    clear HC9
    by_cases c10 : a3 < 0
    ·rw [if_pos c10] at H
     have c10b0 : decide (a3 < 0) = true := decide_eq_true c10
     clear c10
     (first | rw [c10b0] | (simp only [i64_w, i32_w]; rw [c10b0]) | skip)
     obtain ⟨t186, A11, H⟩ := bnd H
     have H' := Aside0.mk H
     clear H
     go_wp2_with (first | ((with_reducible refine gate_callee (f := 141) rfl ?_); refine goesL_ (some 23) rfl rfl Tryd.func141 KR rfl #[.string a0, .string a1] rfl TA ?_; (with_reducible refine (strings_Count.calls a0 a1 t186 _ A11.out).mono ?_); rintro e w' ⟨rfl, ⟨nd, rfl⟩⟩; refine ⟨_, rfl, ?_⟩))
     go_meet
     case rel => exact ⟨_, (wrap64 (t186 + 1)), TF, H', ⟨by first | omega | exact Nat.le_refl _⟩, ⟨TB⟩⟩
    ·rw [if_neg c10] at H
     have c10b0 : decide (a3 < 0) = false := decide_eq_false c10
     clear c10
     (first | rw [c10b0] | (simp only [i64_w, i32_w]; rw [c10b0]) | skip)
     have H' := Aside0.mk H
     clear H
     go_wp2
     go_meet
     case rel => exact ⟨_, (a3), TF, H', ⟨by first | omega | exact Nat.le_refl _⟩, ⟨TB⟩⟩
   case rest =>
    clear HC9
    try clear c1
    try clear p2
    try clear c5
    try clear c5b0
    try clear c5b1
    try clear c6
    try clear c6b0
    try clear c6b1
    try clear p6
    try clear c10
    try clear c10b0
    obtain ⟨kq, x3_8, rfl, HA, HJ8, HB⟩ := hcut
    cases kq with
    | zero => exact absurd HA.out (by simp [strings_genSplit.j0])
    | succ kj8 =>
     have H := HA.out
     clear HA
     simp only [strings_genSplit.j0] at H
     obtain ⟨ji12, hji12⟩ : ∃ j_ : Int, (mn x3_8 (wrap64 ((a0.size : Int) + 1))) = j_ := ⟨_, rfl⟩
     replace H : (if 0 ≤ (ji12) then (if (ji12 : Int).toNat ≤ 17592186044416 then (strings_genSplit.l0 kj8 a0 a1 a2 (wrap64 ((ji12) - 1)) (List.replicate (ji12 : Int).toNat (⟨#[]⟩ : ByteArray)) 0) else (none)) else (none)) = some r := by first | (rw [hji12] at H; exact H) | (simp only [hji12] at H ⊢; exact H)
     have hji12_ : (if (wrap64 ((a0.size : Int) + 1)) < x3_8 then (wrap64 ((a0.size : Int) + 1)) else x3_8) = ji12 := hji12
     obtain ⟨c13, H⟩ := ifn H
     have c13b0 := eq_true c13
     have c13b1 : decide (0 ≤ (ji12)) = true := decide_eq_true c13
     clear c13
     obtain ⟨c14, H⟩ := ifn H
     have c14b0 := eq_true c14
     have c14b1 : decide ((ji12 : Int).toNat ≤ 17592186044416) = true := decide_eq_true c14
     clear c14
     obtain ⟨y187, hy187⟩ : ∃ y_ : List ByteArray, y_ = (List.replicate (ji12 : Int).toNat (⟨#[]⟩ : ByteArray)) := ⟨_, rfl⟩
     replace H : (strings_genSplit.l0 kj8 a0 a1 a2 (wrap64 ((ji12) - 1)) y187 0) = some r := by first | (rw [hy187]; with_reducible exact H) | (have H2_ := (Option.bind_some _ _).symm.trans H; rw [hy187]; with_reducible exact H2_) | (have H2_ := (Option.bind_some _ _).symm.trans H; with_reducible exact H2_) | with_reducible exact H | (rw [hy187]; exact H) | exact H
     have Ny187 := Aside0.mk hy187
     clear hy187
     have H' := Aside0.mk H
     clear H
     go_wp2_with (first | ((with_reducible refine gate_dst (N := 31) rfl ?_); refine Kd.R_make Kd.string _ 9 rfl (N := 31) rfl 48 _ _ rfl ji12 rfl rfl Tryd.underlying48 (.string ⟨#[]⟩) 16 info9 rfl (by decide) (by omega) (⟨#[]⟩ : ByteArray) (ok := fun _ => True) (okp := fun _ => True) rfl (fun _ hk => hk) trivial TD (Nat.le_trans (Nat.mul_le_mul_right _ (TD : ji12.toNat ≤ 17592186044416)) (by omega)) (Below.refl _ _) (Nat.le_refl _) ?_; intro v188 w15 ho16 hb hg_ hnew_; clear hg_ hnew_; (first | rw [← Ny187.out] at ho16 | (simp only [Int.reduceToNat] at ho16; rw [← Ny187.out] at ho16)); have HO189 := RL ho16; replace HB := BS hb; clear hb ho16))
     go_loopg [0, 10] kj8 (fun kq v0 v10 w' => ∃ (x0_2 : ByteArray) (x9_2 : List ByteArray) (x10_2 : Int), v0 = .string x0_2 ∧ v10 = .int .i64 x10_2 ∧ Aside0 (strings_genSplit.l0 kq x0_2 a1 a2 (wrap64 ((ji12) - 1)) x9_2 x10_2 = some r) ∧ Aside0 (kq ≤ kj8) ∧ Aside0 (Kd.R Kd.string 9 w' w.heap.size (fun _ => True) v188 x9_2) ∧ Aside0 (Below w.heap.size w w'))
     case atStart => exact ⟨(a0), (y187), (0), TF, TF, H', ⟨Nat.le_refl _⟩, RW HO189, ⟨TB⟩⟩
     case round =>
      clear H'
      try clear c1
      try clear p2
      try clear c5
      try clear c5b0
      try clear c5b1
      try clear c6
      try clear c6b0
      try clear c6b1
      try clear p6
      try clear c10
      try clear c10b0
      try clear c12
      try clear c13
      try clear c13b0
      try clear c13b1
      try clear c14
      try clear c14b0
      try clear c14b1
      try clear p2
      try clear p6
      obtain ⟨x0_2, x9_2, x10_2, rfl, rfl, HA, HK2, HO_9, HB⟩ := hrel
      cases gk with
      | zero => exact absurd HA.out (by simp [strings_genSplit.l0])
      | succ k2 =>
       have H := HA.out
       clear HA
       simp only [strings_genSplit.l0] at H
       by_cases c17 : x10_2 < (wrap64 ((ji12) - 1))
       ·rw [if_pos c17] at H
        have c17b0 : decide (x10_2 < (wrap64 ((ji12) - 1))) = true := decide_eq_true c17
        clear c17
        obtain ⟨t190, A18, H⟩ := bnd H
        by_cases c19 : t190 < 0
        ·rw [if_pos c19] at H
         have c19b0 : decide (t190 < 0) = true := decide_eq_true c19
         clear c19
         obtain ⟨c20, H⟩ := ifn H
         have c20b0 : decide (0 ≤ x10_2) = true := decide_eq_true c20
         clear c20
         obtain ⟨c21, H⟩ := ifn H
         have c21b0 : decide (x10_2 < (x9_2.length : Int)) = true := decide_eq_true c21
         clear c21
         obtain ⟨y191, hy191⟩ : ∃ y_ : List ByteArray, y_ = (x9_2.set (x10_2 : Int).toNat x0_2) := ⟨_, rfl⟩
         replace H : (if 0 ≤ (wrap64 (x10_2 + 1)) then (if (wrap64 (x10_2 + 1)) ≤ (x9_2.length : Int) then (some (y191.take ((wrap64 (x10_2 + 1)) : Int).toNat)) else (none)) else (none)) = some r := by first | (rw [hy191]; with_reducible exact H) | (have H2_ := (Option.bind_some _ _).symm.trans H; rw [hy191]; with_reducible exact H2_) | (have H2_ := (Option.bind_some _ _).symm.trans H; with_reducible exact H2_) | with_reducible exact H | (rw [hy191]; exact H) | exact H
         have Ny191 := Aside0.mk hy191
         clear hy191
         obtain ⟨ji23, hji23⟩ : ∃ j_ : Int, (wrap64 (x10_2 + 1)) = j_ := ⟨_, rfl⟩
         replace H : (if 0 ≤ (ji23) then (if (ji23) ≤ (x9_2.length : Int) then (some (y191.take ((ji23) : Int).toNat)) else (none)) else (none)) = some r := by first | (rw [hji23] at H; exact H) | (simp only [hji23] at H ⊢; exact H)
         (try rw [hji23] at A18)
         have hji23w : (IntKind.i64.wrap (x10_2 + 1)) = ji23 := (i64_w _).trans hji23
         obtain ⟨c24, H⟩ := ifn H
         have c24b0 := eq_true c24
         have c24b1 : decide (0 ≤ (ji23)) = true := decide_eq_true c24
         clear c24
         obtain ⟨c25, H⟩ := ifn H
         have c25b0 := eq_true c25
         have c25b1 : decide ((ji23) ≤ (x9_2.length : Int)) = true := decide_eq_true c25
         clear c25
         obtain ⟨y192, hy192⟩ : ∃ y_ : List ByteArray, y_ = (y191.take ((ji23) : Int).toNat) := ⟨_, rfl⟩
         replace H : (some y192) = some r := by first | (rw [hy192]; with_reducible exact H) | (have H2_ := (Option.bind_some _ _).symm.trans H; rw [hy192]; with_reducible exact H2_) | (have H2_ := (Option.bind_some _ _).symm.trans H; with_reducible exact H2_) | with_reducible exact H | (rw [hy192]; exact H) | exact H
         have Ny192 := Aside0.mk hy192
         clear hy192
         obtain rfl := Option.some.inj H
         go_wp2_with (first | ((with_reducible refine gate_callee (f := 142) rfl ?_); refine goesL_ (some 39) rfl rfl Tryd.func142 KR rfl #[.string x0_2, .string a1] rfl TA ?_; (with_reducible refine (strings_Index.calls x0_2 a1 t190 _ A18.out).mono ?_); rintro e w' ⟨rfl, ⟨nd, rfl⟩⟩; refine ⟨_, rfl, ?_⟩; (try (rw [drewN_self wr]; generalize hq_ : World.drewN wr _ = wr; have n0_ : Aside0 (Kd.R Kd.string 9 wr w.heap.size (fun _ => True) v188 x9_2) := ⟨by rw [← hq_]; exact (RW HO_9).out⟩; have n1_ : Aside0 (Below w.heap.size w wr) := ⟨by rw [← hq_]; exact TB⟩; clear HO_9 HB hq_; have HO_9 := n0_; have HB := n1_; clear n0_ n1_)); have p22 : 0 ≤ (x10_2 : Int) := TD; have q22 : (x10_2 : Int) < ((x9_2.length : Int) : Int) := TD; obtain ⟨go22, co22, eo22, gb22, gl22, cl22, HG22⟩ := Kd.R_form HO_9.out (by omega); (first | cases eo22 | (injection eo22 with ea_ en_ ec_; (first | subst ea_ | (injection ea_ with ea_; subst ea_)); subst ec_; clear en_)); have GB22 := Aside0.mk gb22; have GG22 := Aside0.mk HG22; clear gb22 gl22 HG22; obtain ⟨hx22_0, hf22_0⟩ := Kd.R_celln (⟨#[]⟩ : ByteArray) HO_9.out (x10_2 : Int) p22 q22; replace p22 := eq_true p22; replace q22 := eq_true q22; obtain ⟨hy26_, hz26_⟩ := Kd.R_celln (⟨#[]⟩ : ByteArray) HO_9.out (x10_2 : Int) TD TD; have HP26 := Kd.R_putg HO_9.out (x10_2 : Int) x0_2) | ((with_reducible refine gate_store (t := 9) (p := 61) rfl ?_); refine store_event (t := 9) (p := 61) (v := ?vo_w27) (w1 := (wr.setCell ⟨go22, (x10_2 : Int).toNat, none⟩ (.string x0_2))) ?hg ?ho ?hn ?hr ?_; (case ho => rfl); (case hg => rfl); (case hn => rfl); (case hr => first | (go_simp; done) | (go_simp; rfl)); intro w27 hw; have hg : wr.grownBy w27 (some go22) := (by rw [hw]; exact HP26.2); have hp_ : Kd.R Kd.string 9 w27 w.heap.size (fun _ => True) (.slice (some ⟨go22, 0, none⟩) x9_2.length co22) y191 := (by rw [hw, Ny191.out]; exact HP26.1); clear HP26; replace HO_9 := Aside0.mk (hp_); replace HB := Aside0.mk ((by rw [hw]; exact below_set (HB.out) GB22.out : Below w.heap.size w w27)); clear hg hw hp_; have q28 : ((ji23) : Int) ≤ ((x9_2.length : Int) : Int) := TD; obtain ⟨i028, hi028, _, hsz28, _⟩ := info_parts info9; have hcut28 := cut_to (P := Tryd.prog) 48 9 .i64 Tryd.underlying48 hi028 (some ⟨go22, 0, none⟩) x9_2.length co22 (ji23) TD q28 (Kd.R_reads' HO_9.out).2.1; have hr28 := Kd.R_take (m := ((ji23) : Int).toNat) HO_9.out (by have hle_ := (Kd.R_reads' HO_9.out).1; omega); have hy28 : y192.length = ((ji23) : Int).toNat := (by rw [Ny192.out, List.length_take]; have hle_ := (Kd.R_reads' HO_9.out).1; omega); rw [← Ny192.out] at hr28; rw [← hy28] at hr28 hcut28; clear hy28 hi028 hsz28 HO_9; have HO194 := Aside0.mk hr28; clear hr28; replace q28 := eq_true q28))
         go_ret
         exact ⟨_, by first | rfl | (simp [errW_none, errW_some] <;> rfl) | (simp only [← hji12, ← hji23]; first | rfl | (simp [errW_none, errW_some] <;> rfl)) | (simp [*, errW_none, errW_some] <;> rfl) | (simp [errW_none, errW_some]; rw [Bool.eq_iff_iff]; simp), (RW HO194).out, TB⟩
        ·rw [if_neg c19] at H
         have c19b0 : decide (t190 < 0) = false := decide_eq_false c19
         clear c19
         obtain ⟨ji29, hji29⟩ : ∃ j_ : Int, (wrap64 (t190 + a2)) = j_ := ⟨_, rfl⟩
         replace H : (if 0 ≤ (ji29) then (if (ji29) ≤ (x0_2.size : Int) then (if 0 ≤ x10_2 then (if x10_2 < (x9_2.length : Int) then (if 0 ≤ (wrap64 (t190 + (a1.size : Int))) then (if (wrap64 (t190 + (a1.size : Int))) ≤ (x0_2.size : Int) then (strings_genSplit.l0 k2 (x0_2.extract ((wrap64 (t190 + (a1.size : Int))) : Int).toNat x0_2.size) a1 a2 (wrap64 ((ji12) - 1)) (x9_2.set (x10_2 : Int).toNat (x0_2.extract 0 ((ji29) : Int).toNat)) (wrap64 (x10_2 + 1))) else (none)) else (none)) else (none)) else (none)) else (none)) else (none)) = some r := by first | (rw [hji29] at H; exact H) | (simp only [hji29] at H ⊢; exact H)
         (try rw [hji29] at A18)
         have hji29w : (IntKind.i64.wrap (t190 + a2)) = ji29 := (i64_w _).trans hji29
         obtain ⟨c30, H⟩ := ifn H
         have c30b0 := eq_true c30
         have c30b1 : decide (0 ≤ (ji29)) = true := decide_eq_true c30
         clear c30
         obtain ⟨c31, H⟩ := ifn H
         have c31b0 := eq_true c31
         have c31b1 : decide ((ji29) ≤ (x0_2.size : Int)) = true := decide_eq_true c31
         clear c31
         obtain ⟨c32, H⟩ := ifn H
         have c32b0 : decide (0 ≤ x10_2) = true := decide_eq_true c32
         clear c32
         obtain ⟨c33, H⟩ := ifn H
         have c33b0 : decide (x10_2 < (x9_2.length : Int)) = true := decide_eq_true c33
         clear c33
         obtain ⟨y195, hy195⟩ : ∃ y_ : List ByteArray, y_ = (x9_2.set (x10_2 : Int).toNat (x0_2.extract 0 ((ji29) : Int).toNat)) := ⟨_, rfl⟩
         replace H : (if 0 ≤ (wrap64 (t190 + (a1.size : Int))) then (if (wrap64 (t190 + (a1.size : Int))) ≤ (x0_2.size : Int) then (strings_genSplit.l0 k2 (x0_2.extract ((wrap64 (t190 + (a1.size : Int))) : Int).toNat x0_2.size) a1 a2 (wrap64 ((ji12) - 1)) y195 (wrap64 (x10_2 + 1))) else (none)) else (none)) = some r := by first | (rw [hy195]; with_reducible exact H) | (have H2_ := (Option.bind_some _ _).symm.trans H; rw [hy195]; with_reducible exact H2_) | (have H2_ := (Option.bind_some _ _).symm.trans H; with_reducible exact H2_) | with_reducible exact H | (rw [hy195]; exact H) | exact H
         have Ny195 := Aside0.mk hy195
         clear hy195
         obtain ⟨ji35, hji35⟩ : ∃ j_ : Int, (wrap64 (t190 + (a1.size : Int))) = j_ := ⟨_, rfl⟩
         replace H : (if 0 ≤ (ji35) then (if (ji35) ≤ (x0_2.size : Int) then (strings_genSplit.l0 k2 (x0_2.extract ((ji35) : Int).toNat x0_2.size) a1 a2 (wrap64 ((ji12) - 1)) y195 (wrap64 (x10_2 + 1))) else (none)) else (none)) = some r := by first | (rw [hji35] at H; exact H) | (simp only [hji35] at H ⊢; exact H)
         (try rw [hji35] at A18)
         have hji35w : (IntKind.i64.wrap (t190 + (a1.size : Int))) = ji35 := (i64_w _).trans hji35
         obtain ⟨c36, H⟩ := ifn H
         have c36b0 := eq_true c36
         have c36b1 : decide (0 ≤ (ji35)) = true := decide_eq_true c36
         clear c36
         obtain ⟨c37, H⟩ := ifn H
         have c37b0 := eq_true c37
         have c37b1 : decide ((ji35) ≤ (x0_2.size : Int)) = true := decide_eq_true c37
         clear c37
         have H' := Aside0.mk H
         clear H
         go_wp2_with (first | ((with_reducible refine gate_callee (f := 142) rfl ?_); refine goesL_ (some 39) rfl rfl Tryd.func142 KR rfl #[.string x0_2, .string a1] rfl TA ?_; (with_reducible refine (strings_Index.calls x0_2 a1 t190 _ A18.out).mono ?_); rintro e w' ⟨rfl, ⟨nd, rfl⟩⟩; refine ⟨_, rfl, ?_⟩; (try (rw [drewN_self wr]; generalize hq_ : World.drewN wr _ = wr; have n0_ : Aside0 (Kd.R Kd.string 9 wr w.heap.size (fun _ => True) v188 x9_2) := ⟨by rw [← hq_]; exact (RW HO_9).out⟩; have n1_ : Aside0 (Below w.heap.size w wr) := ⟨by rw [← hq_]; exact TB⟩; clear HO_9 HB hq_; have HO_9 := n0_; have HB := n1_; clear n0_ n1_)); have p34 : 0 ≤ (x10_2 : Int) := TD; have q34 : (x10_2 : Int) < ((x9_2.length : Int) : Int) := TD; obtain ⟨go34, co34, eo34, gb34, gl34, cl34, HG34⟩ := Kd.R_form HO_9.out (by omega); (first | cases eo34 | (injection eo34 with ea_ en_ ec_; (first | subst ea_ | (injection ea_ with ea_; subst ea_)); subst ec_; clear en_)); have GB34 := Aside0.mk gb34; have GG34 := Aside0.mk HG34; clear gb34 gl34 HG34; obtain ⟨hx34_0, hf34_0⟩ := Kd.R_celln (⟨#[]⟩ : ByteArray) HO_9.out (x10_2 : Int) p34 q34; replace p34 := eq_true p34; replace q34 := eq_true q34; obtain ⟨hy38_, hz38_⟩ := Kd.R_celln (⟨#[]⟩ : ByteArray) HO_9.out (x10_2 : Int) TD TD; have HP38 := Kd.R_putg HO_9.out (x10_2 : Int) (x0_2.extract 0 ((ji29) : Int).toNat)) | ((with_reducible refine gate_store (t := 9) (p := 49) rfl ?_); refine store_event (t := 9) (p := 49) (v := ?vo_w39) (w1 := (wr.setCell ⟨go34, (x10_2 : Int).toNat, none⟩ (.string (x0_2.extract 0 ((ji29) : Int).toNat)))) ?hg ?ho ?hn ?hr ?_; (case ho => rfl); (case hg => rfl); (case hn => rfl); (case hr => first | (go_simp; done) | (go_simp; rfl)); intro w39 hw; have hg : wr.grownBy w39 (some go34) := (by rw [hw]; exact HP38.2); have hp_ : Kd.R Kd.string 9 w39 w.heap.size (fun _ => True) (.slice (some ⟨go34, 0, none⟩) x9_2.length co34) y195 := (by rw [hw, Ny195.out]; exact HP38.1); clear HP38; replace HO_9 := Aside0.mk (hp_); replace HB := Aside0.mk ((by rw [hw]; exact below_set (HB.out) GB34.out : Below w.heap.size w w39)); clear hg hw hp_))
         go_roundg k2
         case measure => have := HJ8.out; have := HK2.out; omega
         case rel => exact ⟨(x0_2.extract ((ji35) : Int).toNat x0_2.size), (y195), (wrap64 (x10_2 + 1)), (by first | rfl | (simp; done) | (simp only [← hji35] <;> (first | rfl | simp)) | (simp [*]; done)), TF, H', ⟨by have := HJ8.out; have := HK2.out; omega⟩, RW HO_9, ⟨TB⟩⟩
       ·rw [if_neg c17] at H
        have c17b0 : decide (x10_2 < (wrap64 ((ji12) - 1))) = false := decide_eq_false c17
        clear c17
        obtain ⟨c40, H⟩ := ifn H
        have c40b0 : decide (0 ≤ x10_2) = true := decide_eq_true c40
        clear c40
        obtain ⟨c41, H⟩ := ifn H
        have c41b0 : decide (x10_2 < (x9_2.length : Int)) = true := decide_eq_true c41
        clear c41
        obtain ⟨y196, hy196⟩ : ∃ y_ : List ByteArray, y_ = (x9_2.set (x10_2 : Int).toNat x0_2) := ⟨_, rfl⟩
        replace H : (if 0 ≤ (wrap64 (x10_2 + 1)) then (if (wrap64 (x10_2 + 1)) ≤ (x9_2.length : Int) then (some (y196.take ((wrap64 (x10_2 + 1)) : Int).toNat)) else (none)) else (none)) = some r := by first | (rw [hy196]; with_reducible exact H) | (have H2_ := (Option.bind_some _ _).symm.trans H; rw [hy196]; with_reducible exact H2_) | (have H2_ := (Option.bind_some _ _).symm.trans H; with_reducible exact H2_) | with_reducible exact H | (rw [hy196]; exact H) | exact H
        have Ny196 := Aside0.mk hy196
        clear hy196
        obtain ⟨ji43, hji43⟩ : ∃ j_ : Int, (wrap64 (x10_2 + 1)) = j_ := ⟨_, rfl⟩
        replace H : (if 0 ≤ (ji43) then (if (ji43) ≤ (x9_2.length : Int) then (some (y196.take ((ji43) : Int).toNat)) else (none)) else (none)) = some r := by first | (rw [hji43] at H; exact H) | (simp only [hji43] at H ⊢; exact H)
        have hji43w : (IntKind.i64.wrap (x10_2 + 1)) = ji43 := (i64_w _).trans hji43
        obtain ⟨c44, H⟩ := ifn H
        have c44b0 := eq_true c44
        have c44b1 : decide (0 ≤ (ji43)) = true := decide_eq_true c44
        clear c44
        obtain ⟨c45, H⟩ := ifn H
        have c45b0 := eq_true c45
        have c45b1 : decide ((ji43) ≤ (x9_2.length : Int)) = true := decide_eq_true c45
        clear c45
        obtain ⟨y197, hy197⟩ : ∃ y_ : List ByteArray, y_ = (y196.take ((ji43) : Int).toNat) := ⟨_, rfl⟩
        replace H : (some y197) = some r := by first | (rw [hy197]; with_reducible exact H) | (have H2_ := (Option.bind_some _ _).symm.trans H; rw [hy197]; with_reducible exact H2_) | (have H2_ := (Option.bind_some _ _).symm.trans H; with_reducible exact H2_) | with_reducible exact H | (rw [hy197]; exact H) | exact H
        have Ny197 := Aside0.mk hy197
        clear hy197
        obtain rfl := Option.some.inj H
        have p42 : 0 ≤ (x10_2 : Int) := TD
        have q42 : (x10_2 : Int) < ((x9_2.length : Int) : Int) := TD
        obtain ⟨go42, co42, eo42, gb42, gl42, cl42, HG42⟩ := Kd.R_form HO_9.out (by omega)
        (first | cases eo42 | (injection eo42 with ea_ en_ ec_; (first | subst ea_ | (injection ea_ with ea_; subst ea_)); subst ec_; clear en_))
        have GB42 := Aside0.mk gb42
        have GG42 := Aside0.mk HG42
        clear gb42 gl42 HG42
        obtain ⟨hx42_0, hf42_0⟩ := Kd.R_celln (⟨#[]⟩ : ByteArray) HO_9.out (x10_2 : Int) p42 q42
        replace p42 := eq_true p42
        replace q42 := eq_true q42
        have HP46 := Kd.R_putg HO_9.out (x10_2 : Int) x0_2
        go_wp2_with (first | ((with_reducible refine gate_store (t := 9) (p := 61) rfl ?_); refine store_event (t := 9) (p := 61) (v := ?vo_w47) (w1 := (wr.setCell ⟨go42, (x10_2 : Int).toNat, none⟩ (.string x0_2))) ?hg ?ho ?hn ?hr ?_; (case ho => rfl); (case hg => rfl); (case hn => rfl); (case hr => first | (go_simp; done) | (go_simp; rfl)); intro w47 hw; have hg : wr.grownBy w47 (some go42) := (by rw [hw]; exact HP46.2); have hp_ : Kd.R Kd.string 9 w47 w.heap.size (fun _ => True) (.slice (some ⟨go42, 0, none⟩) x9_2.length co42) y196 := (by rw [hw, Ny196.out]; exact HP46.1); clear HP46; replace HO_9 := Aside0.mk (hp_); replace HB := Aside0.mk ((by rw [hw]; exact below_set (HB.out) GB42.out : Below w.heap.size w w47)); clear hg hw hp_; have q48 : ((ji43) : Int) ≤ ((x9_2.length : Int) : Int) := TD; obtain ⟨i048, hi048, _, hsz48, _⟩ := info_parts info9; have hcut48 := cut_to (P := Tryd.prog) 48 9 .i64 Tryd.underlying48 hi048 (some ⟨go42, 0, none⟩) x9_2.length co42 (ji43) TD q48 (Kd.R_reads' HO_9.out).2.1; have hr48 := Kd.R_take (m := ((ji43) : Int).toNat) HO_9.out (by have hle_ := (Kd.R_reads' HO_9.out).1; omega); have hy48 : y197.length = ((ji43) : Int).toNat := (by rw [Ny197.out, List.length_take]; have hle_ := (Kd.R_reads' HO_9.out).1; omega); rw [← Ny197.out] at hr48; rw [← hy48] at hr48 hcut48; clear hy48 hi048 hsz48 HO_9; have HO199 := Aside0.mk hr48; clear hr48; replace q48 := eq_true q48))
        go_ret
        exact ⟨_, by first | rfl | (simp [errW_none, errW_some] <;> rfl) | (simp only [← hji12, ← hji43]; first | rfl | (simp [errW_none, errW_some] <;> rfl)) | (simp [*, errW_none, errW_some] <;> rfl) | (simp [errW_none, errW_some]; rw [Bool.eq_iff_iff]; simp), (RW HO199).out, TB⟩
end
section
/-! ### strings_Split: function 115 -/
def strings_Split.f (k : Nat) (a0 : ByteArray) (a1 : ByteArray) : Option (List ByteArray) := (strings_genSplit.f k a0 a1 0 (-1)).bind fun t200 => (some t200)
theorem strings_Split.mono : ∀ a0 a1 k, LeO (strings_Split.f k a0 a1) (strings_Split.f (k + 1) a0 a1) := by
 intro a0 a1 k
 unfold strings_Split.f
 repeat' first
   | (with_reducible exact strings_genSplit.mono _ _ _ _ _)
   | (with_reducible exact LeO.refl _)
   | (with_reducible exact LeO.none _)
   | (with_reducible refine LeO.ite ?_ ?_)
   | (with_reducible refine LeO.bind ?_ (fun _ => ?_))
   | exact strings_genSplit.mono _ _ _ _ _
   | exact LeO.none _
   | refine LeO.ite ?_ ?_
   | refine LeO.bind ?_ (fun _ => ?_)
theorem strings_Split.calls (k : Nat) (a0 : ByteArray) (a1 : ByteArray) (r : List ByteArray) (w : World) (h : strings_Split.f k a0 a1 = some r) :
  Calls Tryd.prog 115 #[.string a0, .string a1] w fun e w' => ∃ v0_ : Value, e = .returned (v0_) ∧ Kd.R Kd.string 9 w' w.heap.size (fun _ => True) v0_ r ∧ Below w.heap.size w w' := by
 have HB := Aside0.mk (Below.refl w.heap.size w)
 have H : ((strings_genSplit.f k a0 a1 0 (-1)).bind fun t200 => (some t200)) = some r := h
 clear h
 obtain ⟨t200, A3, H⟩ := bnd H
 obtain rfl := Option.some.inj H
 go_enter Tryd.func115, Tryd.ntmps115
 go_wp2_with (first | ((with_reducible refine gate_callee (f := 128) rfl ?_); refine goesL_ (some 7) rfl rfl Tryd.func128 KR rfl #[.string a0, .string a1, .int .i64 0, .int .i64 (-1)] rfl TA ?_; (with_reducible refine (strings_genSplit.calls k a0 a1 0 (-1) t200 _ A3.out).mono ?_); rintro e w4 ⟨v201, rfl, ho0, hb⟩; refine ⟨_, rfl, ?_⟩; have HO202 := RL ho0; replace HB := BS hb; (try clear hb); (try clear hb2); (try clear hk); (try clear hi); (try clear ho0)))
 go_ret
 exact ⟨_, TE, (RW HO202).out, TB⟩
end
section
/-! ### impl_labelsOf: function 94 -/
def impl_labelsOf.f (k : Nat) (a0 : ByteArray) : Option (List ByteArray) := if a0.toList = ([] : List UInt8) then (some ([] : List ByteArray)) else ((strings_Split.f k a0 (⟨#[46]⟩ : ByteArray)).bind fun t203 => (some t203))
theorem impl_labelsOf.mono : ∀ a0 k, LeO (impl_labelsOf.f k a0) (impl_labelsOf.f (k + 1) a0) := by
 intro a0 k
 unfold impl_labelsOf.f
 repeat' first
   | (with_reducible exact strings_Split.mono _ _ _)
   | (with_reducible exact LeO.refl _)
   | (with_reducible exact LeO.none _)
   | (with_reducible refine LeO.ite ?_ ?_)
   | (with_reducible refine LeO.bind ?_ (fun _ => ?_))
   | exact strings_Split.mono _ _ _
   | exact LeO.none _
   | refine LeO.ite ?_ ?_
   | refine LeO.bind ?_ (fun _ => ?_)
theorem impl_labelsOf.calls (k : Nat) (a0 : ByteArray) (r : List ByteArray) (w : World) (h : impl_labelsOf.f k a0 = some r) :
  Calls Tryd.prog 94 #[.string a0] w fun e w' => ∃ v0_ : Value, e = .returned (v0_) ∧ Kd.R Kd.string 9 w' w.heap.size (fun _ => True) v0_ r ∧ Below w.heap.size w w' := by
 have HB := Aside0.mk (Below.refl w.heap.size w)
 have H : (if a0.toList = ([] : List UInt8) then (some ([] : List ByteArray)) else ((strings_Split.f k a0 (⟨#[46]⟩ : ByteArray)).bind fun t203 => (some t203))) = some r := h
 clear h
 by_cases c2 : a0.toList = ([] : List UInt8)
 ·rw [if_pos c2] at H
  have c2b0 : (a0.toList == ([] : List UInt8)) = true := beq_iff_eq.mpr c2
  have c2b1 : (a0.toList != ([] : List UInt8)) = false := bne_eq_false_iff_eq.mpr c2
  clear c2
  obtain rfl := Option.some.inj H
  go_enter Tryd.func94, Tryd.ntmps94
  go_wp2
  go_ret
  exact ⟨_, by first | rfl | (simp [errW_none, errW_some] <;> rfl) | (simp [*, errW_none, errW_some] <;> rfl) | (simp [errW_none, errW_some]; rw [Bool.eq_iff_iff]; simp), TZ, TB⟩
 ·rw [if_neg c2] at H
  have c2b0 : (a0.toList == ([] : List UInt8)) = false := beq_eq_false_iff_ne.mpr c2
  have c2b1 : (a0.toList != ([] : List UInt8)) = true := bne_iff_ne.mpr c2
  obtain ⟨t203, A3, H⟩ := bnd H
  obtain rfl := Option.some.inj H
  go_enter Tryd.func94, Tryd.ntmps94
  go_wp2_with (first | ((with_reducible refine gate_callee (f := 115) rfl ?_); refine goesL_ (some 6) rfl rfl Tryd.func115 KR rfl #[.string a0, .string (⟨#[46]⟩ : ByteArray)] rfl TA ?_; (with_reducible refine (strings_Split.calls k a0 (⟨#[46]⟩ : ByteArray) t203 _ A3.out).mono ?_); rintro e w4 ⟨v204, rfl, ho0, hb⟩; refine ⟨_, rfl, ?_⟩; have HO205 := RL ho0; replace HB := BS hb; (try clear hb); (try clear hb2); (try clear hk); (try clear hi); (try clear ho0)))
  go_ret
  exact ⟨_, by first | rfl | (simp [errW_none, errW_some] <;> rfl) | (simp [*, errW_none, errW_some] <;> rfl) | (simp [errW_none, errW_some]; rw [Bool.eq_iff_iff]; simp), (RW HO205).out, TB⟩
end
section
/-! ### strings_Trim: function 117 -/
def strings_Trim.f (a0 : ByteArray) (a1 : ByteArray) : Option (ByteArray) := if a0.size ≤ 9223372036854775807 ∧ a1.size < 4294967281 ∧ a1.data.toList.all (fun b => decide (b.toNat < 128)) = true then some ⟨(Go.Lib.trimS a0.data.toList a1.data.toList).toArray⟩ else none
theorem strings_Trim.calls (a0 : ByteArray) (a1 : ByteArray) (r : ByteArray) (w : World) (h : strings_Trim.f a0 a1 = some r) :
  Calls Tryd.prog 117 #[.string a0, .string a1] w fun e w' => e = .returned (.string r) ∧ Below w.heap.size w w' := by
 unfold strings_Trim.f at h
 split at h
 ·rename_i h1
  obtain rfl := Option.some.inj h
  exact (Go.Proofs.Any.strings_Trim_laid Go.Proofs.Tryd.lays160 KR a0 a1 w h1.1 h1.2.1 (Go.Proofs.ascii_of_all h1.2.2)).mono fun e w' hh => hh
 ·cases h
end
section
/-! ### impl_isLabel: function 97 -/
def impl_isLabel.f (a0 : ByteArray) : Option (Bool) := if a0.toList = ([42] : List UInt8) then (some true) else ((impl_within.f (a0.size : Int) 1 20).bind fun t206 => (if t206 = true then ((strings_Trim.f a0 (⟨#[97, 98, 99, 100, 101, 102, 103, 104, 105, 106, 107, 108, 109, 110, 111, 112, 113, 114, 115, 116, 117, 118, 119, 120, 121, 122, 48, 49, 50, 51, 52, 53, 54, 55, 56, 57, 45, 95]⟩ : ByteArray)).bind fun t207 => (some (t207.toList == ([] : List UInt8)))) else (some false)))
theorem impl_isLabel.calls (a0 : ByteArray) (r : Bool) (w : World) (h : impl_isLabel.f a0 = some r) :
  Calls Tryd.prog 97 #[.string a0] w fun e w' => e = .returned (.bool r) ∧ Below w.heap.size w w' := by
 have HB := Aside0.mk (Below.refl w.heap.size w)
 have H : (if a0.toList = ([42] : List UInt8) then (some true) else ((impl_within.f (a0.size : Int) 1 20).bind fun t206 => (if t206 = true then ((strings_Trim.f a0 (⟨#[97, 98, 99, 100, 101, 102, 103, 104, 105, 106, 107, 108, 109, 110, 111, 112, 113, 114, 115, 116, 117, 118, 119, 120, 121, 122, 48, 49, 50, 51, 52, 53, 54, 55, 56, 57, 45, 95]⟩ : ByteArray)).bind fun t207 => (some (t207.toList == ([] : List UInt8)))) else (some false)))) = some r := h
 clear h
 by_cases c2 : a0.toList = ([42] : List UInt8)
 ·rw [if_pos c2] at H
  have c2b0 : (a0.toList == ([42] : List UInt8)) = true := beq_iff_eq.mpr c2
  have c2b1 : (a0.toList != ([42] : List UInt8)) = false := bne_eq_false_iff_eq.mpr c2
  clear c2
  obtain rfl := Option.some.inj H
  go_enter Tryd.func97, Tryd.ntmps97
  go_wp2
  go_ret
  exact ⟨by first | rfl | (simp [errW_none, errW_some] <;> rfl) | (simp [*, errW_none, errW_some] <;> rfl) | (simp [errW_none, errW_some]; rw [Bool.eq_iff_iff]; simp), TB⟩
 ·rw [if_neg c2] at H
  have c2b0 : (a0.toList == ([42] : List UInt8)) = false := beq_eq_false_iff_ne.mpr c2
  have c2b1 : (a0.toList != ([42] : List UInt8)) = true := bne_iff_ne.mpr c2
  obtain ⟨t206, A3, H⟩ := bnd H
  by_cases c4 : t206 = true
  ·subst c4
   replace H := ift H
   obtain ⟨t207, A5, H⟩ := bnd H
   obtain rfl := Option.some.inj H
   go_enter Tryd.func97, Tryd.ntmps97
   go_wp2_with (first | ((with_reducible refine gate_callee (f := 57) rfl ?_); refine goesL_ (some 7) rfl rfl Tryd.func57 KR rfl #[.int .i64 (a0.size : Int), .int .i64 1, .int .i64 20] rfl TA ?_; (with_reducible refine (impl_within.calls (a0.size : Int) 1 20 true _ A3.out).mono ?_); rintro e w' ⟨rfl, ⟨nd, rfl⟩⟩; refine ⟨_, rfl, ?_⟩) | (go_at_call 117; (with_reducible refine (strings_Trim.calls a0 (⟨#[97, 98, 99, 100, 101, 102, 103, 104, 105, 106, 107, 108, 109, 110, 111, 112, 113, 114, 115, 116, 117, 118, 119, 120, 121, 122, 48, 49, 50, 51, 52, 53, 54, 55, 56, 57, 45, 95]⟩ : ByteArray) t207 _ A5.out).mono ?_); rintro e w6 ⟨rfl, hb⟩; replace HB := BS hb; (try clear hb); (try clear hb2); (try clear hk); (try clear hi)))
   go_ret
   exact ⟨by first | rfl | (simp [errW_none, errW_some] <;> rfl) | (simp [*, errW_none, errW_some] <;> rfl) | (simp [errW_none, errW_some]; rw [Bool.eq_iff_iff]; simp), TB⟩
  ·replace c4 := Bool.eq_false_iff.mpr c4
   subst c4
   replace H := iff' H
   obtain rfl := Option.some.inj H
   go_enter Tryd.func97, Tryd.ntmps97
   go_wp2_with (first | ((with_reducible refine gate_callee (f := 57) rfl ?_); refine goesL_ (some 7) rfl rfl Tryd.func57 KR rfl #[.int .i64 (a0.size : Int), .int .i64 1, .int .i64 20] rfl TA ?_; (with_reducible refine (impl_within.calls (a0.size : Int) 1 20 false _ A3.out).mono ?_); rintro e w' ⟨rfl, ⟨nd, rfl⟩⟩; refine ⟨_, rfl, ?_⟩))
   go_ret
   exact ⟨by first | rfl | (simp [errW_none, errW_some] <;> rfl) | (simp [*, errW_none, errW_some] <;> rfl) | (simp [errW_none, errW_some]; rw [Bool.eq_iff_iff]; simp), TB⟩
end
section
/-! ### impl_GoodName_1: function 96 -/
def impl_GoodName_1.f (a0 : ByteArray) : Option (Bool) := (impl_isLabel.f a0).bind fun t208 => (some (!t208))
theorem impl_GoodName_1.calls (a0 : ByteArray) (r : Bool) (w : World) (h : impl_GoodName_1.f a0 = some r) :
  Calls Tryd.prog 96 #[.string a0] w fun e w' => e = .returned (.bool r) ∧ Below w.heap.size w w' := by
 have HB := Aside0.mk (Below.refl w.heap.size w)
 have H : ((impl_isLabel.f a0).bind fun t208 => (some (!t208))) = some r := h
 clear h
 obtain ⟨t208, A2, H⟩ := bnd H
 obtain rfl := Option.some.inj H
 go_enter Tryd.func96, Tryd.ntmps96
 go_wp2_with (first | ((with_reducible refine gate_callee (f := 97) rfl ?_); refine goesL_ (some 4) rfl rfl Tryd.func97 KR rfl #[.string a0] rfl TA ?_; (with_reducible refine (impl_isLabel.calls a0 t208 _ A2.out).mono ?_); rintro e w3 ⟨rfl, hb⟩; refine ⟨_, rfl, ?_⟩; replace HB := BS hb; (try clear hb); (try clear hb2); (try clear hk); (try clear hi)))
 go_ret
 exact ⟨TE, TB⟩
end
section
/-! ### slices_IndexFunc_string_string_GoodName_1: function 116 -/
def slices_IndexFunc_string_string_GoodName_1.l0 : Nat → List ByteArray → Int → Int → Option (Int)
 | 0, _, _, _ => none
 | k + 1, x0, x7, x8 => if x8 < x7 then (if 0 ≤ x8 then (if x8 < (x0.length : Int) then ((impl_GoodName_1.f (rdOf ByteArray.empty x0 x8)).bind fun t210 => (if t210 = true then (some x8) else (slices_IndexFunc_string_string_GoodName_1.l0 k x0 x7 (wrap64 (x8 + 1))))) else (none)) else (none)) else (some (-1))
def slices_IndexFunc_string_string_GoodName_1.f (k : Nat) (l0 : List ByteArray)  : Option (Int) := slices_IndexFunc_string_string_GoodName_1.l0 k l0 (l0.length : Int) 0
theorem slices_IndexFunc_string_string_GoodName_1.mono_l : ∀ k, (∀ y0 y1 y2, LeO (slices_IndexFunc_string_string_GoodName_1.l0 k y0 y1 y2) (slices_IndexFunc_string_string_GoodName_1.l0 (k + 1) y0 y1 y2))
 | 0 => fun _ _ _ r h => by simp [slices_IndexFunc_string_string_GoodName_1.l0] at h
 | k + 1 => by
  have ih0 := slices_IndexFunc_string_string_GoodName_1.mono_l k
  ·intro y0 y1 y2
   unfold slices_IndexFunc_string_string_GoodName_1.l0
   repeat' first
   | (with_reducible exact ih0 _ _ _)
   | (with_reducible exact LeO.refl _)
   | (with_reducible exact LeO.none _)
   | (with_reducible refine LeO.ite ?_ ?_)
   | (with_reducible refine LeO.bind ?_ (fun _ => ?_))
   | exact ih0 _ _ _
   | exact LeO.none _
   | refine LeO.ite ?_ ?_
   | refine LeO.bind ?_ (fun _ => ?_)
theorem slices_IndexFunc_string_string_GoodName_1.mono : ∀ a0 k, LeO (slices_IndexFunc_string_string_GoodName_1.f k a0) (slices_IndexFunc_string_string_GoodName_1.f (k + 1) a0) := by
 intro a0 k
 have ih0 := slices_IndexFunc_string_string_GoodName_1.mono_l k
 unfold slices_IndexFunc_string_string_GoodName_1.f
 repeat' first
   | (with_reducible exact ih0 _ _ _)
   | (with_reducible exact LeO.refl _)
   | (with_reducible exact LeO.none _)
   | (with_reducible refine LeO.ite ?_ ?_)
   | (with_reducible refine LeO.bind ?_ (fun _ => ?_))
   | exact ih0 _ _ _
   | exact LeO.none _
   | refine LeO.ite ?_ ?_
   | refine LeO.bind ?_ (fun _ => ?_)
theorem slices_IndexFunc_string_string_GoodName_1.calls (k : Nat) (A0 : Option Addr) (c0 : Nat) (l0 : List ByteArray)  (r : Int) (w : World) (hr0 : Kd.C Kd.string w A0 l0.length l0) (hc0 : l0.length ≤ c0) (h : slices_IndexFunc_string_string_GoodName_1.f k l0 = some r) :
  Calls Tryd.prog 116 #[.slice A0 l0.length c0, .func (.func 96) #[] #[]] w fun e w' => e = .returned (.int .i64 r) ∧ Below w.heap.size w w' := by
 have HR0 := Aside0.mk hr0
 have HC0 := Aside0.mk hc0
 clear hr0 hc0
 have HB := Aside0.mk (Below.refl w.heap.size w)
 have H : (slices_IndexFunc_string_string_GoodName_1.l0 k l0 (l0.length : Int) 0) = some r := h
 clear h
 have H' := Aside0.mk H
 clear H
 go_enter Tryd.func116, Tryd.ntmps116
 go_wp2
 go_loopg [8] k (fun kq v8 w' => ∃ (x8_1 : Int), v8 = .int .i64 x8_1 ∧ Aside0 (slices_IndexFunc_string_string_GoodName_1.l0 kq l0 (l0.length : Int) x8_1 = some r) ∧ Aside0 (kq ≤ k) ∧ Aside0 (Below w.heap.size w w'))
 case atStart => exact ⟨(0), TF, H', ⟨Nat.le_refl _⟩, ⟨TB⟩⟩
 case round =>
  clear H'
  try clear c1
  try clear p2
  obtain ⟨x8_1, rfl, HA, HK1, HB⟩ := hrel
  cases gk with
  | zero => exact absurd HA.out (by simp [slices_IndexFunc_string_string_GoodName_1.l0])
  | succ k1 =>
   have H := HA.out
   clear HA
   simp only [slices_IndexFunc_string_string_GoodName_1.l0] at H
   by_cases c3 : x8_1 < (l0.length : Int)
   ·rw [if_pos c3] at H
    have c3b0 : decide (x8_1 < (l0.length : Int)) = true := decide_eq_true c3
    clear c3
    obtain ⟨c4, H⟩ := ifn H
    have c4b0 : decide (0 ≤ x8_1) = true := decide_eq_true c4
    clear c4
    obtain ⟨c5, H⟩ := ifn H
    have c5b0 : decide (x8_1 < (l0.length : Int)) = true := decide_eq_true c5
    clear c5
    obtain ⟨t210, A6, H⟩ := bnd H
    by_cases c7 : t210 = true
    ·subst c7
     replace H := ift H
     obtain rfl := Option.some.inj H
     have p209 : 0 ≤ (x8_1 : Int) := TD
     have q209 : x8_1 < (l0.length : Int) := TD
     obtain ⟨ad209, e209, hx209_0⟩ := Kd.at_string (Kd.C_below HR0.out HB.out) x8_1 p209 q209
     cases e209
     replace p209 := eq_true p209
     replace q209 := eq_true q209
     go_wp2_with (first | (go_at_call 96; (with_reducible refine (impl_GoodName_1.calls (rdOf ByteArray.empty l0 x8_1) true _ A6.out).mono ?_); rintro e w8 ⟨rfl, hb⟩; replace HB := BS hb; (try clear hb); (try clear hb2); (try clear hk); (try clear hi)))
     go_ret
     exact ⟨TE, TB⟩
    ·replace c7 := Bool.eq_false_iff.mpr c7
     subst c7
     replace H := iff' H
     have H' := Aside0.mk H
     clear H
     have p209 : 0 ≤ (x8_1 : Int) := TD
     have q209 : x8_1 < (l0.length : Int) := TD
     obtain ⟨ad209, e209, hx209_0⟩ := Kd.at_string (Kd.C_below HR0.out HB.out) x8_1 p209 q209
     cases e209
     replace p209 := eq_true p209
     replace q209 := eq_true q209
     go_wp2_with (first | (go_at_call 96; (with_reducible refine (impl_GoodName_1.calls (rdOf ByteArray.empty l0 x8_1) false _ A6.out).mono ?_); rintro e w9 ⟨rfl, hb⟩; replace HB := BS hb; (try clear hb); (try clear hb2); (try clear hk); (try clear hi)))
     go_roundg k1
     case measure => have := HK1.out; omega
     case rel => exact ⟨(wrap64 (x8_1 + 1)), TF, H', ⟨TM⟩, ⟨TB⟩⟩
   ·rw [if_neg c3] at H
    have c3b0 : decide (x8_1 < (l0.length : Int)) = false := decide_eq_false c3
    clear c3
    obtain rfl := Option.some.inj H
    go_wp2
    go_ret
    exact ⟨TE, TB⟩
end
section
/-! ### slices_ContainsFunc_string_string_GoodName_1: function 95 -/
def slices_ContainsFunc_string_string_GoodName_1.f (k : Nat) (l0 : List ByteArray)  : Option (Bool) := (slices_IndexFunc_string_string_GoodName_1.f k l0).bind fun t211 => (some (decide (t211 ≥ 0)))
theorem slices_ContainsFunc_string_string_GoodName_1.mono : ∀ a0 k, LeO (slices_ContainsFunc_string_string_GoodName_1.f k a0) (slices_ContainsFunc_string_string_GoodName_1.f (k + 1) a0) := by
 intro a0 k
 unfold slices_ContainsFunc_string_string_GoodName_1.f
 repeat' first
   | (with_reducible exact slices_IndexFunc_string_string_GoodName_1.mono _ _)
   | (with_reducible exact LeO.refl _)
   | (with_reducible exact LeO.none _)
   | (with_reducible refine LeO.ite ?_ ?_)
   | (with_reducible refine LeO.bind ?_ (fun _ => ?_))
   | exact slices_IndexFunc_string_string_GoodName_1.mono _ _
   | exact LeO.none _
   | refine LeO.ite ?_ ?_
   | refine LeO.bind ?_ (fun _ => ?_)
theorem slices_ContainsFunc_string_string_GoodName_1.calls (k : Nat) (A0 : Option Addr) (c0 : Nat) (l0 : List ByteArray)  (r : Bool) (w : World) (hr0 : Kd.C Kd.string w A0 l0.length l0) (hc0 : l0.length ≤ c0) (h : slices_ContainsFunc_string_string_GoodName_1.f k l0 = some r) :
  Calls Tryd.prog 95 #[.slice A0 l0.length c0, .func (.func 96) #[] #[]] w fun e w' => e = .returned (.bool r) ∧ Below w.heap.size w w' := by
 have HR0 := Aside0.mk hr0
 have HC0 := Aside0.mk hc0
 clear hr0 hc0
 have HB := Aside0.mk (Below.refl w.heap.size w)
 have H : ((slices_IndexFunc_string_string_GoodName_1.f k l0).bind fun t211 => (some (decide (t211 ≥ 0)))) = some r := h
 clear h
 obtain ⟨t211, A3, H⟩ := bnd H
 obtain rfl := Option.some.inj H
 go_enter Tryd.func95, Tryd.ntmps95
 go_wp2_with (first | ((with_reducible refine gate_callee (f := 116) rfl ?_); refine goesL_ (some 7) rfl rfl Tryd.func116 KR rfl #[.slice A0 l0.length c0, .func (.func 96) #[] #[]] rfl TA ?_; (with_reducible refine (slices_IndexFunc_string_string_GoodName_1.calls k _ _ l0  t211 _ ?side1 ?side2 A3.out).mono ?_); (case side1 => exact CW (HR0.out)); (case side2 => exact HC0.out); rintro e w4 ⟨rfl, hb⟩; refine ⟨_, rfl, ?_⟩; replace HB := BS hb; (try clear hb); (try clear hb2); (try clear hk); (try clear hi)))
 go_ret
 exact ⟨TE, TB⟩
end
section
/-! ### impl_GoodName: function 58 -/
def impl_GoodName.f (k : Nat) (a0 : ByteArray) : Option (Bool) := if (a0.size : Int) > 60 then (some false) else ((impl_labelsOf.f k a0).bind fun t212 => (if (t212.length : Int) ≤ 8 then ((slices_ContainsFunc_string_string_GoodName_1.f k t212).bind fun t215 => (some (!t215))) else (some false)))
theorem impl_GoodName.mono : ∀ a0 k, LeO (impl_GoodName.f k a0) (impl_GoodName.f (k + 1) a0) := by
 intro a0 k
 unfold impl_GoodName.f
 repeat' first
   | (with_reducible exact impl_labelsOf.mono _ _)
   | (with_reducible exact slices_ContainsFunc_string_string_GoodName_1.mono _ _)
   | (with_reducible exact LeO.refl _)
   | (with_reducible exact LeO.none _)
   | (with_reducible refine LeO.ite ?_ ?_)
   | (with_reducible refine LeO.bind ?_ (fun _ => ?_))
   | exact impl_labelsOf.mono _ _
   | exact slices_ContainsFunc_string_string_GoodName_1.mono _ _
   | exact LeO.none _
   | refine LeO.ite ?_ ?_
   | refine LeO.bind ?_ (fun _ => ?_)
theorem impl_GoodName.calls (k : Nat) (a0 : ByteArray) (r : Bool) (w : World) (h : impl_GoodName.f k a0 = some r) :
  Calls Tryd.prog 58 #[.string a0] w fun e w' => e = .returned (.bool r) ∧ Below w.heap.size w w' := by
 have HB := Aside0.mk (Below.refl w.heap.size w)
 have H : (if (a0.size : Int) > 60 then (some false) else ((impl_labelsOf.f k a0).bind fun t212 => (if (t212.length : Int) ≤ 8 then ((slices_ContainsFunc_string_string_GoodName_1.f k t212).bind fun t215 => (some (!t215))) else (some false)))) = some r := h
 clear h
 by_cases c2 : (a0.size : Int) > 60
 ·rw [if_pos c2] at H
  have c2b0 : decide (60 < (a0.size : Int)) = true := decide_eq_true c2
  have c2b1 : decide (60 < a0.size) = true := decide_eq_true (by omega)
  clear c2
  obtain rfl := Option.some.inj H
  go_enter Tryd.func58, Tryd.ntmps58
  go_wp2
  go_ret
  exact ⟨TE, TB⟩
 ·rw [if_neg c2] at H
  have c2b0 : decide (60 < (a0.size : Int)) = false := decide_eq_false c2
  have c2b1 : decide (60 < a0.size) = false := decide_eq_false (by omega)
  clear c2
  obtain ⟨t212, A3, H⟩ := bnd H
  by_cases c4 : (t212.length : Int) ≤ 8
  ·rw [if_pos c4] at H
   have c4b0 : decide ((t212.length : Int) ≤ 8) = true := decide_eq_true c4
   have c4b1 : decide (t212.length ≤ 8) = true := decide_eq_true (by omega)
   clear c4
   obtain ⟨t215, A5, H⟩ := bnd H
   obtain rfl := Option.some.inj H
   go_enter Tryd.func58, Tryd.ntmps58
   go_wp2_with (first | ((with_reducible refine gate_callee (f := 94) rfl ?_); refine goesL_ (some 8) rfl rfl Tryd.func94 KR rfl #[.string a0] rfl TA ?_; (with_reducible refine (impl_labelsOf.calls k a0 t212 _ A3.out).mono ?_); rintro e w6 ⟨v213, rfl, ho0, hb⟩; refine ⟨_, rfl, ?_⟩; have HO214 := RL ho0; replace HB := BS hb; (try clear hb); (try clear hb2); (try clear hk); (try clear hi); (try clear ho0); obtain ⟨Ao7, co7, eo7⟩ := Kd.R_slice HO214.out; subst eo7) | (go_at_call 95; (with_reducible refine (slices_ContainsFunc_string_string_GoodName_1.calls k _ _ t212  t215 _ ?side1 ?side2 A5.out).mono ?_); (case side1 => exact CW ((Kd.R_reads' HO214.out).2.2)); (case side2 => exact (Kd.R_reads' HO214.out).2.1); rintro e w8 ⟨rfl, hb⟩; replace HO214 := RB HO214 hb; replace HB := BS hb; (try clear hb); (try clear hb2); (try clear hk); (try clear hi)))
   go_ret
   exact ⟨TE, TB⟩
  ·rw [if_neg c4] at H
   have c4b0 : decide ((t212.length : Int) ≤ 8) = false := decide_eq_false c4
   have c4b1 : decide (t212.length ≤ 8) = false := decide_eq_false (by omega)
   clear c4
   obtain rfl := Option.some.inj H
   go_enter Tryd.func58, Tryd.ntmps58
   go_wp2_with (first | ((with_reducible refine gate_callee (f := 94) rfl ?_); refine goesL_ (some 8) rfl rfl Tryd.func94 KR rfl #[.string a0] rfl TA ?_; (with_reducible refine (impl_labelsOf.calls k a0 t212 _ A3.out).mono ?_); rintro e w9 ⟨v213, rfl, ho0, hb⟩; refine ⟨_, rfl, ?_⟩; have HO214 := RL ho0; replace HB := BS hb; (try clear hb); (try clear hb2); (try clear hk); (try clear hi); (try clear ho0); obtain ⟨Ao10, co10, eo10⟩ := Kd.R_slice HO214.out; subst eo10))
   go_ret
   exact ⟨TE, TB⟩
end
section
/-! ### stringslite_HasSuffix: function 120 -/
def stringslite_HasSuffix.f (a0 : ByteArray) (a1 : ByteArray) : Option (Bool) := if (a0.size : Int) ≥ (a1.size : Int) then (if 0 ≤ (wrap64 ((a0.size : Int) - (a1.size : Int))) then (if (wrap64 ((a0.size : Int) - (a1.size : Int))) ≤ (a0.size : Int) then (some ((a0.extract ((wrap64 ((a0.size : Int) - (a1.size : Int))) : Int).toNat a0.size).toList == a1.toList)) else (none)) else (none)) else (some false)
theorem stringslite_HasSuffix.calls (a0 : ByteArray) (a1 : ByteArray) (r : Bool) (w : World) (h : stringslite_HasSuffix.f a0 a1 = some r) :
  Calls Tryd.prog 120 #[.string a0, .string a1] w fun e w' => e = .returned (.bool r) ∧ Drawn0 w w' := by
 have H : (if (a0.size : Int) ≥ (a1.size : Int) then (if 0 ≤ (wrap64 ((a0.size : Int) - (a1.size : Int))) then (if (wrap64 ((a0.size : Int) - (a1.size : Int))) ≤ (a0.size : Int) then (some ((a0.extract ((wrap64 ((a0.size : Int) - (a1.size : Int))) : Int).toNat a0.size).toList == a1.toList)) else (none)) else (none)) else (some false)) = some r := h
 clear h
 by_cases c3 : (a0.size : Int) ≥ (a1.size : Int)
 ·rw [if_pos c3] at H
  have c3b0 : decide ((a1.size : Int) ≤ (a0.size : Int)) = true := decide_eq_true c3
  have c3b1 : decide (a1.size ≤ a0.size) = true := decide_eq_true (Int.ofNat_le.mp c3)
  clear c3
  obtain ⟨ji4, hji4⟩ : ∃ j_ : Int, (wrap64 ((a0.size : Int) - (a1.size : Int))) = j_ := ⟨_, rfl⟩
  replace H : (if 0 ≤ (ji4) then (if (ji4) ≤ (a0.size : Int) then (some ((a0.extract ((ji4) : Int).toNat a0.size).toList == a1.toList)) else (none)) else (none)) = some r := by first | (rw [hji4] at H; exact H) | (simp only [hji4] at H ⊢; exact H)
  have hji4w : (IntKind.i64.wrap ((a0.size : Int) - (a1.size : Int))) = ji4 := (i64_w _).trans hji4
  obtain ⟨c5, H⟩ := ifn H
  have c5b0 := eq_true c5
  have c5b1 : decide (0 ≤ (ji4)) = true := decide_eq_true c5
  clear c5
  obtain ⟨c6, H⟩ := ifn H
  have c6b0 := eq_true c6
  have c6b1 : decide ((ji4) ≤ (a0.size : Int)) = true := decide_eq_true c6
  clear c6
  obtain rfl := Option.some.inj H
  go_enter Tryd.func120, Tryd.ntmps120
  go_wp2
  go_ret
  exact ⟨by first | rfl | (simp; done) | (simp only [← hji4] <;> (first | rfl | simp)) | (simp [*]; done), TN⟩
 ·rw [if_neg c3] at H
  have c3b0 : decide ((a1.size : Int) ≤ (a0.size : Int)) = false := decide_eq_false c3
  have c3b1 : decide (a1.size ≤ a0.size) = false := decide_eq_false (fun h => c3 (Int.ofNat_le.mpr h))
  clear c3
  obtain rfl := Option.some.inj H
  go_enter Tryd.func120, Tryd.ntmps120
  go_wp2
  go_ret
  exact ⟨TF, TN⟩
end
section
/-! ### strings_HasSuffix: function 104 -/
def strings_HasSuffix.f (a0 : ByteArray) (a1 : ByteArray) : Option (Bool) := (stringslite_HasSuffix.f a0 a1).bind fun t221 => (some t221)
theorem strings_HasSuffix.calls (a0 : ByteArray) (a1 : ByteArray) (r : Bool) (w : World) (h : strings_HasSuffix.f a0 a1 = some r) :
  Calls Tryd.prog 104 #[.string a0, .string a1] w fun e w' => e = .returned (.bool r) ∧ Drawn0 w w' := by
 have H : ((stringslite_HasSuffix.f a0 a1).bind fun t221 => (some t221)) = some r := h
 clear h
 obtain ⟨t221, A3, H⟩ := bnd H
 obtain rfl := Option.some.inj H
 go_enter Tryd.func104, Tryd.ntmps104
 go_wp2_with (first | ((with_reducible refine gate_callee (f := 120) rfl ?_); refine goesL_ (some 7) rfl rfl Tryd.func120 KR rfl #[.string a0, .string a1] rfl TA ?_; (with_reducible refine (stringslite_HasSuffix.calls a0 a1 t221 _ A3.out).mono ?_); rintro e w' ⟨rfl, ⟨nd, rfl⟩⟩; refine ⟨_, rfl, ?_⟩))
 go_ret
 exact ⟨TF, TN⟩
end
section
/-! ### impl_isBelow: function 77 -/
def impl_isBelow.f (a0 : ByteArray) (a1 : ByteArray) : Option (Bool) := if a0.toList = a1.toList then (some true) else (if a1.toList = ([] : List UInt8) then (some true) else (if 1 + a1.size ≤ 9223372036854775807 then ((strings_HasSuffix.f a0 ((⟨#[46]⟩ : ByteArray) ++ a1)).bind fun t222 => (some t222)) else (none)))
theorem impl_isBelow.calls (a0 : ByteArray) (a1 : ByteArray) (r : Bool) (w : World) (h : impl_isBelow.f a0 a1 = some r) :
  Calls Tryd.prog 77 #[.string a0, .string a1] w fun e w' => e = .returned (.bool r) ∧ Drawn0 w w' := by
 have H : (if a0.toList = a1.toList then (some true) else (if a1.toList = ([] : List UInt8) then (some true) else (if 1 + a1.size ≤ 9223372036854775807 then ((strings_HasSuffix.f a0 ((⟨#[46]⟩ : ByteArray) ++ a1)).bind fun t222 => (some t222)) else (none)))) = some r := h
 clear h
 by_cases c3 : a0.toList = a1.toList
 ·rw [if_pos c3] at H
  have c3b0 : (a0.toList == a1.toList) = true := beq_iff_eq.mpr c3
  have c3b1 : (a0.toList != a1.toList) = false := bne_eq_false_iff_eq.mpr c3
  clear c3
  obtain rfl := Option.some.inj H
  go_enter Tryd.func77, Tryd.ntmps77
  go_wp2
  go_ret
  exact ⟨TF, TN⟩
 ·rw [if_neg c3] at H
  have c3b0 : (a0.toList == a1.toList) = false := beq_eq_false_iff_ne.mpr c3
  have c3b1 : (a0.toList != a1.toList) = true := bne_iff_ne.mpr c3
  by_cases c4 : a1.toList = ([] : List UInt8)
  ·rw [if_pos c4] at H
   have c4b0 : (a1.toList == ([] : List UInt8)) = true := beq_iff_eq.mpr c4
   have c4b1 : (a1.toList != ([] : List UInt8)) = false := bne_eq_false_iff_eq.mpr c4
   clear c4
   obtain rfl := Option.some.inj H
   go_enter Tryd.func77, Tryd.ntmps77
   go_wp2
   go_ret
   exact ⟨TF, TN⟩
  ·rw [if_neg c4] at H
   have c4b0 : (a1.toList == ([] : List UInt8)) = false := beq_eq_false_iff_ne.mpr c4
   have c4b1 : (a1.toList != ([] : List UInt8)) = true := bne_iff_ne.mpr c4
   obtain ⟨c5, H⟩ := ifn H
   have c5b0 := eq_true c5
   have c5b1 : decide (1 + a1.size ≤ 9223372036854775807) = true := decide_eq_true c5
   try have c5b2 : (9223372036854775807 < 1 + a1.size) = False := eq_false (Nat.not_lt.2 c5)
   obtain ⟨t222, A6, H⟩ := bnd H
   obtain rfl := Option.some.inj H
   go_enter Tryd.func77, Tryd.ntmps77
   go_wp2_with (first | (go_at_call 104; (with_reducible refine (strings_HasSuffix.calls a0 ((⟨#[46]⟩ : ByteArray) ++ a1) t222 _ A6.out).mono ?_); rintro e w' ⟨rfl, ⟨nd, rfl⟩⟩))
   go_ret
   exact ⟨TF, TN⟩
end
section
/-! ### slices_Reverse_string_string: function 106 -/
def slices_Reverse_string_string.l0 : Nat → List ByteArray → Int → Int → Option (List ByteArray)
 | 0, _, _, _ => none
 | k + 1, x0, x2, x3 => if x2 < x3 then (if 0 ≤ x3 then (if x3 < (x0.length : Int) then (if 0 ≤ x2 then (if x2 < (x0.length : Int) then (slices_Reverse_string_string.l0 k ((x0.set (x2 : Int).toNat (rdOf ByteArray.empty x0 x3)).set (x3 : Int).toNat (rdOf ByteArray.empty x0 x2)) (wrap64 (x2 + 1)) (wrap64 (x3 - 1))) else (none)) else (none)) else (none)) else (none)) else (some x0)
def slices_Reverse_string_string.f (k : Nat) (l0 : List ByteArray) : Option (List ByteArray) := slices_Reverse_string_string.l0 k l0 0 (wrap64 ((l0.length : Int) - 1))
theorem slices_Reverse_string_string.mono_l : ∀ k, (∀ y0 y1 y2, LeO (slices_Reverse_string_string.l0 k y0 y1 y2) (slices_Reverse_string_string.l0 (k + 1) y0 y1 y2))
 | 0 => fun _ _ _ r h => by simp [slices_Reverse_string_string.l0] at h
 | k + 1 => by
  have ih0 := slices_Reverse_string_string.mono_l k
  ·intro y0 y1 y2
   unfold slices_Reverse_string_string.l0
   repeat' first
   | (with_reducible exact ih0 _ _ _)
   | (with_reducible exact LeO.refl _)
   | (with_reducible exact LeO.none _)
   | (with_reducible refine LeO.ite ?_ ?_)
   | (with_reducible refine LeO.bind ?_ (fun _ => ?_))
   | exact ih0 _ _ _
   | exact LeO.none _
   | refine LeO.ite ?_ ?_
   | refine LeO.bind ?_ (fun _ => ?_)
theorem slices_Reverse_string_string.mono : ∀ a0 k, LeO (slices_Reverse_string_string.f k a0) (slices_Reverse_string_string.f (k + 1) a0) := by
 intro a0 k
 have ih0 := slices_Reverse_string_string.mono_l k
 unfold slices_Reverse_string_string.f
 repeat' first
   | (with_reducible exact ih0 _ _ _)
   | (with_reducible exact LeO.refl _)
   | (with_reducible exact LeO.none _)
   | (with_reducible refine LeO.ite ?_ ?_)
   | (with_reducible refine LeO.bind ?_ (fun _ => ?_))
   | exact ih0 _ _ _
   | exact LeO.none _
   | refine LeO.ite ?_ ?_
   | refine LeO.bind ?_ (fun _ => ?_)
def slices_Reverse_string_string.T3 : Bool × List (List Nat × List Nat) := (true, [([], []), ([], []), ([], []), ([], []), ([], []), ([], []), ([4, 5], [4, 5]), ([6], [6]), ([], []), ([], []), ([8, 9], [8, 9]), ([10], [10]), ([0, 1, 0, 1, 4, 5, 6, 7, 11], [0, 1]), ([12, 7, 0, 1, 4, 5, 6, 7, 11], [7, 12]), ([2, 3, 0, 1, 2, 3, 4, 5, 6, 7, 8, 9, 10, 11, 12, 13], [2, 3]), ([14, 11, 13, 0, 1, 2, 3, 4, 5, 6, 7, 8, 9, 10, 11, 12, 13], [11, 14])])
def slices_Reverse_string_string.B3 : List Nat := [0, 0, 0, 0, 0, 0, 48, 112, 0, 0, 768, 1792, 4083, 8179, 16383, 32767]
theorem slices_Reverse_string_string.tab3 : rtab .any (opsOf Tryd.f106 3) = slices_Reverse_string_string.T3 := by kernel_rfl
theorem slices_Reverse_string_string.bits3 : waitsOk slices_Reverse_string_string.T3.2 slices_Reverse_string_string.B3 = true := by kernel_rfl
theorem slices_Reverse_string_string.calls (k : Nat) (P0_ : Nat → Prop) (u9000_ : Value) (l0 : List ByteArray) (r : List ByteArray) (w0 w : World) (hB : Below w0.heap.size w0 w) (ho0 : Kd.R Kd.string 9 w w0.heap.size P0_ u9000_ l0) (h : slices_Reverse_string_string.f k l0 = some r) :
  Calls Tryd.prog 106 #[u9000_] w fun e w' => e = .returned (.tuple #[]) ∧ Kd.R Kd.string 9 w' w0.heap.size (fun k_ => (P0_ k_ ∨ w.heap.size ≤ k_)) u9000_ r ∧ Below w0.heap.size w0 w' ∧ Kept w w' (fun k_ => P0_ k_) := by
 have HO0 := Aside0.mk (show Kd.R Kd.string 9 w w0.heap.size (fun k_ => (P0_ k_ ∨ w.heap.size ≤ k_)) u9000_ l0 from Kd.R_mono ho0 (fun k_ hk => (.inl hk)))
 have HK := Aside0.mk (Kept.refl w (fun k_ => P0_ k_))
 have HW0 := Aside0.mk hB.size
 have HB := Aside0.mk hB
 clear hB
 have H : (slices_Reverse_string_string.l0 k l0 0 (wrap64 ((l0.length : Int) - 1))) = some r := h
 clear h
 have H' := Aside0.mk H
 clear H
 obtain ⟨Ao2, co2, eo2⟩ := Kd.R_slice HO0.out
 subst eo2
 go_enter Tryd.func106, Tryd.ntmps106
 go_wp2
 go_loopg [2, 3] k (fun kq v2 v3 w' => ∃ (x0_1 : List ByteArray) (x2_1 : Int) (x3_1 : Int), v2 = .int .i64 x2_1 ∧ v3 = .int .i64 x3_1 ∧ Aside0 (slices_Reverse_string_string.l0 kq x0_1 x2_1 x3_1 = some r) ∧ Aside0 (kq ≤ k) ∧ Aside0 (Kd.R Kd.string 9 w' w0.heap.size (fun k_ => (P0_ k_ ∨ w.heap.size ≤ k_)) (.slice Ao2 l0.length co2) x0_1) ∧ Aside0 (Kept w w' (fun k_ => P0_ k_)) ∧ Aside0 (Below w0.heap.size w0 w'))
 case atStart => exact ⟨(l0), (0), (wrap64 ((l0.length : Int) - 1)), TF, TF, H', ⟨Nat.le_refl _⟩, RW HO0, ⟨TK⟩, ⟨TB⟩⟩
 case round =>
  clear H'
  try clear c1
  try clear p2
  obtain ⟨x0_1, x2_1, x3_1, rfl, rfl, HA, HK1, HO_0, HK, HB⟩ := hrel
  have hl0_1 := (Kd.R_reads' HO_0.out).1
  rw [hl0_1] at HO_0
  (try simp only [hl0_1])
  cases gk with
  | zero => exact absurd HA.out (by simp [slices_Reverse_string_string.l0])
  | succ k1 =>
   have H := HA.out
   clear HA
   simp only [slices_Reverse_string_string.l0] at H
   by_cases c3 : x2_1 < x3_1
   ·rw [if_pos c3] at H
    have c3b0 : decide (x2_1 < x3_1) = true := decide_eq_true c3
    clear c3
    obtain ⟨c4, H⟩ := ifn H
    have c4b0 : decide (0 ≤ x3_1) = true := decide_eq_true c4
    clear c4
    obtain ⟨c5, H⟩ := ifn H
    have c5b0 : decide (x3_1 < (x0_1.length : Int)) = true := decide_eq_true c5
    clear c5
    obtain ⟨c6, H⟩ := ifn H
    have c6b0 : decide (0 ≤ x2_1) = true := decide_eq_true c6
    clear c6
    obtain ⟨c7, H⟩ := ifn H
    have c7b0 : decide (x2_1 < (x0_1.length : Int)) = true := decide_eq_true c7
    clear c7
    obtain ⟨y233, hy233⟩ : ∃ y_ : List ByteArray, y_ = (x0_1.set (x2_1 : Int).toNat (rdOf ByteArray.empty x0_1 x3_1)) := ⟨_, rfl⟩
    replace H : (slices_Reverse_string_string.l0 k1 (y233.set (x3_1 : Int).toNat (rdOf ByteArray.empty x0_1 x2_1)) (wrap64 (x2_1 + 1)) (wrap64 (x3_1 - 1))) = some r := by first | (rw [hy233]; with_reducible exact H) | (have H2_ := (Option.bind_some _ _).symm.trans H; rw [hy233]; with_reducible exact H2_) | (have H2_ := (Option.bind_some _ _).symm.trans H; with_reducible exact H2_) | with_reducible exact H | (rw [hy233]; exact H) | exact H
    have Ny233 := Aside0.mk hy233
    clear hy233
    obtain ⟨y234, hy234⟩ : ∃ y_ : List ByteArray, y_ = (y233.set (x3_1 : Int).toNat (rdOf ByteArray.empty x0_1 x2_1)) := ⟨_, rfl⟩
    replace H : (slices_Reverse_string_string.l0 k1 y234 (wrap64 (x2_1 + 1)) (wrap64 (x3_1 - 1))) = some r := by first | (rw [hy234]; with_reducible exact H) | (have H2_ := (Option.bind_some _ _).symm.trans H; rw [hy234]; with_reducible exact H2_) | (have H2_ := (Option.bind_some _ _).symm.trans H; with_reducible exact H2_) | with_reducible exact H | (rw [hy234]; exact H) | exact H
    have Ny234 := Aside0.mk hy234
    clear hy234
    have H' := Aside0.mk H
    clear H
    try go_wp2
    replace HO_0 := Aside0.mk (Kd.R_drew HO_0.out)
    replace HK := Aside0.mk (Kept.drew HK.out)
    replace HB := Aside0.mk (below_drew1 HB.out)
    have p231 : 0 ≤ (x3_1 : Int) := TD
    have q231 : x3_1 < (x0_1.length : Int) := TD
    obtain ⟨ad231, e231, hx231_0⟩ := Kd.at_string (Kd.R_reads' HO_0.out).2.2 x3_1 p231 q231
    cases e231
    replace p231 := eq_true p231
    replace q231 := eq_true q231
    have p232 : 0 ≤ (x2_1 : Int) := TD
    have q232 : x2_1 < (x0_1.length : Int) := TD
    obtain ⟨ad232, e232, hx232_0⟩ := Kd.at_string (Kd.R_reads' HO_0.out).2.2 x2_1 p232 q232
    obtain rfl : ad231 = ad232 := (by injection e232)
    replace p232 := eq_true p232
    replace q232 := eq_true q232
    have p8 : 0 ≤ (x2_1 : Int) := TD
    have q8 : (x2_1 : Int) < ((x0_1.length : Int) : Int) := TD
    obtain ⟨go8, co8, eo8, gb8, gl8, cl8, HG8⟩ := Kd.R_form HO_0.out (by omega)
    (first | cases eo8 | (injection eo8 with ea_ en_ ec_; (first | subst ea_ | (injection ea_ with ea_; subst ea_)); subst ec_; clear en_))
    have GB8 := Aside0.mk gb8
    have GG8 := Aside0.mk HG8
    clear gb8 gl8 HG8
    have HMgo8 := Aside0.mk (show (P0_ go8 ∨ w.heap.size ≤ go8) from (HO_0.out.1 _ rfl))
    (first | simp only [add_plain] at hx231_0 | skip)
    (first | simp only [add_plain] at hx232_0 | skip)
    obtain ⟨hx8_0, hf8_0⟩ := Kd.R_celln (⟨#[]⟩ : ByteArray) HO_0.out (x2_1 : Int) p8 q8
    replace p8 := eq_true p8
    replace q8 := eq_true q8
    have HP11 := Kd.R_putn HO_0.out (x2_1 : Int) (rdOf ByteArray.empty x0_1 x3_1)
    rw [← Ny233.out] at HP11
    have HQ11 := Aside0.mk HP11
    clear HP11
    have p9 : 0 ≤ (x3_1 : Int) := TD
    have q9 : (x3_1 : Int) < ((x0_1.length : Int) : Int) := TD
    obtain ⟨hx9_0, hf9_0⟩ := Kd.R_celln (⟨#[]⟩ : ByteArray) HQ11.out (x3_1 : Int) p9 q9
    replace p9 := eq_true p9
    replace q9 := eq_true q9
    have HP12 := Kd.R_putn HQ11.out (x3_1 : Int) (rdOf ByteArray.empty x0_1 x2_1)
    rw [← Ny234.out] at HP12
    have HQ12 := Aside0.mk HP12
    clear HP12
    refine start_ (n := 16) (S := fun w' => w'.cell? ⟨go8, (x3_1).toNat, none⟩ = some (.string (rdOf ByteArray.empty x0_1 x3_1)) ∧ w'.cell? ⟨go8, (x2_1).toNat, none⟩ = some (.string (rdOf ByteArray.empty x0_1 x2_1))) (ds := [13, 15]) #[false, false, false, false, false, false, false, false, false, false, false, false, false, false, false, false] KR rfl rfl ⟨hx231_0, hx232_0⟩ (fun hHeld => ?_); refine with_tabW slices_Reverse_string_string.tab3 slices_Reverse_string_string.bits3 (fun HT_ HW_ => ?_)
    generalize wr.drew = w10 at HO_0 HK HB GG8 HQ11 HQ12 hf8_0 hf9_0 hx231_0 hx232_0 hx8_0 hx9_0 hHeld ⊢
    refine pA 0 14 (mL 16 1) HT_ rfl rfl ?_
    refine pA 1 15 (mL 16 3) HT_ rfl rfl ?_
    refine pA 2 16 (mL 16 7) HT_ rfl rfl ?_
    refine pA 3 17 (mL 16 15) HT_ rfl rfl ?_
    refine pA 4 18 (mL 16 31) HT_ rfl rfl ?_
    refine pA 5 19 (mL 16 63) HT_ rfl rfl ?_
    refine pA 6 20 (mL 16 127) HT_ rfl rfl ?_
    refine pA 8 22 (mL 16 383) HT_ rfl rfl ?_
    refine pA 9 23 (mL 16 895) HT_ rfl rfl ?_
    refine pA 10 24 (mL 16 1919) HT_ rfl rfl ?_
    refine tA 7 21 (mL 16 2047) HT_ HW_ hHeld rfl rfl (by rintro w' ⟨s0, s1⟩; go_simp; with_reducible rfl) ?_
    refine tA 11 25 (mL 16 4095) HT_ HW_ hHeld rfl rfl (by rintro w' ⟨s0, s1⟩; go_simp; with_reducible rfl) ?_
    refine pA 12 26 (mL 16 8191) HT_ rfl rfl ?_
    refine last_ (i := 13) (N := none) (mL 16 16383) rfl rfl (one_of HT_.out KR) (by decide) (fun K hK => ?_)
    refine skip_ (w1 := ?_) (by rfl) rfl ?_ ?_
    rotate_left
    ·go_simp
     rfl
    refine hK.out _ _ ?_
    clear hK K
    refine pA 14 27 (mL 16 32767) HT_ rfl rfl ?_
    refine last_ (i := 15) (N := none) (mL 16 65535) rfl rfl (one_of HT_.out KR) (by decide) (fun K hK => ?_)
    refine skip_ (w1 := ?_) (by rfl) rfl ?_ ?_
    rotate_left
    ·go_simp
     rfl
    refine hK.out _ _ ?_
    clear hK K
    refine done_ (done_of HT_.out KR) ?_
    try go_wp2
    (try simp only [← hl0_1])
    go_roundg k1
    case measure => have := HK1.out; omega
    case rel => exact ⟨(y234), (wrap64 (x2_1 + 1)), (wrap64 (x3_1 - 1)), TF, TF, H', ⟨TM⟩, ⟨by (try simp only [hl0_1]); (with_reducible repeat (first | apply Kd.R_alloc | apply Kd.R_drewN | apply Kd.R_drew)); exact HQ12.out⟩, ⟨by repeat (first | (with_reducible first | exact HK.out | apply Kept.alloc | apply Kept.drewN | apply Kept.drew | refine Kept.setCell ?_ HMgo8.out _ | refine Kept.setCell ?_ HMgo8.out _) | exact HK.out)⟩, ⟨TB⟩⟩
   ·rw [if_neg c3] at H
    have c3b0 : decide (x2_1 < x3_1) = false := decide_eq_false c3
    clear c3
    obtain rfl := Option.some.inj H
    go_wp2
    first | go_end0 | ((try simp only [Exit.inBlock, Exit.then]); refine bodyPost_ret (results_none rfl _ _ _) rfl ?_)
    exact ⟨TE, (by first | exact (RW HO_0).out | (simp only [hl0_1]; exact (RW HO_0).out)), TB, TK⟩
end
section
/-! ### cmp_isNaN_string: function 137 -/
def cmp_isNaN_string.f (a0 : ByteArray) : Option (Bool) := some (a0.toList != a0.toList)
theorem cmp_isNaN_string.calls (a0 : ByteArray) (r : Bool) (w : World) (h : cmp_isNaN_string.f a0 = some r) :
  Calls Tryd.prog 137 #[.string a0] w fun e w' => e = .returned (.bool r) ∧ Drawn0 w w' := by
 have H : (some (a0.toList != a0.toList)) = some r := h
 clear h
 obtain rfl := Option.some.inj H
 go_enter Tryd.func137, Tryd.ntmps137
 go_wp2
 go_ret
 exact ⟨TF, TN⟩
end
section
/-! ### cmp_Compare_string: function 122 -/
def cmp_Compare_string.f (a0 : ByteArray) (a1 : ByteArray) : Option (Int) := (cmp_isNaN_string.f a0).bind fun t235 => ((cmp_isNaN_string.f a1).bind fun t236 => (if t235 = true then (if t236 = true then (some 0) else (some (-1))) else (if t236 = true then (some 1) else (if (Op.bytesLess a0.toList a1.toList) = true then (some (-1)) else (if a0.toList = a1.toList then (some 0) else (some 1))))))
theorem cmp_Compare_string.calls (a0 : ByteArray) (a1 : ByteArray) (r : Int) (w : World) (h : cmp_Compare_string.f a0 a1 = some r) :
  Calls Tryd.prog 122 #[.string a0, .string a1] w fun e w' => e = .returned (.int .i64 r) ∧ Drawn0 w w' := by
 have H : ((cmp_isNaN_string.f a0).bind fun t235 => ((cmp_isNaN_string.f a1).bind fun t236 => (if t235 = true then (if t236 = true then (some 0) else (some (-1))) else (if t236 = true then (some 1) else (if (Op.bytesLess a0.toList a1.toList) = true then (some (-1)) else (if a0.toList = a1.toList then (some 0) else (some 1))))))) = some r := h
 clear h
 obtain ⟨t235, A3, H⟩ := bnd H
 obtain ⟨t236, A4, H⟩ := bnd H
 by_cases c5 : t235 = true
 ·subst c5
  replace H := ift H
  by_cases c6 : t236 = true
  ·subst c6
   replace H := ift H
   obtain rfl := Option.some.inj H
   go_enter Tryd.func122, Tryd.ntmps122
   go_wp2_with (first | ((with_reducible refine gate_callee (f := 137) rfl ?_); refine goesL_ (some 8) rfl rfl Tryd.func137 KR rfl #[.string a0] rfl TA ?_; (with_reducible refine (cmp_isNaN_string.calls a0 true _ A3.out).mono ?_); rintro e w' ⟨rfl, ⟨nd, rfl⟩⟩; refine ⟨_, rfl, ?_⟩) | ((with_reducible refine gate_callee (f := 137) rfl ?_); refine goesL_ (some 10) rfl rfl Tryd.func137 KR rfl #[.string a1] rfl TA ?_; (with_reducible refine (cmp_isNaN_string.calls a1 true _ A4.out).mono ?_); rintro e w' ⟨rfl, ⟨nd, rfl⟩⟩; refine ⟨_, rfl, ?_⟩))
   go_ret
   exact ⟨TF, TN⟩
  ·replace c6 := Bool.eq_false_iff.mpr c6
   subst c6
   replace H := iff' H
   obtain rfl := Option.some.inj H
   go_enter Tryd.func122, Tryd.ntmps122
   go_wp2_with (first | ((with_reducible refine gate_callee (f := 137) rfl ?_); refine goesL_ (some 8) rfl rfl Tryd.func137 KR rfl #[.string a0] rfl TA ?_; (with_reducible refine (cmp_isNaN_string.calls a0 true _ A3.out).mono ?_); rintro e w' ⟨rfl, ⟨nd, rfl⟩⟩; refine ⟨_, rfl, ?_⟩) | ((with_reducible refine gate_callee (f := 137) rfl ?_); refine goesL_ (some 10) rfl rfl Tryd.func137 KR rfl #[.string a1] rfl TA ?_; (with_reducible refine (cmp_isNaN_string.calls a1 false _ A4.out).mono ?_); rintro e w' ⟨rfl, ⟨nd, rfl⟩⟩; refine ⟨_, rfl, ?_⟩))
   go_ret
   exact ⟨TF, TN⟩
 ·replace c5 := Bool.eq_false_iff.mpr c5
  subst c5
  replace H := iff' H
  by_cases c7 : t236 = true
  ·subst c7
   replace H := ift H
   obtain rfl := Option.some.inj H
   go_enter Tryd.func122, Tryd.ntmps122
   go_wp2_with (first | ((with_reducible refine gate_callee (f := 137) rfl ?_); refine goesL_ (some 8) rfl rfl Tryd.func137 KR rfl #[.string a0] rfl TA ?_; (with_reducible refine (cmp_isNaN_string.calls a0 false _ A3.out).mono ?_); rintro e w' ⟨rfl, ⟨nd, rfl⟩⟩; refine ⟨_, rfl, ?_⟩) | ((with_reducible refine gate_callee (f := 137) rfl ?_); refine goesL_ (some 10) rfl rfl Tryd.func137 KR rfl #[.string a1] rfl TA ?_; (with_reducible refine (cmp_isNaN_string.calls a1 true _ A4.out).mono ?_); rintro e w' ⟨rfl, ⟨nd, rfl⟩⟩; refine ⟨_, rfl, ?_⟩))
   go_ret
   exact ⟨TF, TN⟩
  ·replace c7 := Bool.eq_false_iff.mpr c7
   subst c7
   replace H := iff' H
   by_cases c8 : (Op.bytesLess a0.toList a1.toList) = true
   ·rw [if_pos c8] at H
    have c8b0 : (Op.bytesLess a0.toList a1.toList) = true := c8
    clear c8
    obtain rfl := Option.some.inj H
    go_enter Tryd.func122, Tryd.ntmps122
    go_wp2_with (first | ((with_reducible refine gate_callee (f := 137) rfl ?_); refine goesL_ (some 8) rfl rfl Tryd.func137 KR rfl #[.string a0] rfl TA ?_; (with_reducible refine (cmp_isNaN_string.calls a0 false _ A3.out).mono ?_); rintro e w' ⟨rfl, ⟨nd, rfl⟩⟩; refine ⟨_, rfl, ?_⟩) | ((with_reducible refine gate_callee (f := 137) rfl ?_); refine goesL_ (some 10) rfl rfl Tryd.func137 KR rfl #[.string a1] rfl TA ?_; (with_reducible refine (cmp_isNaN_string.calls a1 false _ A4.out).mono ?_); rintro e w' ⟨rfl, ⟨nd, rfl⟩⟩; refine ⟨_, rfl, ?_⟩))
    go_ret
    exact ⟨TF, TN⟩
   ·rw [if_neg c8] at H
    have c8b0 : (Op.bytesLess a0.toList a1.toList) = false := by simpa using c8
    clear c8
    by_cases c9 : a0.toList = a1.toList
    ·rw [if_pos c9] at H
     have c9b0 : (a0.toList == a1.toList) = true := beq_iff_eq.mpr c9
     have c9b1 : (a0.toList != a1.toList) = false := bne_eq_false_iff_eq.mpr c9
     clear c9
     obtain rfl := Option.some.inj H
     go_enter Tryd.func122, Tryd.ntmps122
     go_wp2_with (first | ((with_reducible refine gate_callee (f := 137) rfl ?_); refine goesL_ (some 8) rfl rfl Tryd.func137 KR rfl #[.string a0] rfl TA ?_; (with_reducible refine (cmp_isNaN_string.calls a0 false _ A3.out).mono ?_); rintro e w' ⟨rfl, ⟨nd, rfl⟩⟩; refine ⟨_, rfl, ?_⟩) | ((with_reducible refine gate_callee (f := 137) rfl ?_); refine goesL_ (some 10) rfl rfl Tryd.func137 KR rfl #[.string a1] rfl TA ?_; (with_reducible refine (cmp_isNaN_string.calls a1 false _ A4.out).mono ?_); rintro e w' ⟨rfl, ⟨nd, rfl⟩⟩; refine ⟨_, rfl, ?_⟩))
     go_ret
     exact ⟨TF, TN⟩
    ·rw [if_neg c9] at H
     have c9b0 : (a0.toList == a1.toList) = false := beq_eq_false_iff_ne.mpr c9
     have c9b1 : (a0.toList != a1.toList) = true := bne_iff_ne.mpr c9
     obtain rfl := Option.some.inj H
     go_enter Tryd.func122, Tryd.ntmps122
     go_wp2_with (first | ((with_reducible refine gate_callee (f := 137) rfl ?_); refine goesL_ (some 8) rfl rfl Tryd.func137 KR rfl #[.string a0] rfl TA ?_; (with_reducible refine (cmp_isNaN_string.calls a0 false _ A3.out).mono ?_); rintro e w' ⟨rfl, ⟨nd, rfl⟩⟩; refine ⟨_, rfl, ?_⟩) | ((with_reducible refine gate_callee (f := 137) rfl ?_); refine goesL_ (some 10) rfl rfl Tryd.func137 KR rfl #[.string a1] rfl TA ?_; (with_reducible refine (cmp_isNaN_string.calls a1 false _ A4.out).mono ?_); rintro e w' ⟨rfl, ⟨nd, rfl⟩⟩; refine ⟨_, rfl, ?_⟩))
     go_ret
     exact ⟨TF, TN⟩
end
section
/-! ### slices_Compare_string_string: function 107 -/
def slices_Compare_string_string.l0 : Nat → List ByteArray → List ByteArray → List ByteArray → Int → Int → Option (Int)
 | 0, _, _, _, _, _ => none
 | k + 1, x0, x1, x9, x10, x11 => if x11 < x10 then (if 0 ≤ x11 then (if x11 < (x9.length : Int) then (if x11 ≥ (x1.length : Int) then (some 1) else (if x11 < (x1.length : Int) then ((cmp_Compare_string.f (rdOf ByteArray.empty x9 x11) (rdOf ByteArray.empty x1 x11)).bind fun t239 => (if t239 = 0 then (slices_Compare_string_string.l0 k x0 x1 x9 x10 (wrap64 (x11 + 1))) else (some t239))) else (none))) else (none)) else (none)) else (if (x0.length : Int) < (x1.length : Int) then (some (-1)) else (some 0))
def slices_Compare_string_string.f (k : Nat) (l0 : List ByteArray) (l1 : List ByteArray) : Option (Int) := slices_Compare_string_string.l0 k l0 l1 l0 (l0.length : Int) 0
theorem slices_Compare_string_string.mono_l : ∀ k, (∀ y0 y1 y2 y3 y4, LeO (slices_Compare_string_string.l0 k y0 y1 y2 y3 y4) (slices_Compare_string_string.l0 (k + 1) y0 y1 y2 y3 y4))
 | 0 => fun _ _ _ _ _ r h => by simp [slices_Compare_string_string.l0] at h
 | k + 1 => by
  have ih0 := slices_Compare_string_string.mono_l k
  ·intro y0 y1 y2 y3 y4
   unfold slices_Compare_string_string.l0
   repeat' first
   | (with_reducible exact ih0 _ _ _ _ _)
   | (with_reducible exact LeO.refl _)
   | (with_reducible exact LeO.none _)
   | (with_reducible refine LeO.ite ?_ ?_)
   | (with_reducible refine LeO.bind ?_ (fun _ => ?_))
   | exact ih0 _ _ _ _ _
   | exact LeO.none _
   | refine LeO.ite ?_ ?_
   | refine LeO.bind ?_ (fun _ => ?_)
theorem slices_Compare_string_string.mono : ∀ a0 a1 k, LeO (slices_Compare_string_string.f k a0 a1) (slices_Compare_string_string.f (k + 1) a0 a1) := by
 intro a0 a1 k
 have ih0 := slices_Compare_string_string.mono_l k
 unfold slices_Compare_string_string.f
 repeat' first
   | (with_reducible exact ih0 _ _ _ _ _)
   | (with_reducible exact LeO.refl _)
   | (with_reducible exact LeO.none _)
   | (with_reducible refine LeO.ite ?_ ?_)
   | (with_reducible refine LeO.bind ?_ (fun _ => ?_))
   | exact ih0 _ _ _ _ _
   | exact LeO.none _
   | refine LeO.ite ?_ ?_
   | refine LeO.bind ?_ (fun _ => ?_)
theorem slices_Compare_string_string.calls (k : Nat) (A0 : Option Addr) (c0 : Nat) (l0 : List ByteArray) (A1 : Option Addr) (c1 : Nat) (l1 : List ByteArray) (r : Int) (w : World) (hr0 : Kd.C Kd.string w A0 l0.length l0) (hc0 : l0.length ≤ c0) (hr1 : Kd.C Kd.string w A1 l1.length l1) (hc1 : l1.length ≤ c1) (h : slices_Compare_string_string.f k l0 l1 = some r) :
  Calls Tryd.prog 107 #[.slice A0 l0.length c0, .slice A1 l1.length c1] w fun e w' => e = .returned (.int .i64 r) ∧ Drawn0 w w' := by
 have HR0 := Aside0.mk hr0
 have HC0 := Aside0.mk hc0
 clear hr0 hc0
 have HR1 := Aside0.mk hr1
 have HC1 := Aside0.mk hc1
 clear hr1 hc1
 have H : (slices_Compare_string_string.l0 k l0 l1 l0 (l0.length : Int) 0) = some r := h
 clear h
 have H' := Aside0.mk H
 clear H
 go_enter Tryd.func107, Tryd.ntmps107
 go_wp2
 go_loopg [11] k (fun kq v11 w' => ∃ (x11_1 : Int), v11 = .int .i64 x11_1 ∧ Aside0 (slices_Compare_string_string.l0 kq l0 l1 l0 (l0.length : Int) x11_1 = some r) ∧ Aside0 (kq ≤ k) ∧ Drawn0 w w')
 case atStart => exact ⟨(0), TF, H', ⟨Nat.le_refl _⟩, TN⟩
 case round =>
  clear H'
  try clear c1
  try clear p2
  obtain ⟨x11_1, rfl, HA, HK1, ⟨m1, rfl⟩⟩ := hrel
  cases gk with
  | zero => exact absurd HA.out (by simp [slices_Compare_string_string.l0])
  | succ k1 =>
   have H := HA.out
   clear HA
   simp only [slices_Compare_string_string.l0] at H
   by_cases c3 : x11_1 < (l0.length : Int)
   ·rw [if_pos c3] at H
    have c3b0 : decide (x11_1 < (l0.length : Int)) = true := decide_eq_true c3
    clear c3
    obtain ⟨c4, H⟩ := ifn H
    have c4b0 : decide (0 ≤ x11_1) = true := decide_eq_true c4
    clear c4
    obtain ⟨c5, H⟩ := ifn H
    have c5b0 : decide (x11_1 < (l0.length : Int)) = true := decide_eq_true c5
    clear c5
    by_cases c6 : x11_1 ≥ (l1.length : Int)
    ·rw [if_pos c6] at H
     have c6b0 : decide ((l1.length : Int) ≤ x11_1) = true := decide_eq_true c6
     clear c6
     obtain rfl := Option.some.inj H
     have p237 : 0 ≤ (x11_1 : Int) := TD
     have q237 : x11_1 < (l0.length : Int) := TD
     obtain ⟨ad237, e237, hx237_0⟩ := Kd.at_string HR0.out x11_1 p237 q237
     cases e237
     replace p237 := eq_true p237
     replace q237 := eq_true q237
     go_wp2
     go_ret
     exact ⟨TF, TN⟩
    ·rw [if_neg c6] at H
     have c6b0 : decide ((l1.length : Int) ≤ x11_1) = false := decide_eq_false c6
     clear c6
     obtain ⟨c7, H⟩ := ifn H
     have c7b0 : decide (x11_1 < (l1.length : Int)) = true := decide_eq_true c7
     clear c7
     obtain ⟨t239, A8, H⟩ := bnd H
     by_cases c9 : t239 = 0
     ·rw [if_pos c9] at H
      have c9b0 : (t239 == 0) = true := beq_iff_eq.mpr c9
      have c9b1 : (t239 != 0) = false := bne_eq_false_iff_eq.mpr c9
      clear c9
      have H' := Aside0.mk H
      clear H
      have p237 : 0 ≤ (x11_1 : Int) := TD
      have q237 : x11_1 < (l0.length : Int) := TD
      obtain ⟨ad237, e237, hx237_0⟩ := Kd.at_string HR0.out x11_1 p237 q237
      cases e237
      replace p237 := eq_true p237
      replace q237 := eq_true q237
      have p238 : 0 ≤ (x11_1 : Int) := TD
      have q238 : x11_1 < (l1.length : Int) := TD
      obtain ⟨ad238, e238, hx238_0⟩ := Kd.at_string HR1.out x11_1 p238 q238
      cases e238
      replace p238 := eq_true p238
      replace q238 := eq_true q238
      go_wp2_with (first | ((with_reducible refine gate_callee (f := 122) rfl ?_); refine goesL_ (some 26) rfl rfl Tryd.func122 KR rfl #[.string (rdOf ByteArray.empty l0 x11_1), .string (rdOf ByteArray.empty l1 x11_1)] rfl TA ?_; (with_reducible refine (cmp_Compare_string.calls (rdOf ByteArray.empty l0 x11_1) (rdOf ByteArray.empty l1 x11_1) t239 _ A8.out).mono ?_); rintro e w' ⟨rfl, ⟨nd, rfl⟩⟩; refine ⟨_, rfl, ?_⟩))
      go_roundg k1
      case measure => have := HK1.out; omega
      case rel => exact ⟨(wrap64 (x11_1 + 1)), TF, H', ⟨TM⟩, TN⟩
     ·rw [if_neg c9] at H
      have c9b0 : (t239 == 0) = false := beq_eq_false_iff_ne.mpr c9
      have c9b1 : (t239 != 0) = true := bne_iff_ne.mpr c9
      obtain rfl := Option.some.inj H
      have p237 : 0 ≤ (x11_1 : Int) := TD
      have q237 : x11_1 < (l0.length : Int) := TD
      obtain ⟨ad237, e237, hx237_0⟩ := Kd.at_string HR0.out x11_1 p237 q237
      cases e237
      replace p237 := eq_true p237
      replace q237 := eq_true q237
      have p238 : 0 ≤ (x11_1 : Int) := TD
      have q238 : x11_1 < (l1.length : Int) := TD
      obtain ⟨ad238, e238, hx238_0⟩ := Kd.at_string HR1.out x11_1 p238 q238
      cases e238
      replace p238 := eq_true p238
      replace q238 := eq_true q238
      go_wp2_with (first | ((with_reducible refine gate_callee (f := 122) rfl ?_); refine goesL_ (some 26) rfl rfl Tryd.func122 KR rfl #[.string (rdOf ByteArray.empty l0 x11_1), .string (rdOf ByteArray.empty l1 x11_1)] rfl TA ?_; (with_reducible refine (cmp_Compare_string.calls (rdOf ByteArray.empty l0 x11_1) (rdOf ByteArray.empty l1 x11_1) t239 _ A8.out).mono ?_); rintro e w' ⟨rfl, ⟨nd, rfl⟩⟩; refine ⟨_, rfl, ?_⟩))
      go_ret
      exact ⟨TF, TN⟩
   ·rw [if_neg c3] at H
    have c3b0 : decide (x11_1 < (l0.length : Int)) = false := decide_eq_false c3
    clear c3
    by_cases c10 : (l0.length : Int) < (l1.length : Int)
    ·rw [if_pos c10] at H
     have c10b0 : decide ((l0.length : Int) < (l1.length : Int)) = true := decide_eq_true c10
     have c10b1 : decide (l0.length < l1.length) = true := decide_eq_true (Int.ofNat_lt.mp c10)
     clear c10
     obtain rfl := Option.some.inj H
     go_wp2
     go_ret
     exact ⟨TF, TN⟩
    ·rw [if_neg c10] at H
     have c10b0 : decide ((l0.length : Int) < (l1.length : Int)) = false := decide_eq_false c10
     have c10b1 : decide (l0.length < l1.length) = false := decide_eq_false (fun h => c10 (Int.ofNat_lt.mpr h))
     clear c10
     obtain rfl := Option.some.inj H
     go_wp2
     go_ret
     exact ⟨TF, TN⟩
end
section
/-! ### impl_compareNames: function 79 -/
def impl_compareNames.f (k : Nat) (a0 : ByteArray) (a1 : ByteArray) : Option (Int) := (impl_labelsOf.f k a0).bind fun t240 => ((impl_labelsOf.f k a1).bind fun t243 => ((slices_Reverse_string_string.f k t240).bind fun t246 => ((slices_Reverse_string_string.f k t243).bind fun t247 => ((slices_Compare_string_string.f k t246 t247).bind fun t248 => (some t248)))))
theorem impl_compareNames.mono : ∀ a0 a1 k, LeO (impl_compareNames.f k a0 a1) (impl_compareNames.f (k + 1) a0 a1) := by
 intro a0 a1 k
 unfold impl_compareNames.f
 repeat' first
   | (with_reducible exact impl_labelsOf.mono _ _)
   | (with_reducible exact slices_Compare_string_string.mono _ _ _)
   | (with_reducible exact slices_Reverse_string_string.mono _ _)
   | (with_reducible exact LeO.refl _)
   | (with_reducible exact LeO.none _)
   | (with_reducible refine LeO.ite ?_ ?_)
   | (with_reducible refine LeO.bind ?_ (fun _ => ?_))
   | exact impl_labelsOf.mono _ _
   | exact slices_Compare_string_string.mono _ _ _
   | exact slices_Reverse_string_string.mono _ _
   | exact LeO.none _
   | refine LeO.ite ?_ ?_
   | refine LeO.bind ?_ (fun _ => ?_)
theorem impl_compareNames.calls (k : Nat) (a0 : ByteArray) (a1 : ByteArray) (r : Int) (w : World) (h : impl_compareNames.f k a0 a1 = some r) :
  Calls Tryd.prog 79 #[.string a0, .string a1] w fun e w' => e = .returned (.int .i64 r) ∧ Below w.heap.size w w' := by
 have HB := Aside0.mk (Below.refl w.heap.size w)
 have H : ((impl_labelsOf.f k a0).bind fun t240 => ((impl_labelsOf.f k a1).bind fun t243 => ((slices_Reverse_string_string.f k t240).bind fun t246 => ((slices_Reverse_string_string.f k t243).bind fun t247 => ((slices_Compare_string_string.f k t246 t247).bind fun t248 => (some t248)))))) = some r := h
 clear h
 obtain ⟨t240, A3, H⟩ := bnd H
 obtain ⟨t243, A4, H⟩ := bnd H
 obtain ⟨t246, A5, H⟩ := bnd H
 obtain ⟨t247, A6, H⟩ := bnd H
 obtain ⟨t248, A7, H⟩ := bnd H
 obtain rfl := Option.some.inj H
 go_enter Tryd.func79, Tryd.ntmps79
 go_wp2_with (first | ((with_reducible refine gate_callee (f := 94) rfl ?_); refine goesL_ (some 8) rfl rfl Tryd.func94 KR rfl #[.string a0] rfl TA ?_; (with_reducible refine (impl_labelsOf.calls k a0 t240 _ A3.out).mono ?_); rintro e w8 ⟨v241, rfl, ho0, hb⟩; refine ⟨_, rfl, ?_⟩; have HO242 := RL ho0; replace HB := BS hb; (try clear hb); (try clear hb2); (try clear hk); (try clear hi); (try clear ho0)) | ((with_reducible refine gate_callee (f := 94) rfl ?_); refine goesL_ (some 10) rfl rfl Tryd.func94 KR rfl #[.string a1] rfl TA ?_; (with_reducible refine (impl_labelsOf.calls k a1 t243 _ A4.out).mono ?_); rintro e w9 ⟨v244, rfl, ho0, hb⟩; refine ⟨_, rfl, ?_⟩; have HO245 := Aside0.mk (Kd.R_lower (Kd.R_new' ho0 (Kd.R_lt (RW HO242).out)) (below_size TB)); replace HO242 := Aside0.mk (Kd.R_elder' (RW HO242).out (Kd.R_base ho0) hb); replace HB := BS hb; (try clear hb); (try clear hb2); (try clear hk); (try clear hi); (try clear ho0); obtain ⟨Ao10, co10, eo10⟩ := Kd.R_slice HO242.out; subst eo10) | ((with_reducible refine gate_callee (f := 106) rfl ?_); refine goesL_ (some 12) rfl rfl Tryd.func106 KR rfl #[.slice Ao10 t240.length co10] rfl TA ?_; (with_reducible refine (slices_Reverse_string_string.calls k (fun k_ => some k_ = (.slice Ao10 t240.length co10 : Value).ownBlock) (.slice Ao10 t240.length co10) t240 t246 w _ ?side1 ?side2 A5.out).mono ?_); (case side1 => repeat (first | (with_reducible first | exact HB.out | apply below_alloc | apply pw_below_drewN | apply below_drew1) | exact HB.out)); (case side2 => exact Kd.R_tight rfl HO242.out); rintro e w11 ⟨rfl, hy0, hb, hkp⟩; refine ⟨_, rfl, ?_⟩; replace HO242 := Aside0.mk (Kd.R_reok rfl hy0 (fun k_ e_ => HO242.out.1 k_ e_)); replace HO245 := Aside0.mk (Kd.R_mono (ok' := fun k_ => some k_ ≠ (.slice Ao10 t240.length co10 : Value).ownBlock) (Kd.R_keptB (HO245.out) hkp (fun k_ hk_ hs_ => (hk_.2) hs_)) (fun k_ hk_ => hk_.1.2)); replace HB := Aside0.mk (hb); (try clear hb); (try clear hkp); (try clear hy0); obtain ⟨Ao12, co12, eo12⟩ := Kd.R_slice HO245.out; subst eo12) | ((with_reducible refine gate_callee (f := 106) rfl ?_); refine goesL_ (some 14) rfl rfl Tryd.func106 KR rfl #[.slice Ao12 t243.length co12] rfl TA ?_; (with_reducible refine (slices_Reverse_string_string.calls k (fun k_ => some k_ = (.slice Ao12 t243.length co12 : Value).ownBlock) (.slice Ao12 t243.length co12) t243 t247 w _ ?side1 ?side2 A6.out).mono ?_); (case side1 => repeat (first | (with_reducible first | exact HB.out | apply below_alloc | apply pw_below_drewN | apply below_drew1) | exact HB.out)); (case side2 => exact Kd.R_tight rfl HO245.out); rintro e w13 ⟨rfl, hy0, hb, hkp⟩; refine ⟨_, rfl, ?_⟩; replace HO242 := Aside0.mk (Kd.R_mono (ok' := fun k_ => some k_ ≠ (.slice Ao12 t243.length co12 : Value).ownBlock) (Kd.R_keptB (HO242.out) hkp (fun k_ hk_ hs_ => (hk_.2) hs_)) (fun k_ hk_ => hk_.1.2)); replace HO245 := Aside0.mk (Kd.R_reok rfl hy0 (fun k_ e_ => HO245.out.1 k_ e_)); replace HB := Aside0.mk (hb); (try clear hb); (try clear hkp); (try clear hy0)) | ((with_reducible refine gate_callee (f := 107) rfl ?_); refine goesL_ (some 17) rfl rfl Tryd.func107 KR rfl #[.slice Ao10 t246.length co10, .slice Ao12 t247.length co12] rfl (by (try simp only [List.map_toArray, List.map_cons, List.map_nil]); first | done | (rw [show t246.length = t240.length from (Kd.R_reads' HO242.out).1.symm, show t247.length = t243.length from (Kd.R_reads' HO245.out).1.symm] <;> rfl) | rfl | (simp only [List.length_drop, List.length_take]; rfl)) ?_; (with_reducible refine (slices_Compare_string_string.calls k _ _ t246 _ _ t247 t248 _ ?side1 ?side2 ?side3 ?side4 A7.out).mono ?_); (case side1 => exact CW ((Kd.R_reads' HO242.out).2.2)); (case side2 => rw [show t246.length = t240.length from (Kd.R_reads' HO242.out).1.symm]; exact (Kd.R_reads' HO242.out).2.1); (case side3 => exact CW ((Kd.R_reads' HO245.out).2.2)); (case side4 => rw [show t247.length = t243.length from (Kd.R_reads' HO245.out).1.symm]; exact (Kd.R_reads' HO245.out).2.1); rintro e w' ⟨rfl, ⟨nd, rfl⟩⟩; refine ⟨_, rfl, ?_⟩))
 go_ret
 exact ⟨TE, TB⟩
end
section
/-! ### slices_Index_int_int: function 136 -/
def slices_Index_int_int.l0 : Nat → List Int → Int → Int → Int → Option (Int)
 | 0, _, _, _, _ => none
 | k + 1, x0, x1, x7, x8 => if x8 < x7 then (if 0 ≤ x8 then (if x8 < (x0.length : Int) then (if x1 = (rd x0 x8) then (some x8) else (slices_Index_int_int.l0 k x0 x1 x7 (wrap64 (x8 + 1)))) else (none)) else (none)) else (some (-1))
def slices_Index_int_int.f (k : Nat) (l0 : List Int) (a1 : Int) : Option (Int) := slices_Index_int_int.l0 k l0 a1 (l0.length : Int) 0
theorem slices_Index_int_int.mono_l : ∀ k, (∀ y0 y1 y2 y3, LeO (slices_Index_int_int.l0 k y0 y1 y2 y3) (slices_Index_int_int.l0 (k + 1) y0 y1 y2 y3))
 | 0 => fun _ _ _ _ r h => by simp [slices_Index_int_int.l0] at h
 | k + 1 => by
  have ih0 := slices_Index_int_int.mono_l k
  ·intro y0 y1 y2 y3
   unfold slices_Index_int_int.l0
   repeat' first
   | (with_reducible exact ih0 _ _ _ _)
   | (with_reducible exact LeO.refl _)
   | (with_reducible exact LeO.none _)
   | (with_reducible refine LeO.ite ?_ ?_)
   | (with_reducible refine LeO.bind ?_ (fun _ => ?_))
   | exact ih0 _ _ _ _
   | exact LeO.none _
   | refine LeO.ite ?_ ?_
   | refine LeO.bind ?_ (fun _ => ?_)
theorem slices_Index_int_int.mono : ∀ a0 a1 k, LeO (slices_Index_int_int.f k a0 a1) (slices_Index_int_int.f (k + 1) a0 a1) := by
 intro a0 a1 k
 have ih0 := slices_Index_int_int.mono_l k
 unfold slices_Index_int_int.f
 repeat' first
   | (with_reducible exact ih0 _ _ _ _)
   | (with_reducible exact LeO.refl _)
   | (with_reducible exact LeO.none _)
   | (with_reducible refine LeO.ite ?_ ?_)
   | (with_reducible refine LeO.bind ?_ (fun _ => ?_))
   | exact ih0 _ _ _ _
   | exact LeO.none _
   | refine LeO.ite ?_ ?_
   | refine LeO.bind ?_ (fun _ => ?_)
theorem slices_Index_int_int.calls (k : Nat) (A0 : Option Addr) (c0 : Nat) (l0 : List Int) (a1 : Int) (r : Int) (w : World) (hr0 : Kd.C (Kd.int .i64) w A0 l0.length l0) (hc0 : l0.length ≤ c0) (h : slices_Index_int_int.f k l0 a1 = some r) :
  Calls Tryd.prog 136 #[.slice A0 l0.length c0, .int .i64 a1] w fun e w' => e = .returned (.int .i64 r) ∧ Drawn0 w w' := by
 have HR0 := Aside0.mk hr0
 have HC0 := Aside0.mk hc0
 clear hr0 hc0
 have H : (slices_Index_int_int.l0 k l0 a1 (l0.length : Int) 0) = some r := h
 clear h
 have H' := Aside0.mk H
 clear H
 go_enter Tryd.func136, Tryd.ntmps136
 go_wp2
 go_loopg [8] k (fun kq v8 w' => ∃ (x8_1 : Int), v8 = .int .i64 x8_1 ∧ Aside0 (slices_Index_int_int.l0 kq l0 a1 (l0.length : Int) x8_1 = some r) ∧ Aside0 (kq ≤ k) ∧ Drawn0 w w')
 case atStart => exact ⟨(0), TF, H', ⟨Nat.le_refl _⟩, TN⟩
 case round =>
  clear H'
  try clear c1
  try clear p2
  obtain ⟨x8_1, rfl, HA, HK1, ⟨m1, rfl⟩⟩ := hrel
  cases gk with
  | zero => exact absurd HA.out (by simp [slices_Index_int_int.l0])
  | succ k1 =>
   have H := HA.out
   clear HA
   simp only [slices_Index_int_int.l0] at H
   by_cases c3 : x8_1 < (l0.length : Int)
   ·rw [if_pos c3] at H
    have c3b0 : decide (x8_1 < (l0.length : Int)) = true := decide_eq_true c3
    clear c3
    obtain ⟨c4, H⟩ := ifn H
    have c4b0 : decide (0 ≤ x8_1) = true := decide_eq_true c4
    clear c4
    obtain ⟨c5, H⟩ := ifn H
    have c5b0 : decide (x8_1 < (l0.length : Int)) = true := decide_eq_true c5
    clear c5
    by_cases c6 : a1 = (rd l0 x8_1)
    ·rw [if_pos c6] at H
     have c6b0 : (a1 == (rd l0 x8_1)) = true := beq_iff_eq.mpr c6
     have c6b1 : (a1 != (rd l0 x8_1)) = false := bne_eq_false_iff_eq.mpr c6
     clear c6
     obtain rfl := Option.some.inj H
     have p436 : 0 ≤ (x8_1 : Int) := TD
     have q436 : x8_1 < (l0.length : Int) := TD
     obtain ⟨ad436, e436, hx436_0⟩ := Kd.at_int HR0.out x8_1 p436 q436
     cases e436
     replace p436 := eq_true p436
     replace q436 := eq_true q436
     go_wp2
     go_ret
     exact ⟨TF, TN⟩
    ·rw [if_neg c6] at H
     have c6b0 : (a1 == (rd l0 x8_1)) = false := beq_eq_false_iff_ne.mpr c6
     have c6b1 : (a1 != (rd l0 x8_1)) = true := bne_iff_ne.mpr c6
     have H' := Aside0.mk H
     clear H
     have p436 : 0 ≤ (x8_1 : Int) := TD
     have q436 : x8_1 < (l0.length : Int) := TD
     obtain ⟨ad436, e436, hx436_0⟩ := Kd.at_int HR0.out x8_1 p436 q436
     cases e436
     replace p436 := eq_true p436
     replace q436 := eq_true q436
     go_wp2
     go_roundg k1
     case measure => have := HK1.out; omega
     case rel => exact ⟨(wrap64 (x8_1 + 1)), TF, H', ⟨TM⟩, TN⟩
   ·rw [if_neg c3] at H
    have c3b0 : decide (x8_1 < (l0.length : Int)) = false := decide_eq_false c3
    clear c3
    obtain rfl := Option.some.inj H
    go_wp2
    go_ret
    exact ⟨TF, TN⟩
end
section
/-! ### slices_Contains_int_int: function 121 -/
def slices_Contains_int_int.f (k : Nat) (l0 : List Int) (a1 : Int) : Option (Bool) := (slices_Index_int_int.f k l0 a1).bind fun t437 => (some (decide (t437 ≥ 0)))
theorem slices_Contains_int_int.mono : ∀ a0 a1 k, LeO (slices_Contains_int_int.f k a0 a1) (slices_Contains_int_int.f (k + 1) a0 a1) := by
 intro a0 a1 k
 unfold slices_Contains_int_int.f
 repeat' first
   | (with_reducible exact slices_Index_int_int.mono _ _ _)
   | (with_reducible exact LeO.refl _)
   | (with_reducible exact LeO.none _)
   | (with_reducible refine LeO.ite ?_ ?_)
   | (with_reducible refine LeO.bind ?_ (fun _ => ?_))
   | exact slices_Index_int_int.mono _ _ _
   | exact LeO.none _
   | refine LeO.ite ?_ ?_
   | refine LeO.bind ?_ (fun _ => ?_)
theorem slices_Contains_int_int.calls (k : Nat) (A0 : Option Addr) (c0 : Nat) (l0 : List Int) (a1 : Int) (r : Bool) (w : World) (hr0 : Kd.C (Kd.int .i64) w A0 l0.length l0) (hc0 : l0.length ≤ c0) (h : slices_Contains_int_int.f k l0 a1 = some r) :
  Calls Tryd.prog 121 #[.slice A0 l0.length c0, .int .i64 a1] w fun e w' => e = .returned (.bool r) ∧ Drawn0 w w' := by
 have HR0 := Aside0.mk hr0
 have HC0 := Aside0.mk hc0
 clear hr0 hc0
 have H : ((slices_Index_int_int.f k l0 a1).bind fun t437 => (some (decide (t437 ≥ 0)))) = some r := h
 clear h
 obtain ⟨t437, A3, H⟩ := bnd H
 obtain rfl := Option.some.inj H
 go_enter Tryd.func121, Tryd.ntmps121
 go_wp2_with (first | ((with_reducible refine gate_callee (f := 136) rfl ?_); refine goesL_ (some 7) rfl rfl Tryd.func136 KR rfl #[.slice A0 l0.length c0, .int .i64 a1] rfl TA ?_; (with_reducible refine (slices_Index_int_int.calls k _ _ l0 a1 t437 _ ?side1 ?side2 A3.out).mono ?_); (case side1 => exact CW (HR0.out)); (case side2 => exact HC0.out); rintro e w' ⟨rfl, ⟨nd, rfl⟩⟩; refine ⟨_, rfl, ?_⟩))
 go_ret
 exact ⟨TF, TN⟩
end
section
/-! ### impl_isType: function 105 -/
def impl_isType.f (k : Nat) (a0 : Int) : Option (Bool) := (slices_Contains_int_int.f k (([1, 2, 5, 6, 15, 16] : List Int)) a0).bind fun t441 => (some t441)
theorem impl_isType.mono : ∀ a0 k, LeO (impl_isType.f k a0) (impl_isType.f (k + 1) a0) := by
 intro a0 k
 unfold impl_isType.f
 repeat' first
   | (with_reducible exact slices_Contains_int_int.mono _ _ _)
   | (with_reducible exact LeO.refl _)
   | (with_reducible exact LeO.none _)
   | (with_reducible refine LeO.ite ?_ ?_)
   | (with_reducible refine LeO.bind ?_ (fun _ => ?_))
   | exact slices_Contains_int_int.mono _ _ _
   | exact LeO.none _
   | refine LeO.ite ?_ ?_
   | refine LeO.bind ?_ (fun _ => ?_)
theorem impl_isType.calls (k : Nat) (a0 : Int) (r : Bool) (w : World) (h : impl_isType.f k a0 = some r) :
  Calls Tryd.prog 105 #[.int .i64 a0] w fun e w' => e = .returned (.bool r) ∧ Below w.heap.size w w' := by
 have HB := Aside0.mk (Below.refl w.heap.size w)
 have H : ((slices_Contains_int_int.f k (([1, 2, 5, 6, 15, 16] : List Int)) a0).bind fun t441 => (some t441)) = some r := h
 clear h
 obtain ⟨y438, hy438⟩ : ∃ y_ : List Int, y_ = (([1, 2, 5, 6, 15, 16] : List Int)) := ⟨_, rfl⟩
 replace H : ((slices_Contains_int_int.f k y438 a0).bind fun t441 => (some t441)) = some r := by first | (rw [hy438]; with_reducible exact H) | (have H2_ := (Option.bind_some _ _).symm.trans H; rw [hy438]; with_reducible exact H2_) | (have H2_ := (Option.bind_some _ _).symm.trans H; with_reducible exact H2_) | with_reducible exact H | (rw [hy438]; exact H) | exact H
 have Ny438 := Aside0.mk hy438
 clear hy438
 obtain ⟨t441, A2, H⟩ := bnd H
 obtain rfl := Option.some.inj H
 go_enter Tryd.func105, Tryd.ntmps105
 go_wp2_with (first | ((with_reducible refine gate_dst (N := 3) rfl ?_); refine Kd.R_lit (Kd.int .i64) _ 3 ?hg (N := 3) ?hd (xs := ([1, 2, 5, 6, 15, 16] : List Int)) (inner := [.int .i64 1, .int .i64 2, .int .i64 5, .int .i64 6, .int .i64 15, .int .i64 16]) (ok := fun _ => True) (okp := fun _ => True) ?hr ?hp (fun _ hk => hk) trivial (Below.refl _ _) (Nat.le_refl _) (by simp) ?_; (case hd => rfl); (case hg => rfl); (case hr => first | (go_simp; done) | (go_simp; rfl)); (case hp => exact (Reps.one (show Kd.M (Kd.int .i64) _ _ _ 1 [.int .i64 1] from rfl) (Reps.one (show Kd.M (Kd.int .i64) _ _ _ 2 [.int .i64 2] from rfl) (Reps.one (show Kd.M (Kd.int .i64) _ _ _ 5 [.int .i64 5] from rfl) (Reps.one (show Kd.M (Kd.int .i64) _ _ _ 6 [.int .i64 6] from rfl) (Reps.one (show Kd.M (Kd.int .i64) _ _ _ 15 [.int .i64 15] from rfl) (Reps.one (show Kd.M (Kd.int .i64) _ _ _ 16 [.int .i64 16] from rfl) (Reps.none _ _)))))))); intro v439 w3 ho4 hb hg_ hnew_; clear hg_ hnew_; (first | rw [← Ny438.out] at ho4 | (simp only [Int.reduceToNat] at ho4; rw [← Ny438.out] at ho4)); have HO440 := RL ho4; replace HB := BS hb; clear hb ho4; obtain ⟨Ao5, co5, eo5⟩ := Kd.R_slice HO440.out; subst eo5) | ((with_reducible refine gate_callee (f := 121) rfl ?_); refine goesL_ (some 5) rfl rfl Tryd.func121 KR rfl #[.slice Ao5 y438.length co5, .int .i64 a0] rfl TA ?_; (with_reducible refine (slices_Contains_int_int.calls k _ _ y438 a0 t441 _ ?side1 ?side2 A2.out).mono ?_); (case side1 => exact CW ((Kd.R_reads' HO440.out).2.2)); (case side2 => exact (Kd.R_reads' HO440.out).2.1); rintro e w' ⟨rfl, ⟨nd, rfl⟩⟩; refine ⟨_, rfl, ?_⟩))
 go_ret
 exact ⟨TE, TB⟩
end
section
/-! ### impl_areTypes: function 78 -/
def impl_areTypes.l0 : Nat → List Int → List Int → Int → Int → Option (Bool)
 | 0, _, _, _, _ => none
 | k + 1, x0, x5, x6, x7 => if x7 < x6 then (if 0 ≤ x7 then (if x7 < (x5.length : Int) then ((impl_isType.f k (rd x5 x7)).bind fun t443 => (if t443 = true then (if x7 > 0 then (if 0 ≤ (wrap64 (x7 - 1)) then (if (wrap64 (x7 - 1)) < (x0.length : Int) then (if (rd x5 x7) ≤ (rd x0 (wrap64 (x7 - 1))) then (some false) else (impl_areTypes.l0 k x0 x5 x6 (wrap64 (x7 + 1)))) else (none)) else (none)) else (impl_areTypes.l0 k x0 x5 x6 (wrap64 (x7 + 1)))) else (some false))) else (none)) else (none)) else (some (decide ((x0.length : Int) > 0)))
def impl_areTypes.f (k : Nat) (l0 : List Int) : Option (Bool) := impl_areTypes.l0 k l0 l0 (l0.length : Int) 0
theorem impl_areTypes.mono_l : ∀ k, (∀ y0 y1 y2 y3, LeO (impl_areTypes.l0 k y0 y1 y2 y3) (impl_areTypes.l0 (k + 1) y0 y1 y2 y3))
 | 0 => fun _ _ _ _ r h => by simp [impl_areTypes.l0] at h
 | k + 1 => by
  have ih0 := impl_areTypes.mono_l k
  ·intro y0 y1 y2 y3
   unfold impl_areTypes.l0
   repeat' first
   | (with_reducible exact ih0 _ _ _ _)
   | (with_reducible exact impl_isType.mono _ _)
   | (with_reducible exact LeO.refl _)
   | (with_reducible exact LeO.none _)
   | (with_reducible refine LeO.ite ?_ ?_)
   | (with_reducible refine LeO.bind ?_ (fun _ => ?_))
   | exact ih0 _ _ _ _
   | exact impl_isType.mono _ _
   | exact LeO.none _
   | refine LeO.ite ?_ ?_
   | refine LeO.bind ?_ (fun _ => ?_)
theorem impl_areTypes.mono : ∀ a0 k, LeO (impl_areTypes.f k a0) (impl_areTypes.f (k + 1) a0) := by
 intro a0 k
 have ih0 := impl_areTypes.mono_l k
 unfold impl_areTypes.f
 repeat' first
   | (with_reducible exact ih0 _ _ _ _)
   | (with_reducible exact impl_isType.mono _ _)
   | (with_reducible exact LeO.refl _)
   | (with_reducible exact LeO.none _)
   | (with_reducible refine LeO.ite ?_ ?_)
   | (with_reducible refine LeO.bind ?_ (fun _ => ?_))
   | exact ih0 _ _ _ _
   | exact impl_isType.mono _ _
   | exact LeO.none _
   | refine LeO.ite ?_ ?_
   | refine LeO.bind ?_ (fun _ => ?_)
theorem impl_areTypes.calls (k : Nat) (A0 : Option Addr) (c0 : Nat) (l0 : List Int) (r : Bool) (w : World) (hr0 : Kd.C (Kd.int .i64) w A0 l0.length l0) (hc0 : l0.length ≤ c0) (h : impl_areTypes.f k l0 = some r) :
  Calls Tryd.prog 78 #[.slice A0 l0.length c0] w fun e w' => e = .returned (.bool r) ∧ Below w.heap.size w w' := by
 have HR0 := Aside0.mk hr0
 have HC0 := Aside0.mk hc0
 clear hr0 hc0
 have HB := Aside0.mk (Below.refl w.heap.size w)
 have H : (impl_areTypes.l0 k l0 l0 (l0.length : Int) 0) = some r := h
 clear h
 have H' := Aside0.mk H
 clear H
 go_enter Tryd.func78, Tryd.ntmps78
 go_wp2
 go_loopg [7] k (fun kq v7 w' => ∃ (x7_1 : Int), v7 = .int .i64 x7_1 ∧ Aside0 (impl_areTypes.l0 kq l0 l0 (l0.length : Int) x7_1 = some r) ∧ Aside0 (kq ≤ k) ∧ Aside0 (Below w.heap.size w w'))
 case atStart => exact ⟨(0), TF, H', ⟨Nat.le_refl _⟩, ⟨TB⟩⟩
 case round =>
  clear H'
  obtain ⟨x7_1, rfl, HA, HK1, HB⟩ := hrel
  cases gk with
  | zero => exact absurd HA.out (by simp [impl_areTypes.l0])
  | succ k1 =>
   have H := HA.out
   clear HA
   simp only [impl_areTypes.l0] at H
   by_cases c2 : x7_1 < (l0.length : Int)
   ·rw [if_pos c2] at H
    have c2b0 : decide (x7_1 < (l0.length : Int)) = true := decide_eq_true c2
    clear c2
    obtain ⟨c3, H⟩ := ifn H
    have c3b0 : decide (0 ≤ x7_1) = true := decide_eq_true c3
    clear c3
    obtain ⟨c4, H⟩ := ifn H
    have c4b0 : decide (x7_1 < (l0.length : Int)) = true := decide_eq_true c4
    clear c4
    obtain ⟨t443, A5, H⟩ := bnd H
    by_cases c6 : t443 = true
    ·subst c6
     replace H := ift H
     by_cases c7 : x7_1 > 0
     ·rw [if_pos c7] at H
      have c7b0 : decide (0 < x7_1) = true := decide_eq_true c7
      clear c7
      obtain ⟨ji8, hji8⟩ : ∃ j_ : Int, (wrap64 (x7_1 - 1)) = j_ := ⟨_, rfl⟩
      replace H : (if 0 ≤ (ji8) then (if (ji8) < (l0.length : Int) then (if (rd l0 x7_1) ≤ (rd l0 (ji8)) then (some false) else (impl_areTypes.l0 k1 l0 l0 (l0.length : Int) (wrap64 (x7_1 + 1)))) else (none)) else (none)) = some r := by first | (rw [hji8] at H; exact H) | (simp only [hji8] at H ⊢; exact H)
      (try rw [hji8] at A5)
      have hji8w : (IntKind.i64.wrap (x7_1 - 1)) = ji8 := (i64_w _).trans hji8
      obtain ⟨c9, H⟩ := ifn H
      have c9b0 : decide (0 ≤ (ji8)) = true := decide_eq_true c9
      clear c9
      obtain ⟨c10, H⟩ := ifn H
      have c10b0 : decide ((ji8) < (l0.length : Int)) = true := decide_eq_true c10
      clear c10
      by_cases c11 : (rd l0 x7_1) ≤ (rd l0 (ji8))
      ·rw [if_pos c11] at H
       have c11b0 : decide ((rd l0 x7_1) ≤ (rd l0 (ji8))) = true := decide_eq_true c11
       clear c11
       obtain rfl := Option.some.inj H
       have p442 : 0 ≤ (x7_1 : Int) := TD
       have q442 : x7_1 < (l0.length : Int) := TD
       obtain ⟨ad442, e442, hx442_0⟩ := Kd.at_int (Kd.C_below HR0.out HB.out) x7_1 p442 q442
       cases e442
       replace p442 := eq_true p442
       replace q442 := eq_true q442
       go_wp2_with (first | ((with_reducible refine gate_callee (f := 105) rfl ?_); refine goesL_ (some 13) rfl rfl Tryd.func105 KR rfl #[.int .i64 (rd l0 x7_1)] rfl TA ?_; (with_reducible refine (impl_isType.calls k1 (rd l0 x7_1) true _ A5.out).mono ?_); rintro e w12 ⟨rfl, hb⟩; refine ⟨_, rfl, ?_⟩; replace HB := BS hb; (try clear hb); (try clear hb2); (try clear hk); (try clear hi); have p444 : 0 ≤ ((ji8) : Int) := TD; have q444 : (ji8) < (l0.length : Int) := TD; obtain ⟨ad444, e444, hx444_0⟩ := Kd.at_int HR0.out (ji8) p444 q444; obtain rfl : ad442 = ad444 := (by injection e444); replace hx444_0 := hBc HB hx444_0; replace p444 := eq_true p444; replace q444 := eq_true q444))
       go_ret
       exact ⟨by first | rfl | (simp [errW_none, errW_some] <;> rfl) | (simp only [← hji8]; first | rfl | (simp [errW_none, errW_some] <;> rfl)) | (simp [*, errW_none, errW_some] <;> rfl), TB⟩
      ·rw [if_neg c11] at H
       have c11b0 : decide ((rd l0 x7_1) ≤ (rd l0 (ji8))) = false := decide_eq_false c11
       clear c11
       have H' := Aside0.mk H
       clear H
       have p442 : 0 ≤ (x7_1 : Int) := TD
       have q442 : x7_1 < (l0.length : Int) := TD
       obtain ⟨ad442, e442, hx442_0⟩ := Kd.at_int (Kd.C_below HR0.out HB.out) x7_1 p442 q442
       cases e442
       replace p442 := eq_true p442
       replace q442 := eq_true q442
       go_wp2_with (first | ((with_reducible refine gate_callee (f := 105) rfl ?_); refine goesL_ (some 13) rfl rfl Tryd.func105 KR rfl #[.int .i64 (rd l0 x7_1)] rfl TA ?_; (with_reducible refine (impl_isType.calls k1 (rd l0 x7_1) true _ A5.out).mono ?_); rintro e w13 ⟨rfl, hb⟩; refine ⟨_, rfl, ?_⟩; replace HB := BS hb; (try clear hb); (try clear hb2); (try clear hk); (try clear hi); have p444 : 0 ≤ ((ji8) : Int) := TD; have q444 : (ji8) < (l0.length : Int) := TD; obtain ⟨ad444, e444, hx444_0⟩ := Kd.at_int HR0.out (ji8) p444 q444; obtain rfl : ad442 = ad444 := (by injection e444); replace hx444_0 := hBc HB hx444_0; replace p444 := eq_true p444; replace q444 := eq_true q444))
       go_roundg k1
       case measure => have := HK1.out; omega
       case rel => exact ⟨(wrap64 (x7_1 + 1)), TF, H', ⟨TM⟩, ⟨TB⟩⟩
     ·rw [if_neg c7] at H
      have c7b0 : decide (0 < x7_1) = false := decide_eq_false c7
      clear c7
      have H' := Aside0.mk H
      clear H
      have p442 : 0 ≤ (x7_1 : Int) := TD
      have q442 : x7_1 < (l0.length : Int) := TD
      obtain ⟨ad442, e442, hx442_0⟩ := Kd.at_int (Kd.C_below HR0.out HB.out) x7_1 p442 q442
      cases e442
      replace p442 := eq_true p442
      replace q442 := eq_true q442
      go_wp2_with (first | ((with_reducible refine gate_callee (f := 105) rfl ?_); refine goesL_ (some 13) rfl rfl Tryd.func105 KR rfl #[.int .i64 (rd l0 x7_1)] rfl TA ?_; (with_reducible refine (impl_isType.calls k1 (rd l0 x7_1) true _ A5.out).mono ?_); rintro e w14 ⟨rfl, hb⟩; refine ⟨_, rfl, ?_⟩; replace HB := BS hb; (try clear hb); (try clear hb2); (try clear hk); (try clear hi)))
      go_roundg k1
      case measure => have := HK1.out; omega
      case rel => exact ⟨(wrap64 (x7_1 + 1)), TF, H', ⟨TM⟩, ⟨TB⟩⟩
    ·replace c6 := Bool.eq_false_iff.mpr c6
     subst c6
     replace H := iff' H
     obtain rfl := Option.some.inj H
     have p442 : 0 ≤ (x7_1 : Int) := TD
     have q442 : x7_1 < (l0.length : Int) := TD
     obtain ⟨ad442, e442, hx442_0⟩ := Kd.at_int (Kd.C_below HR0.out HB.out) x7_1 p442 q442
     cases e442
     replace p442 := eq_true p442
     replace q442 := eq_true q442
     go_wp2_with (first | ((with_reducible refine gate_callee (f := 105) rfl ?_); refine goesL_ (some 13) rfl rfl Tryd.func105 KR rfl #[.int .i64 (rd l0 x7_1)] rfl TA ?_; (with_reducible refine (impl_isType.calls k1 (rd l0 x7_1) false _ A5.out).mono ?_); rintro e w15 ⟨rfl, hb⟩; refine ⟨_, rfl, ?_⟩; replace HB := BS hb; (try clear hb); (try clear hb2); (try clear hk); (try clear hi)))
     go_ret
     exact ⟨TE, TB⟩
   ·rw [if_neg c2] at H
    have c2b0 : decide (x7_1 < (l0.length : Int)) = false := decide_eq_false c2
    clear c2
    obtain rfl := Option.some.inj H
    go_wp2
    go_ret
    exact ⟨TE, TB⟩
end
section
/-! ### impl_GoodGaps: function 41 -/
mutual
def impl_GoodGaps.j0 : Nat → ByteArray → List (S_Gap) → Bool → Option (Bool)
 | 0, _, _, _ => none
 | k + 1, x0, x1, x23 => if x23 = true then (some false) else (impl_GoodGaps.l0 k x0 x1 x1 (x1.length : Int) 0)
def impl_GoodGaps.l0 : Nat → ByteArray → List (S_Gap) → List (S_Gap) → Int → Int → Option (Bool)
 | 0, _, _, _, _, _ => none
 | k + 1, x0, x1, x24, x25, x26 => if x26 < x25 then (if 0 ≤ x26 then (if x26 < (x24.length : Int) then ((impl_GoodName.f k ((rd_TGap x24 x26).f0)).bind fun t450 => (if t450 = true then ((impl_isBelow.f ((rd_TGap x24 x26).f0) x0).bind fun t451 => (if t451 = true then (if (x1.length : Int) = 0 then (none) else (if 0 ≤ (Int.tmod (wrap64 (x26 + 1)) (x1.length : Int)) then (if (Int.tmod (wrap64 (x26 + 1)) (x1.length : Int)) < (x1.length : Int) then (if ((rd_TGap x24 x26).f1).toList = ((rd_TGap x1 (Int.tmod (wrap64 (x26 + 1)) (x1.length : Int))).f0).toList then ((impl_areTypes.f k ((rd_TGap x24 x26).f2)).bind fun t453 => (if t453 = true then (if x26 > 0 then (if 0 ≤ (wrap64 (x26 - 1)) then (if (wrap64 (x26 - 1)) < (x1.length : Int) then ((impl_compareNames.f k ((rd_TGap x1 (wrap64 (x26 - 1))).f0) ((rd_TGap x24 x26).f0)).bind fun t455 => (if t455 ≥ 0 then (some false) else (impl_GoodGaps.l0 k x0 x1 x24 x25 (wrap64 (x26 + 1))))) else (none)) else (none)) else (impl_GoodGaps.l0 k x0 x1 x24 x25 (wrap64 (x26 + 1)))) else (some false))) else (some false)) else (none)) else (none))) else (some false))) else (some false))) else (none)) else (none)) else (some true)
end
def impl_GoodGaps.f (k : Nat) (a0 : ByteArray) (l1 : List (S_Gap)) : Option (Bool) := (impl_GoodName.f k a0).bind fun t445 => (if t445 = true then ((impl_within.f (l1.length : Int) 1 40).bind fun t446 => (if t446 = true then (if 0 < (l1.length : Int) then (impl_GoodGaps.j0 k a0 l1 (((rd_TGap l1 0).f0).toList != a0.toList)) else (none)) else (impl_GoodGaps.j0 k a0 l1 true))) else (impl_GoodGaps.j0 k a0 l1 true))
theorem impl_GoodGaps.mono_l : ∀ k, (∀ y0 y1 y2, LeO (impl_GoodGaps.j0 k y0 y1 y2) (impl_GoodGaps.j0 (k + 1) y0 y1 y2)) ∧ (∀ y0 y1 y2 y3 y4, LeO (impl_GoodGaps.l0 k y0 y1 y2 y3 y4) (impl_GoodGaps.l0 (k + 1) y0 y1 y2 y3 y4))
 | 0 => ⟨fun _ _ _ r h => by simp [impl_GoodGaps.j0] at h, fun _ _ _ _ _ r h => by simp [impl_GoodGaps.l0] at h⟩
 | k + 1 => by
  obtain ⟨ih0, ih1⟩ := impl_GoodGaps.mono_l k
  refine ⟨?_, ?_⟩
  ·intro y0 y1 y2
   unfold impl_GoodGaps.j0
   repeat' first
   | (with_reducible exact ih0 _ _ _)
   | (with_reducible exact ih1 _ _ _ _ _)
   | (with_reducible exact impl_GoodName.mono _ _)
   | (with_reducible exact impl_areTypes.mono _ _)
   | (with_reducible exact impl_compareNames.mono _ _ _)
   | (with_reducible exact LeO.refl _)
   | (with_reducible exact LeO.none _)
   | (with_reducible refine LeO.ite ?_ ?_)
   | (with_reducible refine LeO.bind ?_ (fun _ => ?_))
   | exact ih0 _ _ _
   | exact ih1 _ _ _ _ _
   | exact impl_GoodName.mono _ _
   | exact impl_areTypes.mono _ _
   | exact impl_compareNames.mono _ _ _
   | exact LeO.none _
   | refine LeO.ite ?_ ?_
   | refine LeO.bind ?_ (fun _ => ?_)
  ·intro y0 y1 y2 y3 y4
   unfold impl_GoodGaps.l0
   repeat' first
   | (with_reducible exact ih0 _ _ _)
   | (with_reducible exact ih1 _ _ _ _ _)
   | (with_reducible exact impl_GoodName.mono _ _)
   | (with_reducible exact impl_areTypes.mono _ _)
   | (with_reducible exact impl_compareNames.mono _ _ _)
   | (with_reducible exact LeO.refl _)
   | (with_reducible exact LeO.none _)
   | (with_reducible refine LeO.ite ?_ ?_)
   | (with_reducible refine LeO.bind ?_ (fun _ => ?_))
   | exact ih0 _ _ _
   | exact ih1 _ _ _ _ _
   | exact impl_GoodName.mono _ _
   | exact impl_areTypes.mono _ _
   | exact impl_compareNames.mono _ _ _
   | exact LeO.none _
   | refine LeO.ite ?_ ?_
   | refine LeO.bind ?_ (fun _ => ?_)
theorem impl_GoodGaps.mono : ∀ a0 a1 k, LeO (impl_GoodGaps.f k a0 a1) (impl_GoodGaps.f (k + 1) a0 a1) := by
 intro a0 a1 k
 obtain ⟨ih0, ih1⟩ := impl_GoodGaps.mono_l k
 unfold impl_GoodGaps.f
 repeat' first
   | (with_reducible exact ih0 _ _ _)
   | (with_reducible exact ih1 _ _ _ _ _)
   | (with_reducible exact impl_GoodName.mono _ _)
   | (with_reducible exact impl_areTypes.mono _ _)
   | (with_reducible exact impl_compareNames.mono _ _ _)
   | (with_reducible exact LeO.refl _)
   | (with_reducible exact LeO.none _)
   | (with_reducible refine LeO.ite ?_ ?_)
   | (with_reducible refine LeO.bind ?_ (fun _ => ?_))
   | exact ih0 _ _ _
   | exact ih1 _ _ _ _ _
   | exact impl_GoodName.mono _ _
   | exact impl_areTypes.mono _ _
   | exact impl_compareNames.mono _ _ _
   | exact LeO.none _
   | refine LeO.ite ?_ ?_
   | refine LeO.bind ?_ (fun _ => ?_)
def impl_GoodGaps.T6 : Bool × List (List Nat × List Nat) := (true, [([], []), ([0], [0]), ([1], [1]), ([2], [2]), ([3, 2], [3]), ([4], [4]), ([5, 4], [4, 5]), ([4], [4]), ([6, 7, 4, 4], [4, 6, 7]), ([8, 4], [4, 8]), ([4, 9], [4, 9]), ([10, 8], [10]), ([11], [11]), ([12, 11], [11, 12]), ([11], [11]), ([11], [11]), ([15, 11], [11, 15]), ([11], [11]), ([17, 11], [11, 17]), ([16, 18, 11], [11, 16, 18]), ([14, 19, 11], [11, 14, 19]), ([20, 11], [11, 20]), ([21, 11], [11, 21]), ([13, 22, 11], [11, 13, 22]), ([11, 23], [11, 23]), ([24, 11], [24]), ([25], [25]), ([26, 25], [25, 26]), ([27, 25, 25], [25, 27]), ([28, 25], [25, 28]), ([25, 29], [25, 29]), ([30, 28], [30]), ([31], [31]), ([32, 31], [31, 32]), ([33, 31, 31], [31, 33]), ([34], [34]), ([34], [34]), ([36, 34], [34, 36]), ([35, 37, 34], [34, 35, 37]), ([38, 34], [34, 38]), ([39, 34], [34, 39]), ([34], [34]), ([41, 34], [34, 41]), ([40, 42, 34, 34], [34, 40, 42]), ([43, 34], [34, 43]), ([34, 44, 31], [31, 34, 44]), ([31, 45], [31, 45])])
def impl_GoodGaps.B6 : List Nat := [0, 1, 3, 7, 15, 31, 63, 31, 255, 511, 1023, 2047, 4095, 8191, 4095, 4095, 36863, 4095, 135167, 495615, 1036287, 2084863, 4182015, 8388607, 16777215, 33554431, 67108863, 134217727, 268435455, 536870911, 1073741823, 2147483647, 4294967295, 8589934591, 17179869183, 34359738367, 34359738367, 103079215103, 274877906943, 549755813887, 1099511627775, 34359738367, 2233382993919, 8796093022207, 17592186044415, 35184372088831, 70368744177663]
theorem impl_GoodGaps.tab6 : rtab .any (opsOf Tryd.f41 6) = impl_GoodGaps.T6 := by kernel_rfl
theorem impl_GoodGaps.bits6 : waitsOk impl_GoodGaps.T6.2 impl_GoodGaps.B6 = true := by kernel_rfl
theorem impl_GoodGaps.calls (k : Nat) (a0 : ByteArray) (A1 : Option Addr) (c1 : Nat) (l1 : List (S_Gap)) (r : Bool) (w : World) (hr1 : Kd.C k_Gap w A1 l1.length l1) (hc1 : l1.length ≤ c1) (h : impl_GoodGaps.f k a0 l1 = some r) :
  Calls Tryd.prog 41 #[.string a0, .slice A1 l1.length c1] w fun e w' => e = .returned (.bool r) ∧ Below w.heap.size w w' := by
 have hu44 := Tryd.underlying44
 have HR1 := Aside0.mk hr1
 have HC1 := Aside0.mk hc1
 clear hr1 hc1
 have HB := Aside0.mk (Below.refl w.heap.size w)
 have H : ((impl_GoodName.f k a0).bind fun t445 => (if t445 = true then ((impl_within.f (l1.length : Int) 1 40).bind fun t446 => (if t446 = true then (if 0 < (l1.length : Int) then (impl_GoodGaps.j0 k a0 l1 (((rd_TGap l1 0).f0).toList != a0.toList)) else (none)) else (impl_GoodGaps.j0 k a0 l1 true))) else (impl_GoodGaps.j0 k a0 l1 true))) = some r := h
 clear h
 have HC3 := Aside0.mk H
 clear H
 go_enter Tryd.func41, Tryd.ntmps41
 go_upto_region 1 with (fail)
 go_cut [23] (fun v23 wc => ∃ (kq : Nat) (x23_2 : Bool), v23 = .bool x23_2 ∧ Aside0 (impl_GoodGaps.j0 kq a0 l1 x23_2 = some r) ∧ Aside0 (kq ≤ k) ∧ Aside0 (Below w.heap.size w wc))
 case first =>
  have H := HC3.out
  clear HC3
  obtain ⟨t445, A4, H⟩ := bnd H
  by_cases c5 : t445 = true
  ·subst c5
   replace H := ift H
   obtain ⟨t446, A6, H⟩ := bnd H
   by_cases c7 : t446 = true
   ·subst c7
    replace H := ift H
    obtain ⟨c8, H⟩ := ifn H
    have c8b0 : decide (0 < (l1.length : Int)) = true := decide_eq_true c8
    have c8b1 : decide (0 < l1.length) = true := decide_eq_true (by omega)
    clear c8
    (first | rw [c8b0] | (simp only [i64_w, i32_w]; rw [c8b0]) | skip)
    have H' := Aside0.mk H
    clear H
    go_wp2_with (first | ((with_reducible refine gate_callee (f := 58) rfl ?_); refine goesL_ (some 8) rfl rfl Tryd.func58 KR rfl #[.string a0] rfl TA ?_; (with_reducible refine (impl_GoodName.calls k a0 true _ A4.out).mono ?_); rintro e w9 ⟨rfl, hb⟩; refine ⟨_, rfl, ?_⟩; replace HB := BS hb; (try clear hb); (try clear hb2); (try clear hk); (try clear hi)) | (go_at_call 57; (with_reducible refine (impl_within.calls (l1.length : Int) 1 40 true _ A6.out).mono ?_); rintro e w' ⟨rfl, ⟨nd, rfl⟩⟩; have p447 : 0 ≤ (0 : Int) := (by omega); have q447 : 0 < (l1.length : Int) := TD; obtain ⟨ad447, A447_2, c447_2, e447, hx447_0, hx447_1, hx447_2, hl447_2, hi447_2⟩ := at_TGap HR1.out 0 p447 q447; have hw447_2 := hx447_2; cases e447; have qi447 : (0 < l1.length) = True := eq_true (by omega); (try rw [show ((0 : Int)).toNat = 0 from rfl] at hx447_0); (try rw [show 0 * 3 = 0 from rfl] at hx447_0); (try rw [Addr.add_zero'] at hx447_0); (try rw [show ((0 : Int)).toNat = 0 from rfl] at hx447_1); (try rw [show 0 * 3 = 0 from rfl] at hx447_1); (try rw [Addr.add_zero'] at hx447_1); (try rw [show ((0 : Int)).toNat = 0 from rfl] at hx447_2); (try rw [show 0 * 3 = 0 from rfl] at hx447_2); (try rw [Addr.add_zero'] at hx447_2); replace hx447_0 := hBc HB hx447_0; replace hx447_1 := hBc HB hx447_1; replace hx447_2 := hBc HB hx447_2; have HR447_2 := Aside0.mk hi447_2; have HC447_2 := Aside0.mk hl447_2; clear hi447_2 hl447_2; replace p447 := eq_true p447; replace q447 := eq_true q447))
    go_meet
    case rel => exact ⟨_, ((((rd_TGap l1 0).f0).toList != a0.toList)), TF, H', ⟨by first | omega | exact Nat.le_refl _⟩, ⟨TB⟩⟩
   ·replace c7 := Bool.eq_false_iff.mpr c7
    subst c7
    replace H := iff' H
    have H' := Aside0.mk H
    clear H
    go_wp2_with (first | ((with_reducible refine gate_callee (f := 58) rfl ?_); refine goesL_ (some 8) rfl rfl Tryd.func58 KR rfl #[.string a0] rfl TA ?_; (with_reducible refine (impl_GoodName.calls k a0 true _ A4.out).mono ?_); rintro e w10 ⟨rfl, hb⟩; refine ⟨_, rfl, ?_⟩; replace HB := BS hb; (try clear hb); (try clear hb2); (try clear hk); (try clear hi)) | (go_at_call 57; (with_reducible refine (impl_within.calls (l1.length : Int) 1 40 false _ A6.out).mono ?_); rintro e w' ⟨rfl, ⟨nd, rfl⟩⟩))
    go_meet
    case rel => exact ⟨_, (true), TF, H', ⟨by first | omega | exact Nat.le_refl _⟩, ⟨TB⟩⟩
  ·replace c5 := Bool.eq_false_iff.mpr c5
   subst c5
   replace H := iff' H
   have H' := Aside0.mk H
   clear H
   go_wp2_with (first | ((with_reducible refine gate_callee (f := 58) rfl ?_); refine goesL_ (some 8) rfl rfl Tryd.func58 KR rfl #[.string a0] rfl TA ?_; (with_reducible refine (impl_GoodName.calls k a0 false _ A4.out).mono ?_); rintro e w11 ⟨rfl, hb⟩; refine ⟨_, rfl, ?_⟩; replace HB := BS hb; (try clear hb); (try clear hb2); (try clear hk); (try clear hi)))
   go_meet
   case rel => exact ⟨_, (true), TF, H', ⟨by first | omega | exact Nat.le_refl _⟩, ⟨TB⟩⟩
 case rest =>
  clear HC3
  try clear c1
  try clear p2
  try clear c4
  try clear p4
  try clear q4
  try clear hx4
  try clear qi4
  try clear c5
  try clear c7
  try clear c8
  try clear c8b0
  try clear c8b1
  try clear hx447_0
  try clear hx447_1
  try clear hx447_2
  try clear p447
  try clear q447
  obtain ⟨kq, x23_2, rfl, HA, HJ2, HB⟩ := hcut
  cases kq with
  | zero => exact absurd HA.out (by simp [impl_GoodGaps.j0])
  | succ kj2 =>
   have H := HA.out
   clear HA
   simp only [impl_GoodGaps.j0] at H
   by_cases c12 : x23_2 = true
   ·subst c12
    replace H := ift H
    obtain rfl := Option.some.inj H
    go_wp2
    go_ret
    exact ⟨TE, TB⟩
   ·replace c12 := Bool.eq_false_iff.mpr c12
    subst c12
    replace H := iff' H
    have H' := Aside0.mk H
    clear H
    go_wp2
    go_loopg [26] kj2 (fun kq v26 w' => ∃ (x26_2 : Int), v26 = .int .i64 x26_2 ∧ Aside0 (impl_GoodGaps.l0 kq a0 l1 l1 (l1.length : Int) x26_2 = some r) ∧ Aside0 (kq ≤ kj2) ∧ Aside0 (Below w.heap.size w w'))
    case atStart => exact ⟨(0), TF, H', ⟨Nat.le_refl _⟩, ⟨TB⟩⟩
    case round =>
     clear H'
     try clear c1
     try clear p2
     try clear c4
     try clear p4
     try clear q4
     try clear hx4
     try clear qi4
     try clear c5
     try clear c7
     try clear c8
     try clear c8b0
     try clear c8b1
     try clear c12
     try clear hx447_0
     try clear hx447_1
     try clear hx447_2
     try clear p2
     try clear p4
     try clear p447
     try clear q4
     try clear q447
     obtain ⟨x26_2, rfl, HA, HK2, HB⟩ := hrel
     cases gk with
     | zero => exact absurd HA.out (by simp [impl_GoodGaps.l0])
     | succ k2 =>
      have H := HA.out
      clear HA
      simp only [impl_GoodGaps.l0] at H
      by_cases c13 : x26_2 < (l1.length : Int)
      ·rw [if_pos c13] at H
       have c13b0 : decide (x26_2 < (l1.length : Int)) = true := decide_eq_true c13
       clear c13
       obtain ⟨c14, H⟩ := ifn H
       have c14b0 : decide (0 ≤ x26_2) = true := decide_eq_true c14
       clear c14
       obtain ⟨c15, H⟩ := ifn H
       have c15b0 : decide (x26_2 < (l1.length : Int)) = true := decide_eq_true c15
       clear c15
       obtain ⟨t450, A16, H⟩ := bnd H
       by_cases c17 : t450 = true
       ·subst c17
        replace H := ift H
        obtain ⟨t451, A18, H⟩ := bnd H
        by_cases c19 : t451 = true
        ·subst c19
         replace H := ift H
         obtain ⟨c20, H⟩ := ifm H
         have c20b0 : ((l1.length : Int) == 0) = false := beq_eq_false_iff_ne.mpr c20
         have c20b1 : ((l1.length : Int) != 0) = true := bne_iff_ne.mpr c20
         have c20b2 : ¬ (l1 = []) := fun h_ => c20 (by rw [h_]; rfl)
         obtain ⟨ji21, hji21⟩ : ∃ j_ : Int, (Int.tmod (wrap64 (x26_2 + 1)) (l1.length : Int)) = j_ := ⟨_, rfl⟩
         replace H : (if 0 ≤ (ji21) then (if (ji21) < (l1.length : Int) then (if ((rd_TGap l1 x26_2).f1).toList = ((rd_TGap l1 (ji21)).f0).toList then ((impl_areTypes.f k2 ((rd_TGap l1 x26_2).f2)).bind fun t453 => (if t453 = true then (if x26_2 > 0 then (if 0 ≤ (wrap64 (x26_2 - 1)) then (if (wrap64 (x26_2 - 1)) < (l1.length : Int) then ((impl_compareNames.f k2 ((rd_TGap l1 (wrap64 (x26_2 - 1))).f0) ((rd_TGap l1 x26_2).f0)).bind fun t455 => (if t455 ≥ 0 then (some false) else (impl_GoodGaps.l0 k2 a0 l1 l1 (l1.length : Int) (wrap64 (x26_2 + 1))))) else (none)) else (none)) else (impl_GoodGaps.l0 k2 a0 l1 l1 (l1.length : Int) (wrap64 (x26_2 + 1)))) else (some false))) else (some false)) else (none)) else (none)) = some r := by first | (rw [hji21] at H; exact H) | (simp only [hji21] at H ⊢; exact H)
         (try rw [hji21] at A16)
         (try rw [hji21] at A18)
         obtain ⟨c22, H⟩ := ifn H
         have c22b0 : decide (0 ≤ (ji21)) = true := decide_eq_true c22
         clear c22
         obtain ⟨c23, H⟩ := ifn H
         have c23b0 : decide ((ji21) < (l1.length : Int)) = true := decide_eq_true c23
         clear c23
         by_cases c24 : ((rd_TGap l1 x26_2).f1).toList = ((rd_TGap l1 (ji21)).f0).toList
         ·rw [if_pos c24] at H
          have c24b0 : (((rd_TGap l1 x26_2).f1).toList == ((rd_TGap l1 (ji21)).f0).toList) = true := beq_iff_eq.mpr c24
          have c24b1 : (((rd_TGap l1 x26_2).f1).toList != ((rd_TGap l1 (ji21)).f0).toList) = false := bne_eq_false_iff_eq.mpr c24
          clear c24
          obtain ⟨t453, A25, H⟩ := bnd H
          by_cases c26 : t453 = true
          ·subst c26
           replace H := ift H
           by_cases c27 : x26_2 > 0
           ·rw [if_pos c27] at H
            have c27b0 : decide (0 < x26_2) = true := decide_eq_true c27
            clear c27
            obtain ⟨ji28, hji28⟩ : ∃ j_ : Int, (wrap64 (x26_2 - 1)) = j_ := ⟨_, rfl⟩
            replace H : (if 0 ≤ (ji28) then (if (ji28) < (l1.length : Int) then ((impl_compareNames.f k2 ((rd_TGap l1 (ji28)).f0) ((rd_TGap l1 x26_2).f0)).bind fun t455 => (if t455 ≥ 0 then (some false) else (impl_GoodGaps.l0 k2 a0 l1 l1 (l1.length : Int) (wrap64 (x26_2 + 1))))) else (none)) else (none)) = some r := by first | (rw [hji28] at H; exact H) | (simp only [hji28] at H ⊢; exact H)
            (try rw [hji28] at A16)
            (try rw [hji28] at A18)
            (try rw [hji28] at A25)
            have hji28w : (IntKind.i64.wrap (x26_2 - 1)) = ji28 := (i64_w _).trans hji28
            obtain ⟨c29, H⟩ := ifn H
            have c29b0 : decide (0 ≤ (ji28)) = true := decide_eq_true c29
            clear c29
            obtain ⟨c30, H⟩ := ifn H
            have c30b0 : decide ((ji28) < (l1.length : Int)) = true := decide_eq_true c30
            clear c30
            obtain ⟨t455, A31, H⟩ := bnd H
            by_cases c32 : t455 ≥ 0
            ·rw [if_pos c32] at H
             have c32b0 : decide (0 ≤ t455) = true := decide_eq_true c32
             clear c32
             obtain rfl := Option.some.inj H
             have p448 : 0 ≤ (x26_2 : Int) := TD
             have q448 : x26_2 < (l1.length : Int) := TD
             obtain ⟨ad448, A448_2, c448_2, e448, hx448_0, hx448_1, hx448_2, hl448_2, hi448_2⟩ := at_TGap HR1.out x26_2 p448 q448
             have hw448_2 := hx448_2
             cases e448
             replace hx448_0 := hBc HB hx448_0
             replace hx448_1 := hBc HB hx448_1
             replace hx448_2 := hBc HB hx448_2
             have HR448_2 := Aside0.mk hi448_2
             have HC448_2 := Aside0.mk hl448_2
             clear hi448_2 hl448_2
             replace p448 := eq_true p448
             replace q448 := eq_true q448
             try go_wp2_with (first | ((with_reducible refine gate_dst (N := 6) rfl ?_); (try (refine gate_guard (by rfl) ?_; dsimp only)); refine bE 6 #[.string (⟨#[]⟩ : ByteArray), .string (⟨#[]⟩ : ByteArray), .slice none 0 0] 44 ?_; intro gb449 hg w33 hbox hb; have BK449 := Aside0.mk (hbox); have GE449 := bG hg; replace HB := BS hb; clear hb hbox hg; have hcz34 := cz3 BK449))
             have n0_ : Aside0 ((((w33.setCell ⟨gb449, 0, none⟩ (.string ((rd_TGap l1 x26_2).f0))).setCell ⟨gb449, 1, none⟩ (.string ((rd_TGap l1 x26_2).f1))).setCell ⟨gb449, 2, none⟩ (.slice A448_2 ((rd_TGap l1 x26_2).f2).length c448_2)).heap[gb449]? = some (.cells #[.string ((rd_TGap l1 x26_2).f0), .string ((rd_TGap l1 x26_2).f1), .slice A448_2 ((rd_TGap l1 x26_2).f2).length c448_2] 44 (0, 0))) := ⟨TS⟩
             have n1_ : Aside0 (Below w.heap.size w (((w33.setCell ⟨gb449, 0, none⟩ (.string ((rd_TGap l1 x26_2).f0))).setCell ⟨gb449, 1, none⟩ (.string ((rd_TGap l1 x26_2).f1))).setCell ⟨gb449, 2, none⟩ (.slice A448_2 ((rd_TGap l1 x26_2).f2).length c448_2))) := ⟨TB⟩
             (try clear BK449)
             (try clear HB)
             generalize (((w33.setCell ⟨gb449, 0, none⟩ (.string ((rd_TGap l1 x26_2).f0))).setCell ⟨gb449, 1, none⟩ (.string ((rd_TGap l1 x26_2).f1))).setCell ⟨gb449, 2, none⟩ (.slice A448_2 ((rd_TGap l1 x26_2).f2).length c448_2)) = w35 at n0_ n1_ ⊢
             have BK449 := n0_
             have HB := n1_
             clear n0_ n1_
             replace BK449 := Aside0.mk (blk_drew BK449.out)
             replace HB := Aside0.mk (below_drew1 HB.out)
             have p452 : 0 ≤ ((ji21) : Int) := TD
             have q452 : (ji21) < (l1.length : Int) := TD
             obtain ⟨ad452, A452_2, c452_2, e452, hx452_0, hx452_1, hx452_2, hl452_2, hi452_2⟩ := at_TGap HR1.out (ji21) p452 q452
             have hw452_2 := hx452_2
             have hw452_1 := hx452_1
             have hw452_0 := hx452_0
             obtain rfl : ad448 = ad452 := (by injection e452)
             replace hx452_0 := hBc HB hx452_0
             replace hx452_1 := hBc HB hx452_1
             replace hx452_2 := hBc HB hx452_2
             have HR452_2 := Aside0.mk hi452_2
             have HC452_2 := Aside0.mk hl452_2
             clear hi452_2 hl452_2
             replace p452 := eq_true p452
             replace q452 := eq_true q452
             have p454 : 0 ≤ ((ji28) : Int) := TD
             have q454 : (ji28) < (l1.length : Int) := TD
             obtain ⟨ad454, A454_2, c454_2, e454, hx454_0, hx454_1, hx454_2, hl454_2, hi454_2⟩ := at_TGap HR1.out (ji28) p454 q454
             have hw454_2 := hx454_2
             have hw454_1 := hx454_1
             have hw454_0 := hx454_0
             obtain rfl : ad448 = ad454 := (by injection e454)
             replace hx454_0 := hBc HB hx454_0
             replace hx454_1 := hBc HB hx454_1
             replace hx454_2 := hBc HB hx454_2
             have HR454_2 := Aside0.mk hi454_2
             have HC454_2 := Aside0.mk hl454_2
             clear hi454_2 hl454_2
             replace p454 := eq_true p454
             replace q454 := eq_true q454
             refine start_ (n := 47) (S := fun w' => w'.cell? ⟨gb449, 0, none⟩ = some (.string ((rd_TGap l1 x26_2).f0)) ∧ w'.cell? ⟨gb449, 1, none⟩ = some (.string ((rd_TGap l1 x26_2).f1)) ∧ w'.cell? ⟨gb449, 2, none⟩ = some (.slice A448_2 ((rd_TGap l1 x26_2).f2).length c448_2) ∧ w'.cell? (ad448.add (((ji21)).toNat * 3)) = some (.string ((rd_TGap l1 (ji21)).f0)) ∧ w'.cell? ⟨(ad448.add (((ji21)).toNat * 3)).block, (ad448.add (((ji21)).toNat * 3)).off + 1, none⟩ = some (.string ((rd_TGap l1 (ji21)).f1)) ∧ w'.cell? ⟨(ad448.add (((ji21)).toNat * 3)).block, (ad448.add (((ji21)).toNat * 3)).off + 2, none⟩ = some (.slice A452_2 ((rd_TGap l1 (ji21)).f2).length c452_2) ∧ w'.cell? (ad448.add (((ji28)).toNat * 3)) = some (.string ((rd_TGap l1 (ji28)).f0)) ∧ w'.cell? ⟨(ad448.add (((ji28)).toNat * 3)).block, (ad448.add (((ji28)).toNat * 3)).off + 1, none⟩ = some (.string ((rd_TGap l1 (ji28)).f1)) ∧ w'.cell? ⟨(ad448.add (((ji28)).toNat * 3)).block, (ad448.add (((ji28)).toNat * 3)).off + 2, none⟩ = some (.slice A454_2 ((rd_TGap l1 (ji28)).f2).length c454_2)) (ds := []) #[false, false, false, false, false, false, false, false, false, false, false, false, false, false, false, false, false, false, false, false, false, false, false, false, false, false, false, false, false, false, false, false, false, false, false, false, false, false, false, false, false, false, false, false, false, false, false] KR rfl rfl ⟨bc 0 BK449, bc 1 BK449, bc 2 BK449, ((HB.out.cell (World.block_lt_of_cell? w _ hw452_0)).trans hw452_0), ((HB.out.cell (World.block_lt_of_cell? w _ hw452_1)).trans hw452_1), ((HB.out.cell (World.block_lt_of_cell? w _ hw452_2)).trans hw452_2), ((HB.out.cell (World.block_lt_of_cell? w _ hw454_0)).trans hw454_0), ((HB.out.cell (World.block_lt_of_cell? w _ hw454_1)).trans hw454_1), ((HB.out.cell (World.block_lt_of_cell? w _ hw454_2)).trans hw454_2)⟩ (fun hHeld => ?_); refine with_tabW impl_GoodGaps.tab6 impl_GoodGaps.bits6 (fun HT_ HW_ => ?_)
             generalize w35.drew = w36 at BK449 HB HR452_2 HR454_2 hx452_0 hx452_1 hx452_2 hx454_0 hx454_1 hx454_2 hHeld ⊢
             refine pA 0 31 (mL 47 1) HT_ rfl rfl ?_
             refine tA 1 32 (mL 47 3) HT_ HW_ hHeld rfl rfl (by rintro w' ⟨s0, s1, s2, s3, s4, s5, s6, s7, s8⟩; go_simp; with_reducible rfl) ?_
             refine one_ (i := 2) (N := some 33) (mL 47 7) rfl rfl (one_of HT_.out KR) (by decide) (fun K hK => ?_)
             refine goes_ Tryd.func58 KR rfl #[.string ((rd_TGap l1 x26_2).f0)] (by rfl) rfl rfl TA ?_
             with_reducible refine (impl_GoodName.calls k2 ((rd_TGap l1 x26_2).f0) true _ A16.out).mono ?_
             rintro e w37 ⟨rfl, hb⟩
             refine ⟨_, rfl, ?_⟩
             replace BK449 := KB BK449 hb
             replace HB := BS hb
             (try clear hb)
             (try clear hb2)
             (try clear hk)
             (try clear hi)
             refine hK.out _ _ ⟨bc 0 BK449, bc 1 BK449, bc 2 BK449, ((HB.out.cell (World.block_lt_of_cell? w _ hw452_0)).trans hw452_0), ((HB.out.cell (World.block_lt_of_cell? w _ hw452_1)).trans hw452_1), ((HB.out.cell (World.block_lt_of_cell? w _ hw452_2)).trans hw452_2), ((HB.out.cell (World.block_lt_of_cell? w _ hw454_0)).trans hw454_0), ((HB.out.cell (World.block_lt_of_cell? w _ hw454_1)).trans hw454_1), ((HB.out.cell (World.block_lt_of_cell? w _ hw454_2)).trans hw454_2)⟩ (fun hHeld => ?_)
             clear hK K
             refine nA ?_
             refine pA 3 34 (mL 47 15) HT_ rfl rfl ?_
             refine pA 4 35 (mL 47 31) HT_ rfl rfl ?_
             refine pA 5 36 (mL 47 63) HT_ rfl rfl ?_
             refine pA 7 38 (mL 47 191) HT_ rfl rfl ?_
             refine tA 6 37 (mL 47 255) HT_ HW_ hHeld rfl rfl (by rintro w' ⟨s0, s1, s2, s3, s4, s5, s6, s7, s8⟩; go_simp; with_reducible rfl) ?_
             refine one_ (i := 8) (N := some 39) (mL 47 511) rfl rfl (one_of HT_.out KR) (by decide) (fun K hK => ?_)
             refine goes_ Tryd.func77 KR rfl #[.string ((rd_TGap l1 x26_2).f0), .string a0] (by rfl) rfl rfl TA ?_
             with_reducible refine (impl_isBelow.calls ((rd_TGap l1 x26_2).f0) a0 true _ A18.out).mono ?_
             rintro e w' ⟨rfl, ⟨nd, rfl⟩⟩
             refine ⟨_, rfl, ?_⟩
             refine hK.out _ _ ⟨bc 0 BK449, bc 1 BK449, bc 2 BK449, ((HB.out.cell (World.block_lt_of_cell? w _ hw452_0)).trans hw452_0), ((HB.out.cell (World.block_lt_of_cell? w _ hw452_1)).trans hw452_1), ((HB.out.cell (World.block_lt_of_cell? w _ hw452_2)).trans hw452_2), ((HB.out.cell (World.block_lt_of_cell? w _ hw454_0)).trans hw454_0), ((HB.out.cell (World.block_lt_of_cell? w _ hw454_1)).trans hw454_1), ((HB.out.cell (World.block_lt_of_cell? w _ hw454_2)).trans hw454_2)⟩ (fun hHeld => ?_)
             clear hK K
             refine nA ?_
             refine pA 9 40 (mL 47 1023) HT_ rfl rfl ?_
             refine pA 10 41 (mL 47 2047) HT_ rfl rfl ?_
             refine pA 11 42 (mL 47 4095) HT_ rfl rfl ?_
             refine pA 12 43 (mL 47 8191) HT_ rfl rfl ?_
             refine pA 14 45 (mL 47 24575) HT_ rfl rfl ?_
             refine pA 15 46 (mL 47 57343) HT_ rfl rfl ?_
             refine pA 16 47 (mL 47 122879) HT_ rfl rfl ?_
             refine pA 17 48 (mL 47 253951) HT_ rfl rfl ?_
             refine pA 18 49 (mL 47 516095) HT_ rfl rfl ?_
             refine pA 19 50 (mL 47 1040383) HT_ rfl rfl ?_
             refine pA 20 51 (mL 47 2088959) HT_ rfl rfl ?_
             refine pA 21 52 (mL 47 4186111) HT_ rfl rfl ?_
             refine tA 13 44 (mL 47 4194303) HT_ HW_ hHeld rfl rfl (by rintro w' ⟨s0, s1, s2, s3, s4, s5, s6, s7, s8⟩; go_simp; with_reducible rfl) ?_
             refine tA 22 53 (mL 47 8388607) HT_ HW_ hHeld rfl rfl (by rintro w' ⟨s0, s1, s2, s3, s4, s5, s6, s7, s8⟩; go_simp; with_reducible rfl) ?_
             refine pA 23 54 (mL 47 16777215) HT_ rfl rfl ?_
             refine pA 24 55 (mL 47 33554431) HT_ rfl rfl ?_
             refine pA 25 56 (mL 47 67108863) HT_ rfl rfl ?_
             refine pA 26 57 (mL 47 134217727) HT_ rfl rfl ?_
             refine tA 27 58 (mL 47 268435455) HT_ HW_ hHeld rfl rfl (by rintro w' ⟨s0, s1, s2, s3, s4, s5, s6, s7, s8⟩; go_simp; with_reducible rfl) ?_
             refine one_ (i := 28) (N := some 59) (mL 47 536870911) rfl rfl (one_of HT_.out KR) (by decide) (fun K hK => ?_)
             refine goes_ Tryd.func78 KR rfl #[.slice A448_2 ((rd_TGap l1 x26_2).f2).length c448_2] (by rfl) rfl rfl TA ?_
             with_reducible refine (impl_areTypes.calls k2 _ _ ((rd_TGap l1 x26_2).f2) true _ ?side1 ?side2 A25.out).mono ?_
             (case side1 => exact CW ((Kd.C_below HR448_2.out TB)))
             (case side2 => exact HC448_2.out)
             rintro e w38 ⟨rfl, hb⟩
             refine ⟨_, rfl, ?_⟩
             replace BK449 := KB BK449 hb
             replace HB := BS hb
             (try clear hb)
             (try clear hb2)
             (try clear hk)
             (try clear hi)
             refine hK.out _ _ ⟨bc 0 BK449, bc 1 BK449, bc 2 BK449, ((HB.out.cell (World.block_lt_of_cell? w _ hw452_0)).trans hw452_0), ((HB.out.cell (World.block_lt_of_cell? w _ hw452_1)).trans hw452_1), ((HB.out.cell (World.block_lt_of_cell? w _ hw452_2)).trans hw452_2), ((HB.out.cell (World.block_lt_of_cell? w _ hw454_0)).trans hw454_0), ((HB.out.cell (World.block_lt_of_cell? w _ hw454_1)).trans hw454_1), ((HB.out.cell (World.block_lt_of_cell? w _ hw454_2)).trans hw454_2)⟩ (fun hHeld => ?_)
             clear hK K
             refine nA ?_
             refine pA 29 60 (mL 47 1073741823) HT_ rfl rfl ?_
             refine pA 30 61 (mL 47 2147483647) HT_ rfl rfl ?_
             refine pA 31 62 (mL 47 4294967295) HT_ rfl rfl ?_
             refine pA 32 63 (mL 47 8589934591) HT_ rfl rfl ?_
             refine pA 33 64 (mL 47 17179869183) HT_ rfl rfl ?_
             refine pA 34 65 (mL 47 34359738367) HT_ rfl rfl ?_
             refine pA 35 66 (mL 47 68719476735) HT_ rfl rfl ?_
             refine pA 36 67 (mL 47 137438953471) HT_ rfl rfl ?_
             refine pA 37 68 (mL 47 274877906943) HT_ rfl rfl ?_
             refine pA 38 69 (mL 47 549755813887) HT_ rfl rfl ?_
             refine pA 39 70 (mL 47 1099511627775) HT_ rfl rfl ?_
             refine pA 41 72 (mL 47 3298534883327) HT_ rfl rfl ?_
             refine tA 40 71 (mL 47 4398046511103) HT_ HW_ hHeld rfl rfl (by rintro w' ⟨s0, s1, s2, s3, s4, s5, s6, s7, s8⟩; go_simp; with_reducible rfl) ?_
             refine tA 42 73 (mL 47 8796093022207) HT_ HW_ hHeld rfl rfl (by rintro w' ⟨s0, s1, s2, s3, s4, s5, s6, s7, s8⟩; go_simp; with_reducible rfl) ?_
             refine one_ (i := 43) (N := some 74) (mL 47 17592186044415) rfl rfl (one_of HT_.out KR) (by decide) (fun K hK => ?_)
             refine goes_ Tryd.func79 KR rfl #[.string ((rd_TGap l1 (ji28)).f0), .string ((rd_TGap l1 x26_2).f0)] (by rfl) rfl rfl (by (try simp only [List.map_toArray, List.map_cons, List.map_nil]); first | done | (simp only [hji28]; rfl) | rfl | (simp only [List.length_drop, List.length_take]; rfl)) ?_
             with_reducible refine (impl_compareNames.calls k2 ((rd_TGap l1 (ji28)).f0) ((rd_TGap l1 x26_2).f0) t455 _ A31.out).mono ?_
             rintro e w39 ⟨rfl, hb⟩
             refine ⟨_, rfl, ?_⟩
             replace BK449 := KB BK449 hb
             replace HB := BS hb
             (try clear hb)
             (try clear hb2)
             (try clear hk)
             (try clear hi)
             refine hK.out _ _ ⟨bc 0 BK449, bc 1 BK449, bc 2 BK449, ((HB.out.cell (World.block_lt_of_cell? w _ hw452_0)).trans hw452_0), ((HB.out.cell (World.block_lt_of_cell? w _ hw452_1)).trans hw452_1), ((HB.out.cell (World.block_lt_of_cell? w _ hw452_2)).trans hw452_2), ((HB.out.cell (World.block_lt_of_cell? w _ hw454_0)).trans hw454_0), ((HB.out.cell (World.block_lt_of_cell? w _ hw454_1)).trans hw454_1), ((HB.out.cell (World.block_lt_of_cell? w _ hw454_2)).trans hw454_2)⟩ (fun hHeld => ?_)
             clear hK K
             refine nA ?_
             refine pA 44 75 (mL 47 35184372088831) HT_ rfl rfl ?_
             refine pA 45 76 (mL 47 70368744177663) HT_ rfl rfl ?_
             refine pA 46 77 (mL 47 140737488355327) HT_ rfl rfl ?_
             refine done_ (done_of HT_.out KR) ?_
             try go_wp2
             go_ret
             exact ⟨by first | rfl | (simp [errW_none, errW_some] <;> rfl) | (simp only [← hji21, ← hji28]; first | rfl | (simp [errW_none, errW_some] <;> rfl)) | (simp [*, errW_none, errW_some] <;> rfl), TB⟩
            ·rw [if_neg c32] at H
             have c32b0 : decide (0 ≤ t455) = false := decide_eq_false c32
             clear c32
             have H' := Aside0.mk H
             clear H
             have p448 : 0 ≤ (x26_2 : Int) := TD
             have q448 : x26_2 < (l1.length : Int) := TD
             obtain ⟨ad448, A448_2, c448_2, e448, hx448_0, hx448_1, hx448_2, hl448_2, hi448_2⟩ := at_TGap HR1.out x26_2 p448 q448
             have hw448_2 := hx448_2
             cases e448
             replace hx448_0 := hBc HB hx448_0
             replace hx448_1 := hBc HB hx448_1
             replace hx448_2 := hBc HB hx448_2
             have HR448_2 := Aside0.mk hi448_2
             have HC448_2 := Aside0.mk hl448_2
             clear hi448_2 hl448_2
             replace p448 := eq_true p448
             replace q448 := eq_true q448
             try go_wp2_with (first | ((with_reducible refine gate_dst (N := 6) rfl ?_); (try (refine gate_guard (by rfl) ?_; dsimp only)); refine bE 6 #[.string (⟨#[]⟩ : ByteArray), .string (⟨#[]⟩ : ByteArray), .slice none 0 0] 44 ?_; intro gb449 hg w40 hbox hb; have BK449 := Aside0.mk (hbox); have GE449 := bG hg; replace HB := BS hb; clear hb hbox hg; have hcz41 := cz3 BK449))
             have n0_ : Aside0 ((((w40.setCell ⟨gb449, 0, none⟩ (.string ((rd_TGap l1 x26_2).f0))).setCell ⟨gb449, 1, none⟩ (.string ((rd_TGap l1 x26_2).f1))).setCell ⟨gb449, 2, none⟩ (.slice A448_2 ((rd_TGap l1 x26_2).f2).length c448_2)).heap[gb449]? = some (.cells #[.string ((rd_TGap l1 x26_2).f0), .string ((rd_TGap l1 x26_2).f1), .slice A448_2 ((rd_TGap l1 x26_2).f2).length c448_2] 44 (0, 0))) := ⟨TS⟩
             have n1_ : Aside0 (Below w.heap.size w (((w40.setCell ⟨gb449, 0, none⟩ (.string ((rd_TGap l1 x26_2).f0))).setCell ⟨gb449, 1, none⟩ (.string ((rd_TGap l1 x26_2).f1))).setCell ⟨gb449, 2, none⟩ (.slice A448_2 ((rd_TGap l1 x26_2).f2).length c448_2))) := ⟨TB⟩
             (try clear BK449)
             (try clear HB)
             generalize (((w40.setCell ⟨gb449, 0, none⟩ (.string ((rd_TGap l1 x26_2).f0))).setCell ⟨gb449, 1, none⟩ (.string ((rd_TGap l1 x26_2).f1))).setCell ⟨gb449, 2, none⟩ (.slice A448_2 ((rd_TGap l1 x26_2).f2).length c448_2)) = w42 at n0_ n1_ ⊢
             have BK449 := n0_
             have HB := n1_
             clear n0_ n1_
             replace BK449 := Aside0.mk (blk_drew BK449.out)
             replace HB := Aside0.mk (below_drew1 HB.out)
             have p452 : 0 ≤ ((ji21) : Int) := TD
             have q452 : (ji21) < (l1.length : Int) := TD
             obtain ⟨ad452, A452_2, c452_2, e452, hx452_0, hx452_1, hx452_2, hl452_2, hi452_2⟩ := at_TGap HR1.out (ji21) p452 q452
             have hw452_2 := hx452_2
             have hw452_1 := hx452_1
             have hw452_0 := hx452_0
             obtain rfl : ad448 = ad452 := (by injection e452)
             replace hx452_0 := hBc HB hx452_0
             replace hx452_1 := hBc HB hx452_1
             replace hx452_2 := hBc HB hx452_2
             have HR452_2 := Aside0.mk hi452_2
             have HC452_2 := Aside0.mk hl452_2
             clear hi452_2 hl452_2
             replace p452 := eq_true p452
             replace q452 := eq_true q452
             have p454 : 0 ≤ ((ji28) : Int) := TD
             have q454 : (ji28) < (l1.length : Int) := TD
             obtain ⟨ad454, A454_2, c454_2, e454, hx454_0, hx454_1, hx454_2, hl454_2, hi454_2⟩ := at_TGap HR1.out (ji28) p454 q454
             have hw454_2 := hx454_2
             have hw454_1 := hx454_1
             have hw454_0 := hx454_0
             obtain rfl : ad448 = ad454 := (by injection e454)
             replace hx454_0 := hBc HB hx454_0
             replace hx454_1 := hBc HB hx454_1
             replace hx454_2 := hBc HB hx454_2
             have HR454_2 := Aside0.mk hi454_2
             have HC454_2 := Aside0.mk hl454_2
             clear hi454_2 hl454_2
             replace p454 := eq_true p454
             replace q454 := eq_true q454
             refine start_ (n := 47) (S := fun w' => w'.cell? ⟨gb449, 0, none⟩ = some (.string ((rd_TGap l1 x26_2).f0)) ∧ w'.cell? ⟨gb449, 1, none⟩ = some (.string ((rd_TGap l1 x26_2).f1)) ∧ w'.cell? ⟨gb449, 2, none⟩ = some (.slice A448_2 ((rd_TGap l1 x26_2).f2).length c448_2) ∧ w'.cell? (ad448.add (((ji21)).toNat * 3)) = some (.string ((rd_TGap l1 (ji21)).f0)) ∧ w'.cell? ⟨(ad448.add (((ji21)).toNat * 3)).block, (ad448.add (((ji21)).toNat * 3)).off + 1, none⟩ = some (.string ((rd_TGap l1 (ji21)).f1)) ∧ w'.cell? ⟨(ad448.add (((ji21)).toNat * 3)).block, (ad448.add (((ji21)).toNat * 3)).off + 2, none⟩ = some (.slice A452_2 ((rd_TGap l1 (ji21)).f2).length c452_2) ∧ w'.cell? (ad448.add (((ji28)).toNat * 3)) = some (.string ((rd_TGap l1 (ji28)).f0)) ∧ w'.cell? ⟨(ad448.add (((ji28)).toNat * 3)).block, (ad448.add (((ji28)).toNat * 3)).off + 1, none⟩ = some (.string ((rd_TGap l1 (ji28)).f1)) ∧ w'.cell? ⟨(ad448.add (((ji28)).toNat * 3)).block, (ad448.add (((ji28)).toNat * 3)).off + 2, none⟩ = some (.slice A454_2 ((rd_TGap l1 (ji28)).f2).length c454_2)) (ds := []) #[false, false, false, false, false, false, false, false, false, false, false, false, false, false, false, false, false, false, false, false, false, false, false, false, false, false, false, false, false, false, false, false, false, false, false, false, false, false, false, false, false, false, false, false, false, false, false] KR rfl rfl ⟨bc 0 BK449, bc 1 BK449, bc 2 BK449, ((HB.out.cell (World.block_lt_of_cell? w _ hw452_0)).trans hw452_0), ((HB.out.cell (World.block_lt_of_cell? w _ hw452_1)).trans hw452_1), ((HB.out.cell (World.block_lt_of_cell? w _ hw452_2)).trans hw452_2), ((HB.out.cell (World.block_lt_of_cell? w _ hw454_0)).trans hw454_0), ((HB.out.cell (World.block_lt_of_cell? w _ hw454_1)).trans hw454_1), ((HB.out.cell (World.block_lt_of_cell? w _ hw454_2)).trans hw454_2)⟩ (fun hHeld => ?_); refine with_tabW impl_GoodGaps.tab6 impl_GoodGaps.bits6 (fun HT_ HW_ => ?_)
             generalize w42.drew = w43 at BK449 HB HR452_2 HR454_2 hx452_0 hx452_1 hx452_2 hx454_0 hx454_1 hx454_2 hHeld ⊢
             refine pA 0 31 (mL 47 1) HT_ rfl rfl ?_
             refine tA 1 32 (mL 47 3) HT_ HW_ hHeld rfl rfl (by rintro w' ⟨s0, s1, s2, s3, s4, s5, s6, s7, s8⟩; go_simp; with_reducible rfl) ?_
             refine one_ (i := 2) (N := some 33) (mL 47 7) rfl rfl (one_of HT_.out KR) (by decide) (fun K hK => ?_)
             refine goes_ Tryd.func58 KR rfl #[.string ((rd_TGap l1 x26_2).f0)] (by rfl) rfl rfl TA ?_
             with_reducible refine (impl_GoodName.calls k2 ((rd_TGap l1 x26_2).f0) true _ A16.out).mono ?_
             rintro e w44 ⟨rfl, hb⟩
             refine ⟨_, rfl, ?_⟩
             replace BK449 := KB BK449 hb
             replace HB := BS hb
             (try clear hb)
             (try clear hb2)
             (try clear hk)
             (try clear hi)
             refine hK.out _ _ ⟨bc 0 BK449, bc 1 BK449, bc 2 BK449, ((HB.out.cell (World.block_lt_of_cell? w _ hw452_0)).trans hw452_0), ((HB.out.cell (World.block_lt_of_cell? w _ hw452_1)).trans hw452_1), ((HB.out.cell (World.block_lt_of_cell? w _ hw452_2)).trans hw452_2), ((HB.out.cell (World.block_lt_of_cell? w _ hw454_0)).trans hw454_0), ((HB.out.cell (World.block_lt_of_cell? w _ hw454_1)).trans hw454_1), ((HB.out.cell (World.block_lt_of_cell? w _ hw454_2)).trans hw454_2)⟩ (fun hHeld => ?_)
             clear hK K
             refine nA ?_
             refine pA 3 34 (mL 47 15) HT_ rfl rfl ?_
             refine pA 4 35 (mL 47 31) HT_ rfl rfl ?_
             refine pA 5 36 (mL 47 63) HT_ rfl rfl ?_
             refine pA 7 38 (mL 47 191) HT_ rfl rfl ?_
             refine tA 6 37 (mL 47 255) HT_ HW_ hHeld rfl rfl (by rintro w' ⟨s0, s1, s2, s3, s4, s5, s6, s7, s8⟩; go_simp; with_reducible rfl) ?_
             refine one_ (i := 8) (N := some 39) (mL 47 511) rfl rfl (one_of HT_.out KR) (by decide) (fun K hK => ?_)
             refine goes_ Tryd.func77 KR rfl #[.string ((rd_TGap l1 x26_2).f0), .string a0] (by rfl) rfl rfl TA ?_
             with_reducible refine (impl_isBelow.calls ((rd_TGap l1 x26_2).f0) a0 true _ A18.out).mono ?_
             rintro e w' ⟨rfl, ⟨nd, rfl⟩⟩
             refine ⟨_, rfl, ?_⟩
             refine hK.out _ _ ⟨bc 0 BK449, bc 1 BK449, bc 2 BK449, ((HB.out.cell (World.block_lt_of_cell? w _ hw452_0)).trans hw452_0), ((HB.out.cell (World.block_lt_of_cell? w _ hw452_1)).trans hw452_1), ((HB.out.cell (World.block_lt_of_cell? w _ hw452_2)).trans hw452_2), ((HB.out.cell (World.block_lt_of_cell? w _ hw454_0)).trans hw454_0), ((HB.out.cell (World.block_lt_of_cell? w _ hw454_1)).trans hw454_1), ((HB.out.cell (World.block_lt_of_cell? w _ hw454_2)).trans hw454_2)⟩ (fun hHeld => ?_)
             clear hK K
             refine nA ?_
             refine pA 9 40 (mL 47 1023) HT_ rfl rfl ?_
             refine pA 10 41 (mL 47 2047) HT_ rfl rfl ?_
             refine pA 11 42 (mL 47 4095) HT_ rfl rfl ?_
             refine pA 12 43 (mL 47 8191) HT_ rfl rfl ?_
             refine pA 14 45 (mL 47 24575) HT_ rfl rfl ?_
             refine pA 15 46 (mL 47 57343) HT_ rfl rfl ?_
             refine pA 16 47 (mL 47 122879) HT_ rfl rfl ?_
             refine pA 17 48 (mL 47 253951) HT_ rfl rfl ?_
             refine pA 18 49 (mL 47 516095) HT_ rfl rfl ?_
             refine pA 19 50 (mL 47 1040383) HT_ rfl rfl ?_
             refine pA 20 51 (mL 47 2088959) HT_ rfl rfl ?_
             refine pA 21 52 (mL 47 4186111) HT_ rfl rfl ?_
             refine tA 13 44 (mL 47 4194303) HT_ HW_ hHeld rfl rfl (by rintro w' ⟨s0, s1, s2, s3, s4, s5, s6, s7, s8⟩; go_simp; with_reducible rfl) ?_
             refine tA 22 53 (mL 47 8388607) HT_ HW_ hHeld rfl rfl (by rintro w' ⟨s0, s1, s2, s3, s4, s5, s6, s7, s8⟩; go_simp; with_reducible rfl) ?_
             refine pA 23 54 (mL 47 16777215) HT_ rfl rfl ?_
             refine pA 24 55 (mL 47 33554431) HT_ rfl rfl ?_
             refine pA 25 56 (mL 47 67108863) HT_ rfl rfl ?_
             refine pA 26 57 (mL 47 134217727) HT_ rfl rfl ?_
             refine tA 27 58 (mL 47 268435455) HT_ HW_ hHeld rfl rfl (by rintro w' ⟨s0, s1, s2, s3, s4, s5, s6, s7, s8⟩; go_simp; with_reducible rfl) ?_
             refine one_ (i := 28) (N := some 59) (mL 47 536870911) rfl rfl (one_of HT_.out KR) (by decide) (fun K hK => ?_)
             refine goes_ Tryd.func78 KR rfl #[.slice A448_2 ((rd_TGap l1 x26_2).f2).length c448_2] (by rfl) rfl rfl TA ?_
             with_reducible refine (impl_areTypes.calls k2 _ _ ((rd_TGap l1 x26_2).f2) true _ ?side1 ?side2 A25.out).mono ?_
             (case side1 => exact CW ((Kd.C_below HR448_2.out TB)))
             (case side2 => exact HC448_2.out)
             rintro e w45 ⟨rfl, hb⟩
             refine ⟨_, rfl, ?_⟩
             replace BK449 := KB BK449 hb
             replace HB := BS hb
             (try clear hb)
             (try clear hb2)
             (try clear hk)
             (try clear hi)
             refine hK.out _ _ ⟨bc 0 BK449, bc 1 BK449, bc 2 BK449, ((HB.out.cell (World.block_lt_of_cell? w _ hw452_0)).trans hw452_0), ((HB.out.cell (World.block_lt_of_cell? w _ hw452_1)).trans hw452_1), ((HB.out.cell (World.block_lt_of_cell? w _ hw452_2)).trans hw452_2), ((HB.out.cell (World.block_lt_of_cell? w _ hw454_0)).trans hw454_0), ((HB.out.cell (World.block_lt_of_cell? w _ hw454_1)).trans hw454_1), ((HB.out.cell (World.block_lt_of_cell? w _ hw454_2)).trans hw454_2)⟩ (fun hHeld => ?_)
             clear hK K
             refine nA ?_
             refine pA 29 60 (mL 47 1073741823) HT_ rfl rfl ?_
             refine pA 30 61 (mL 47 2147483647) HT_ rfl rfl ?_
             refine pA 31 62 (mL 47 4294967295) HT_ rfl rfl ?_
             refine pA 32 63 (mL 47 8589934591) HT_ rfl rfl ?_
             refine pA 33 64 (mL 47 17179869183) HT_ rfl rfl ?_
             refine pA 34 65 (mL 47 34359738367) HT_ rfl rfl ?_
             refine pA 35 66 (mL 47 68719476735) HT_ rfl rfl ?_
             refine pA 36 67 (mL 47 137438953471) HT_ rfl rfl ?_
             refine pA 37 68 (mL 47 274877906943) HT_ rfl rfl ?_
             refine pA 38 69 (mL 47 549755813887) HT_ rfl rfl ?_
             refine pA 39 70 (mL 47 1099511627775) HT_ rfl rfl ?_
             refine pA 41 72 (mL 47 3298534883327) HT_ rfl rfl ?_
             refine tA 40 71 (mL 47 4398046511103) HT_ HW_ hHeld rfl rfl (by rintro w' ⟨s0, s1, s2, s3, s4, s5, s6, s7, s8⟩; go_simp; with_reducible rfl) ?_
             refine tA 42 73 (mL 47 8796093022207) HT_ HW_ hHeld rfl rfl (by rintro w' ⟨s0, s1, s2, s3, s4, s5, s6, s7, s8⟩; go_simp; with_reducible rfl) ?_
             refine one_ (i := 43) (N := some 74) (mL 47 17592186044415) rfl rfl (one_of HT_.out KR) (by decide) (fun K hK => ?_)
             refine goes_ Tryd.func79 KR rfl #[.string ((rd_TGap l1 (ji28)).f0), .string ((rd_TGap l1 x26_2).f0)] (by rfl) rfl rfl (by (try simp only [List.map_toArray, List.map_cons, List.map_nil]); first | done | (simp only [hji28]; rfl) | rfl | (simp only [List.length_drop, List.length_take]; rfl)) ?_
             with_reducible refine (impl_compareNames.calls k2 ((rd_TGap l1 (ji28)).f0) ((rd_TGap l1 x26_2).f0) t455 _ A31.out).mono ?_
             rintro e w46 ⟨rfl, hb⟩
             refine ⟨_, rfl, ?_⟩
             replace BK449 := KB BK449 hb
             replace HB := BS hb
             (try clear hb)
             (try clear hb2)
             (try clear hk)
             (try clear hi)
             refine hK.out _ _ ⟨bc 0 BK449, bc 1 BK449, bc 2 BK449, ((HB.out.cell (World.block_lt_of_cell? w _ hw452_0)).trans hw452_0), ((HB.out.cell (World.block_lt_of_cell? w _ hw452_1)).trans hw452_1), ((HB.out.cell (World.block_lt_of_cell? w _ hw452_2)).trans hw452_2), ((HB.out.cell (World.block_lt_of_cell? w _ hw454_0)).trans hw454_0), ((HB.out.cell (World.block_lt_of_cell? w _ hw454_1)).trans hw454_1), ((HB.out.cell (World.block_lt_of_cell? w _ hw454_2)).trans hw454_2)⟩ (fun hHeld => ?_)
             clear hK K
             refine nA ?_
             refine pA 44 75 (mL 47 35184372088831) HT_ rfl rfl ?_
             refine pA 45 76 (mL 47 70368744177663) HT_ rfl rfl ?_
             refine pA 46 77 (mL 47 140737488355327) HT_ rfl rfl ?_
             refine done_ (done_of HT_.out KR) ?_
             try go_wp2
             go_roundg k2
             case measure => have := HJ2.out; have := HK2.out; omega
             case rel => exact ⟨(wrap64 (x26_2 + 1)), TF, H', ⟨by have := HJ2.out; have := HK2.out; omega⟩, ⟨TB⟩⟩
           ·rw [if_neg c27] at H
            have c27b0 : decide (0 < x26_2) = false := decide_eq_false c27
            clear c27
            have H' := Aside0.mk H
            clear H
            have p448 : 0 ≤ (x26_2 : Int) := TD
            have q448 : x26_2 < (l1.length : Int) := TD
            obtain ⟨ad448, A448_2, c448_2, e448, hx448_0, hx448_1, hx448_2, hl448_2, hi448_2⟩ := at_TGap HR1.out x26_2 p448 q448
            have hw448_2 := hx448_2
            cases e448
            replace hx448_0 := hBc HB hx448_0
            replace hx448_1 := hBc HB hx448_1
            replace hx448_2 := hBc HB hx448_2
            have HR448_2 := Aside0.mk hi448_2
            have HC448_2 := Aside0.mk hl448_2
            clear hi448_2 hl448_2
            replace p448 := eq_true p448
            replace q448 := eq_true q448
            try go_wp2_with (first | ((with_reducible refine gate_dst (N := 6) rfl ?_); (try (refine gate_guard (by rfl) ?_; dsimp only)); refine bE 6 #[.string (⟨#[]⟩ : ByteArray), .string (⟨#[]⟩ : ByteArray), .slice none 0 0] 44 ?_; intro gb449 hg w47 hbox hb; have BK449 := Aside0.mk (hbox); have GE449 := bG hg; replace HB := BS hb; clear hb hbox hg; have hcz48 := cz3 BK449))
            have n0_ : Aside0 ((((w47.setCell ⟨gb449, 0, none⟩ (.string ((rd_TGap l1 x26_2).f0))).setCell ⟨gb449, 1, none⟩ (.string ((rd_TGap l1 x26_2).f1))).setCell ⟨gb449, 2, none⟩ (.slice A448_2 ((rd_TGap l1 x26_2).f2).length c448_2)).heap[gb449]? = some (.cells #[.string ((rd_TGap l1 x26_2).f0), .string ((rd_TGap l1 x26_2).f1), .slice A448_2 ((rd_TGap l1 x26_2).f2).length c448_2] 44 (0, 0))) := ⟨TS⟩
            have n1_ : Aside0 (Below w.heap.size w (((w47.setCell ⟨gb449, 0, none⟩ (.string ((rd_TGap l1 x26_2).f0))).setCell ⟨gb449, 1, none⟩ (.string ((rd_TGap l1 x26_2).f1))).setCell ⟨gb449, 2, none⟩ (.slice A448_2 ((rd_TGap l1 x26_2).f2).length c448_2))) := ⟨TB⟩
            (try clear BK449)
            (try clear HB)
            generalize (((w47.setCell ⟨gb449, 0, none⟩ (.string ((rd_TGap l1 x26_2).f0))).setCell ⟨gb449, 1, none⟩ (.string ((rd_TGap l1 x26_2).f1))).setCell ⟨gb449, 2, none⟩ (.slice A448_2 ((rd_TGap l1 x26_2).f2).length c448_2)) = w49 at n0_ n1_ ⊢
            have BK449 := n0_
            have HB := n1_
            clear n0_ n1_
            replace BK449 := Aside0.mk (blk_drew BK449.out)
            replace HB := Aside0.mk (below_drew1 HB.out)
            have p452 : 0 ≤ ((ji21) : Int) := TD
            have q452 : (ji21) < (l1.length : Int) := TD
            obtain ⟨ad452, A452_2, c452_2, e452, hx452_0, hx452_1, hx452_2, hl452_2, hi452_2⟩ := at_TGap HR1.out (ji21) p452 q452
            have hw452_2 := hx452_2
            have hw452_1 := hx452_1
            have hw452_0 := hx452_0
            obtain rfl : ad448 = ad452 := (by injection e452)
            replace hx452_0 := hBc HB hx452_0
            replace hx452_1 := hBc HB hx452_1
            replace hx452_2 := hBc HB hx452_2
            have HR452_2 := Aside0.mk hi452_2
            have HC452_2 := Aside0.mk hl452_2
            clear hi452_2 hl452_2
            replace p452 := eq_true p452
            replace q452 := eq_true q452
            refine start_ (n := 47) (S := fun w' => w'.cell? ⟨gb449, 0, none⟩ = some (.string ((rd_TGap l1 x26_2).f0)) ∧ w'.cell? ⟨gb449, 1, none⟩ = some (.string ((rd_TGap l1 x26_2).f1)) ∧ w'.cell? ⟨gb449, 2, none⟩ = some (.slice A448_2 ((rd_TGap l1 x26_2).f2).length c448_2) ∧ w'.cell? (ad448.add (((ji21)).toNat * 3)) = some (.string ((rd_TGap l1 (ji21)).f0)) ∧ w'.cell? ⟨(ad448.add (((ji21)).toNat * 3)).block, (ad448.add (((ji21)).toNat * 3)).off + 1, none⟩ = some (.string ((rd_TGap l1 (ji21)).f1)) ∧ w'.cell? ⟨(ad448.add (((ji21)).toNat * 3)).block, (ad448.add (((ji21)).toNat * 3)).off + 2, none⟩ = some (.slice A452_2 ((rd_TGap l1 (ji21)).f2).length c452_2)) (ds := []) #[false, false, false, false, false, false, false, false, false, false, false, false, false, false, false, false, false, false, false, false, false, false, false, false, false, false, false, false, false, false, false, false, false, false, false, false, false, false, false, false, false, false, false, false, false, false, false] KR rfl rfl ⟨bc 0 BK449, bc 1 BK449, bc 2 BK449, ((HB.out.cell (World.block_lt_of_cell? w _ hw452_0)).trans hw452_0), ((HB.out.cell (World.block_lt_of_cell? w _ hw452_1)).trans hw452_1), ((HB.out.cell (World.block_lt_of_cell? w _ hw452_2)).trans hw452_2)⟩ (fun hHeld => ?_); refine with_tabW impl_GoodGaps.tab6 impl_GoodGaps.bits6 (fun HT_ HW_ => ?_)
            generalize w49.drew = w50 at BK449 HB HR452_2 hx452_0 hx452_1 hx452_2 hHeld ⊢
            refine pA 0 31 (mL 47 1) HT_ rfl rfl ?_
            refine tA 1 32 (mL 47 3) HT_ HW_ hHeld rfl rfl (by rintro w' ⟨s0, s1, s2, s3, s4, s5⟩; go_simp; with_reducible rfl) ?_
            refine one_ (i := 2) (N := some 33) (mL 47 7) rfl rfl (one_of HT_.out KR) (by decide) (fun K hK => ?_)
            refine goes_ Tryd.func58 KR rfl #[.string ((rd_TGap l1 x26_2).f0)] (by rfl) rfl rfl TA ?_
            with_reducible refine (impl_GoodName.calls k2 ((rd_TGap l1 x26_2).f0) true _ A16.out).mono ?_
            rintro e w51 ⟨rfl, hb⟩
            refine ⟨_, rfl, ?_⟩
            replace BK449 := KB BK449 hb
            replace HB := BS hb
            (try clear hb)
            (try clear hb2)
            (try clear hk)
            (try clear hi)
            refine hK.out _ _ ⟨bc 0 BK449, bc 1 BK449, bc 2 BK449, ((HB.out.cell (World.block_lt_of_cell? w _ hw452_0)).trans hw452_0), ((HB.out.cell (World.block_lt_of_cell? w _ hw452_1)).trans hw452_1), ((HB.out.cell (World.block_lt_of_cell? w _ hw452_2)).trans hw452_2)⟩ (fun hHeld => ?_)
            clear hK K
            refine nA ?_
            refine pA 3 34 (mL 47 15) HT_ rfl rfl ?_
            refine pA 4 35 (mL 47 31) HT_ rfl rfl ?_
            refine pA 5 36 (mL 47 63) HT_ rfl rfl ?_
            refine pA 7 38 (mL 47 191) HT_ rfl rfl ?_
            refine tA 6 37 (mL 47 255) HT_ HW_ hHeld rfl rfl (by rintro w' ⟨s0, s1, s2, s3, s4, s5⟩; go_simp; with_reducible rfl) ?_
            refine one_ (i := 8) (N := some 39) (mL 47 511) rfl rfl (one_of HT_.out KR) (by decide) (fun K hK => ?_)
            refine goes_ Tryd.func77 KR rfl #[.string ((rd_TGap l1 x26_2).f0), .string a0] (by rfl) rfl rfl TA ?_
            with_reducible refine (impl_isBelow.calls ((rd_TGap l1 x26_2).f0) a0 true _ A18.out).mono ?_
            rintro e w' ⟨rfl, ⟨nd, rfl⟩⟩
            refine ⟨_, rfl, ?_⟩
            refine hK.out _ _ ⟨bc 0 BK449, bc 1 BK449, bc 2 BK449, ((HB.out.cell (World.block_lt_of_cell? w _ hw452_0)).trans hw452_0), ((HB.out.cell (World.block_lt_of_cell? w _ hw452_1)).trans hw452_1), ((HB.out.cell (World.block_lt_of_cell? w _ hw452_2)).trans hw452_2)⟩ (fun hHeld => ?_)
            clear hK K
            refine nA ?_
            refine pA 9 40 (mL 47 1023) HT_ rfl rfl ?_
            refine pA 10 41 (mL 47 2047) HT_ rfl rfl ?_
            refine pA 11 42 (mL 47 4095) HT_ rfl rfl ?_
            refine pA 12 43 (mL 47 8191) HT_ rfl rfl ?_
            refine pA 14 45 (mL 47 24575) HT_ rfl rfl ?_
            refine pA 15 46 (mL 47 57343) HT_ rfl rfl ?_
            refine pA 16 47 (mL 47 122879) HT_ rfl rfl ?_
            refine pA 17 48 (mL 47 253951) HT_ rfl rfl ?_
            refine pA 18 49 (mL 47 516095) HT_ rfl rfl ?_
            refine pA 19 50 (mL 47 1040383) HT_ rfl rfl ?_
            refine pA 20 51 (mL 47 2088959) HT_ rfl rfl ?_
            refine pA 21 52 (mL 47 4186111) HT_ rfl rfl ?_
            refine tA 13 44 (mL 47 4194303) HT_ HW_ hHeld rfl rfl (by rintro w' ⟨s0, s1, s2, s3, s4, s5⟩; go_simp; with_reducible rfl) ?_
            refine tA 22 53 (mL 47 8388607) HT_ HW_ hHeld rfl rfl (by rintro w' ⟨s0, s1, s2, s3, s4, s5⟩; go_simp; with_reducible rfl) ?_
            refine pA 23 54 (mL 47 16777215) HT_ rfl rfl ?_
            refine pA 24 55 (mL 47 33554431) HT_ rfl rfl ?_
            refine pA 25 56 (mL 47 67108863) HT_ rfl rfl ?_
            refine pA 26 57 (mL 47 134217727) HT_ rfl rfl ?_
            refine tA 27 58 (mL 47 268435455) HT_ HW_ hHeld rfl rfl (by rintro w' ⟨s0, s1, s2, s3, s4, s5⟩; go_simp; with_reducible rfl) ?_
            refine one_ (i := 28) (N := some 59) (mL 47 536870911) rfl rfl (one_of HT_.out KR) (by decide) (fun K hK => ?_)
            refine goes_ Tryd.func78 KR rfl #[.slice A448_2 ((rd_TGap l1 x26_2).f2).length c448_2] (by rfl) rfl rfl TA ?_
            with_reducible refine (impl_areTypes.calls k2 _ _ ((rd_TGap l1 x26_2).f2) true _ ?side1 ?side2 A25.out).mono ?_
            (case side1 => exact CW ((Kd.C_below HR448_2.out TB)))
            (case side2 => exact HC448_2.out)
            rintro e w52 ⟨rfl, hb⟩
            refine ⟨_, rfl, ?_⟩
            replace BK449 := KB BK449 hb
            replace HB := BS hb
            (try clear hb)
            (try clear hb2)
            (try clear hk)
            (try clear hi)
            refine hK.out _ _ ⟨bc 0 BK449, bc 1 BK449, bc 2 BK449, ((HB.out.cell (World.block_lt_of_cell? w _ hw452_0)).trans hw452_0), ((HB.out.cell (World.block_lt_of_cell? w _ hw452_1)).trans hw452_1), ((HB.out.cell (World.block_lt_of_cell? w _ hw452_2)).trans hw452_2)⟩ (fun hHeld => ?_)
            clear hK K
            refine nA ?_
            refine pA 29 60 (mL 47 1073741823) HT_ rfl rfl ?_
            refine pA 30 61 (mL 47 2147483647) HT_ rfl rfl ?_
            refine pA 31 62 (mL 47 4294967295) HT_ rfl rfl ?_
            refine pA 32 63 (mL 47 8589934591) HT_ rfl rfl ?_
            refine pA 33 64 (mL 47 17179869183) HT_ rfl rfl ?_
            refine pA 34 65 (mL 47 34359738367) HT_ rfl rfl ?_
            refine pU 35 66 (mL 47 68719476735) HT_ rfl rfl ?_
            refine pU 36 67 (mL 47 137438953471) HT_ rfl rfl ?_
            refine pU 37 68 (mL 47 274877906943) HT_ rfl rfl ?_
            refine pU 38 69 (mL 47 549755813887) HT_ rfl rfl ?_
            refine pU 39 70 (mL 47 1099511627775) HT_ rfl rfl ?_
            refine pU 40 71 (mL 47 2199023255551) HT_ rfl rfl ?_
            refine pU 41 72 (mL 47 4398046511103) HT_ rfl rfl ?_
            refine pU 42 73 (mL 47 8796093022207) HT_ rfl rfl ?_
            refine pU 43 74 (mL 47 17592186044415) HT_ rfl rfl ?_
            refine pU 44 75 (mL 47 35184372088831) HT_ rfl rfl ?_
            refine pA 45 76 (mL 47 70368744177663) HT_ rfl rfl ?_
            refine pA 46 77 (mL 47 140737488355327) HT_ rfl rfl ?_
            refine done_ (done_of HT_.out KR) ?_
            try go_wp2
            go_roundg k2
            case measure => have := HJ2.out; have := HK2.out; omega
            case rel => exact ⟨(wrap64 (x26_2 + 1)), TF, H', ⟨by have := HJ2.out; have := HK2.out; omega⟩, ⟨TB⟩⟩
          ·replace c26 := Bool.eq_false_iff.mpr c26
           subst c26
           replace H := iff' H
           obtain rfl := Option.some.inj H
           have p448 : 0 ≤ (x26_2 : Int) := TD
           have q448 : x26_2 < (l1.length : Int) := TD
           obtain ⟨ad448, A448_2, c448_2, e448, hx448_0, hx448_1, hx448_2, hl448_2, hi448_2⟩ := at_TGap HR1.out x26_2 p448 q448
           have hw448_2 := hx448_2
           cases e448
           replace hx448_0 := hBc HB hx448_0
           replace hx448_1 := hBc HB hx448_1
           replace hx448_2 := hBc HB hx448_2
           have HR448_2 := Aside0.mk hi448_2
           have HC448_2 := Aside0.mk hl448_2
           clear hi448_2 hl448_2
           replace p448 := eq_true p448
           replace q448 := eq_true q448
           try go_wp2_with (first | ((with_reducible refine gate_dst (N := 6) rfl ?_); (try (refine gate_guard (by rfl) ?_; dsimp only)); refine bE 6 #[.string (⟨#[]⟩ : ByteArray), .string (⟨#[]⟩ : ByteArray), .slice none 0 0] 44 ?_; intro gb449 hg w53 hbox hb; have BK449 := Aside0.mk (hbox); have GE449 := bG hg; replace HB := BS hb; clear hb hbox hg; have hcz54 := cz3 BK449))
           have n0_ : Aside0 ((((w53.setCell ⟨gb449, 0, none⟩ (.string ((rd_TGap l1 x26_2).f0))).setCell ⟨gb449, 1, none⟩ (.string ((rd_TGap l1 x26_2).f1))).setCell ⟨gb449, 2, none⟩ (.slice A448_2 ((rd_TGap l1 x26_2).f2).length c448_2)).heap[gb449]? = some (.cells #[.string ((rd_TGap l1 x26_2).f0), .string ((rd_TGap l1 x26_2).f1), .slice A448_2 ((rd_TGap l1 x26_2).f2).length c448_2] 44 (0, 0))) := ⟨TS⟩
           have n1_ : Aside0 (Below w.heap.size w (((w53.setCell ⟨gb449, 0, none⟩ (.string ((rd_TGap l1 x26_2).f0))).setCell ⟨gb449, 1, none⟩ (.string ((rd_TGap l1 x26_2).f1))).setCell ⟨gb449, 2, none⟩ (.slice A448_2 ((rd_TGap l1 x26_2).f2).length c448_2))) := ⟨TB⟩
           (try clear BK449)
           (try clear HB)
           generalize (((w53.setCell ⟨gb449, 0, none⟩ (.string ((rd_TGap l1 x26_2).f0))).setCell ⟨gb449, 1, none⟩ (.string ((rd_TGap l1 x26_2).f1))).setCell ⟨gb449, 2, none⟩ (.slice A448_2 ((rd_TGap l1 x26_2).f2).length c448_2)) = w55 at n0_ n1_ ⊢
           have BK449 := n0_
           have HB := n1_
           clear n0_ n1_
           replace BK449 := Aside0.mk (blk_drew BK449.out)
           replace HB := Aside0.mk (below_drew1 HB.out)
           have p452 : 0 ≤ ((ji21) : Int) := TD
           have q452 : (ji21) < (l1.length : Int) := TD
           obtain ⟨ad452, A452_2, c452_2, e452, hx452_0, hx452_1, hx452_2, hl452_2, hi452_2⟩ := at_TGap HR1.out (ji21) p452 q452
           have hw452_2 := hx452_2
           have hw452_1 := hx452_1
           have hw452_0 := hx452_0
           obtain rfl : ad448 = ad452 := (by injection e452)
           replace hx452_0 := hBc HB hx452_0
           replace hx452_1 := hBc HB hx452_1
           replace hx452_2 := hBc HB hx452_2
           have HR452_2 := Aside0.mk hi452_2
           have HC452_2 := Aside0.mk hl452_2
           clear hi452_2 hl452_2
           replace p452 := eq_true p452
           replace q452 := eq_true q452
           refine start_ (n := 47) (S := fun w' => w'.cell? ⟨gb449, 0, none⟩ = some (.string ((rd_TGap l1 x26_2).f0)) ∧ w'.cell? ⟨gb449, 1, none⟩ = some (.string ((rd_TGap l1 x26_2).f1)) ∧ w'.cell? ⟨gb449, 2, none⟩ = some (.slice A448_2 ((rd_TGap l1 x26_2).f2).length c448_2) ∧ w'.cell? (ad448.add (((ji21)).toNat * 3)) = some (.string ((rd_TGap l1 (ji21)).f0)) ∧ w'.cell? ⟨(ad448.add (((ji21)).toNat * 3)).block, (ad448.add (((ji21)).toNat * 3)).off + 1, none⟩ = some (.string ((rd_TGap l1 (ji21)).f1)) ∧ w'.cell? ⟨(ad448.add (((ji21)).toNat * 3)).block, (ad448.add (((ji21)).toNat * 3)).off + 2, none⟩ = some (.slice A452_2 ((rd_TGap l1 (ji21)).f2).length c452_2)) (ds := []) #[false, false, false, false, false, false, false, false, false, false, false, false, false, false, false, false, false, false, false, false, false, false, false, false, false, false, false, false, false, false, false, false, false, false, false, false, false, false, false, false, false, false, false, false, false, false, false] KR rfl rfl ⟨bc 0 BK449, bc 1 BK449, bc 2 BK449, ((HB.out.cell (World.block_lt_of_cell? w _ hw452_0)).trans hw452_0), ((HB.out.cell (World.block_lt_of_cell? w _ hw452_1)).trans hw452_1), ((HB.out.cell (World.block_lt_of_cell? w _ hw452_2)).trans hw452_2)⟩ (fun hHeld => ?_); refine with_tabW impl_GoodGaps.tab6 impl_GoodGaps.bits6 (fun HT_ HW_ => ?_)
           generalize w55.drew = w56 at BK449 HB HR452_2 hx452_0 hx452_1 hx452_2 hHeld ⊢
           refine pA 0 31 (mL 47 1) HT_ rfl rfl ?_
           refine tA 1 32 (mL 47 3) HT_ HW_ hHeld rfl rfl (by rintro w' ⟨s0, s1, s2, s3, s4, s5⟩; go_simp; with_reducible rfl) ?_
           refine one_ (i := 2) (N := some 33) (mL 47 7) rfl rfl (one_of HT_.out KR) (by decide) (fun K hK => ?_)
           refine goes_ Tryd.func58 KR rfl #[.string ((rd_TGap l1 x26_2).f0)] (by rfl) rfl rfl TA ?_
           with_reducible refine (impl_GoodName.calls k2 ((rd_TGap l1 x26_2).f0) true _ A16.out).mono ?_
           rintro e w57 ⟨rfl, hb⟩
           refine ⟨_, rfl, ?_⟩
           replace BK449 := KB BK449 hb
           replace HB := BS hb
           (try clear hb)
           (try clear hb2)
           (try clear hk)
           (try clear hi)
           refine hK.out _ _ ⟨bc 0 BK449, bc 1 BK449, bc 2 BK449, ((HB.out.cell (World.block_lt_of_cell? w _ hw452_0)).trans hw452_0), ((HB.out.cell (World.block_lt_of_cell? w _ hw452_1)).trans hw452_1), ((HB.out.cell (World.block_lt_of_cell? w _ hw452_2)).trans hw452_2)⟩ (fun hHeld => ?_)
           clear hK K
           refine nA ?_
           refine pA 3 34 (mL 47 15) HT_ rfl rfl ?_
           refine pA 4 35 (mL 47 31) HT_ rfl rfl ?_
           refine pA 5 36 (mL 47 63) HT_ rfl rfl ?_
           refine pA 7 38 (mL 47 191) HT_ rfl rfl ?_
           refine tA 6 37 (mL 47 255) HT_ HW_ hHeld rfl rfl (by rintro w' ⟨s0, s1, s2, s3, s4, s5⟩; go_simp; with_reducible rfl) ?_
           refine one_ (i := 8) (N := some 39) (mL 47 511) rfl rfl (one_of HT_.out KR) (by decide) (fun K hK => ?_)
           refine goes_ Tryd.func77 KR rfl #[.string ((rd_TGap l1 x26_2).f0), .string a0] (by rfl) rfl rfl TA ?_
           with_reducible refine (impl_isBelow.calls ((rd_TGap l1 x26_2).f0) a0 true _ A18.out).mono ?_
           rintro e w' ⟨rfl, ⟨nd, rfl⟩⟩
           refine ⟨_, rfl, ?_⟩
           refine hK.out _ _ ⟨bc 0 BK449, bc 1 BK449, bc 2 BK449, ((HB.out.cell (World.block_lt_of_cell? w _ hw452_0)).trans hw452_0), ((HB.out.cell (World.block_lt_of_cell? w _ hw452_1)).trans hw452_1), ((HB.out.cell (World.block_lt_of_cell? w _ hw452_2)).trans hw452_2)⟩ (fun hHeld => ?_)
           clear hK K
           refine nA ?_
           refine pA 9 40 (mL 47 1023) HT_ rfl rfl ?_
           refine pA 10 41 (mL 47 2047) HT_ rfl rfl ?_
           refine pA 11 42 (mL 47 4095) HT_ rfl rfl ?_
           refine pA 12 43 (mL 47 8191) HT_ rfl rfl ?_
           refine pA 14 45 (mL 47 24575) HT_ rfl rfl ?_
           refine pA 15 46 (mL 47 57343) HT_ rfl rfl ?_
           refine pA 16 47 (mL 47 122879) HT_ rfl rfl ?_
           refine pA 17 48 (mL 47 253951) HT_ rfl rfl ?_
           refine pA 18 49 (mL 47 516095) HT_ rfl rfl ?_
           refine pA 19 50 (mL 47 1040383) HT_ rfl rfl ?_
           refine pA 20 51 (mL 47 2088959) HT_ rfl rfl ?_
           refine pA 21 52 (mL 47 4186111) HT_ rfl rfl ?_
           refine tA 13 44 (mL 47 4194303) HT_ HW_ hHeld rfl rfl (by rintro w' ⟨s0, s1, s2, s3, s4, s5⟩; go_simp; with_reducible rfl) ?_
           refine tA 22 53 (mL 47 8388607) HT_ HW_ hHeld rfl rfl (by rintro w' ⟨s0, s1, s2, s3, s4, s5⟩; go_simp; with_reducible rfl) ?_
           refine pA 23 54 (mL 47 16777215) HT_ rfl rfl ?_
           refine pA 24 55 (mL 47 33554431) HT_ rfl rfl ?_
           refine pA 25 56 (mL 47 67108863) HT_ rfl rfl ?_
           refine pA 26 57 (mL 47 134217727) HT_ rfl rfl ?_
           refine tA 27 58 (mL 47 268435455) HT_ HW_ hHeld rfl rfl (by rintro w' ⟨s0, s1, s2, s3, s4, s5⟩; go_simp; with_reducible rfl) ?_
           refine one_ (i := 28) (N := some 59) (mL 47 536870911) rfl rfl (one_of HT_.out KR) (by decide) (fun K hK => ?_)
           refine goes_ Tryd.func78 KR rfl #[.slice A448_2 ((rd_TGap l1 x26_2).f2).length c448_2] (by rfl) rfl rfl TA ?_
           with_reducible refine (impl_areTypes.calls k2 _ _ ((rd_TGap l1 x26_2).f2) false _ ?side1 ?side2 A25.out).mono ?_
           (case side1 => exact CW ((Kd.C_below HR448_2.out TB)))
           (case side2 => exact HC448_2.out)
           rintro e w58 ⟨rfl, hb⟩
           refine ⟨_, rfl, ?_⟩
           replace BK449 := KB BK449 hb
           replace HB := BS hb
           (try clear hb)
           (try clear hb2)
           (try clear hk)
           (try clear hi)
           refine hK.out _ _ ⟨bc 0 BK449, bc 1 BK449, bc 2 BK449, ((HB.out.cell (World.block_lt_of_cell? w _ hw452_0)).trans hw452_0), ((HB.out.cell (World.block_lt_of_cell? w _ hw452_1)).trans hw452_1), ((HB.out.cell (World.block_lt_of_cell? w _ hw452_2)).trans hw452_2)⟩ (fun hHeld => ?_)
           clear hK K
           refine nA ?_
           refine pA 29 60 (mL 47 1073741823) HT_ rfl rfl ?_
           refine pA 30 61 (mL 47 2147483647) HT_ rfl rfl ?_
           refine pA 31 62 (mL 47 4294967295) HT_ rfl rfl ?_
           refine pU 32 63 (mL 47 8589934591) HT_ rfl rfl ?_
           refine pU 33 64 (mL 47 17179869183) HT_ rfl rfl ?_
           refine pU 34 65 (mL 47 34359738367) HT_ rfl rfl ?_
           refine pU 35 66 (mL 47 68719476735) HT_ rfl rfl ?_
           refine pU 36 67 (mL 47 137438953471) HT_ rfl rfl ?_
           refine pU 37 68 (mL 47 274877906943) HT_ rfl rfl ?_
           refine pU 38 69 (mL 47 549755813887) HT_ rfl rfl ?_
           refine pU 39 70 (mL 47 1099511627775) HT_ rfl rfl ?_
           refine pU 40 71 (mL 47 2199023255551) HT_ rfl rfl ?_
           refine pU 41 72 (mL 47 4398046511103) HT_ rfl rfl ?_
           refine pU 42 73 (mL 47 8796093022207) HT_ rfl rfl ?_
           refine pU 43 74 (mL 47 17592186044415) HT_ rfl rfl ?_
           refine pU 44 75 (mL 47 35184372088831) HT_ rfl rfl ?_
           refine pU 45 76 (mL 47 70368744177663) HT_ rfl rfl ?_
           refine pA 46 77 (mL 47 140737488355327) HT_ rfl rfl ?_
           refine done_ (done_of HT_.out KR) ?_
           try go_wp2
           go_ret
           exact ⟨by first | rfl | (simp [errW_none, errW_some] <;> rfl) | (simp only [← hji21]; first | rfl | (simp [errW_none, errW_some] <;> rfl)) | (simp [*, errW_none, errW_some] <;> rfl), TB⟩
         ·rw [if_neg c24] at H
          have c24b0 : (((rd_TGap l1 x26_2).f1).toList == ((rd_TGap l1 (ji21)).f0).toList) = false := beq_eq_false_iff_ne.mpr c24
          have c24b1 : (((rd_TGap l1 x26_2).f1).toList != ((rd_TGap l1 (ji21)).f0).toList) = true := bne_iff_ne.mpr c24
          obtain rfl := Option.some.inj H
          have p448 : 0 ≤ (x26_2 : Int) := TD
          have q448 : x26_2 < (l1.length : Int) := TD
          obtain ⟨ad448, A448_2, c448_2, e448, hx448_0, hx448_1, hx448_2, hl448_2, hi448_2⟩ := at_TGap HR1.out x26_2 p448 q448
          have hw448_2 := hx448_2
          cases e448
          replace hx448_0 := hBc HB hx448_0
          replace hx448_1 := hBc HB hx448_1
          replace hx448_2 := hBc HB hx448_2
          have HR448_2 := Aside0.mk hi448_2
          have HC448_2 := Aside0.mk hl448_2
          clear hi448_2 hl448_2
          replace p448 := eq_true p448
          replace q448 := eq_true q448
          try go_wp2_with (first | ((with_reducible refine gate_dst (N := 6) rfl ?_); (try (refine gate_guard (by rfl) ?_; dsimp only)); refine bE 6 #[.string (⟨#[]⟩ : ByteArray), .string (⟨#[]⟩ : ByteArray), .slice none 0 0] 44 ?_; intro gb449 hg w59 hbox hb; have BK449 := Aside0.mk (hbox); have GE449 := bG hg; replace HB := BS hb; clear hb hbox hg; have hcz60 := cz3 BK449))
          have n0_ : Aside0 ((((w59.setCell ⟨gb449, 0, none⟩ (.string ((rd_TGap l1 x26_2).f0))).setCell ⟨gb449, 1, none⟩ (.string ((rd_TGap l1 x26_2).f1))).setCell ⟨gb449, 2, none⟩ (.slice A448_2 ((rd_TGap l1 x26_2).f2).length c448_2)).heap[gb449]? = some (.cells #[.string ((rd_TGap l1 x26_2).f0), .string ((rd_TGap l1 x26_2).f1), .slice A448_2 ((rd_TGap l1 x26_2).f2).length c448_2] 44 (0, 0))) := ⟨TS⟩
          have n1_ : Aside0 (Below w.heap.size w (((w59.setCell ⟨gb449, 0, none⟩ (.string ((rd_TGap l1 x26_2).f0))).setCell ⟨gb449, 1, none⟩ (.string ((rd_TGap l1 x26_2).f1))).setCell ⟨gb449, 2, none⟩ (.slice A448_2 ((rd_TGap l1 x26_2).f2).length c448_2))) := ⟨TB⟩
          (try clear BK449)
          (try clear HB)
          generalize (((w59.setCell ⟨gb449, 0, none⟩ (.string ((rd_TGap l1 x26_2).f0))).setCell ⟨gb449, 1, none⟩ (.string ((rd_TGap l1 x26_2).f1))).setCell ⟨gb449, 2, none⟩ (.slice A448_2 ((rd_TGap l1 x26_2).f2).length c448_2)) = w61 at n0_ n1_ ⊢
          have BK449 := n0_
          have HB := n1_
          clear n0_ n1_
          replace BK449 := Aside0.mk (blk_drew BK449.out)
          replace HB := Aside0.mk (below_drew1 HB.out)
          have p452 : 0 ≤ ((ji21) : Int) := TD
          have q452 : (ji21) < (l1.length : Int) := TD
          obtain ⟨ad452, A452_2, c452_2, e452, hx452_0, hx452_1, hx452_2, hl452_2, hi452_2⟩ := at_TGap HR1.out (ji21) p452 q452
          have hw452_2 := hx452_2
          have hw452_1 := hx452_1
          have hw452_0 := hx452_0
          obtain rfl : ad448 = ad452 := (by injection e452)
          replace hx452_0 := hBc HB hx452_0
          replace hx452_1 := hBc HB hx452_1
          replace hx452_2 := hBc HB hx452_2
          have HR452_2 := Aside0.mk hi452_2
          have HC452_2 := Aside0.mk hl452_2
          clear hi452_2 hl452_2
          replace p452 := eq_true p452
          replace q452 := eq_true q452
          refine start_ (n := 47) (S := fun w' => w'.cell? ⟨gb449, 0, none⟩ = some (.string ((rd_TGap l1 x26_2).f0)) ∧ w'.cell? ⟨gb449, 1, none⟩ = some (.string ((rd_TGap l1 x26_2).f1)) ∧ w'.cell? ⟨gb449, 2, none⟩ = some (.slice A448_2 ((rd_TGap l1 x26_2).f2).length c448_2) ∧ w'.cell? (ad448.add (((ji21)).toNat * 3)) = some (.string ((rd_TGap l1 (ji21)).f0)) ∧ w'.cell? ⟨(ad448.add (((ji21)).toNat * 3)).block, (ad448.add (((ji21)).toNat * 3)).off + 1, none⟩ = some (.string ((rd_TGap l1 (ji21)).f1)) ∧ w'.cell? ⟨(ad448.add (((ji21)).toNat * 3)).block, (ad448.add (((ji21)).toNat * 3)).off + 2, none⟩ = some (.slice A452_2 ((rd_TGap l1 (ji21)).f2).length c452_2)) (ds := []) #[false, false, false, false, false, false, false, false, false, false, false, false, false, false, false, false, false, false, false, false, false, false, false, false, false, false, false, false, false, false, false, false, false, false, false, false, false, false, false, false, false, false, false, false, false, false, false] KR rfl rfl ⟨bc 0 BK449, bc 1 BK449, bc 2 BK449, ((HB.out.cell (World.block_lt_of_cell? w _ hw452_0)).trans hw452_0), ((HB.out.cell (World.block_lt_of_cell? w _ hw452_1)).trans hw452_1), ((HB.out.cell (World.block_lt_of_cell? w _ hw452_2)).trans hw452_2)⟩ (fun hHeld => ?_); refine with_tabW impl_GoodGaps.tab6 impl_GoodGaps.bits6 (fun HT_ HW_ => ?_)
          generalize w61.drew = w62 at BK449 HB HR452_2 hx452_0 hx452_1 hx452_2 hHeld ⊢
          refine pA 0 31 (mL 47 1) HT_ rfl rfl ?_
          refine tA 1 32 (mL 47 3) HT_ HW_ hHeld rfl rfl (by rintro w' ⟨s0, s1, s2, s3, s4, s5⟩; go_simp; with_reducible rfl) ?_
          refine one_ (i := 2) (N := some 33) (mL 47 7) rfl rfl (one_of HT_.out KR) (by decide) (fun K hK => ?_)
          refine goes_ Tryd.func58 KR rfl #[.string ((rd_TGap l1 x26_2).f0)] (by rfl) rfl rfl TA ?_
          with_reducible refine (impl_GoodName.calls k2 ((rd_TGap l1 x26_2).f0) true _ A16.out).mono ?_
          rintro e w63 ⟨rfl, hb⟩
          refine ⟨_, rfl, ?_⟩
          replace BK449 := KB BK449 hb
          replace HB := BS hb
          (try clear hb)
          (try clear hb2)
          (try clear hk)
          (try clear hi)
          refine hK.out _ _ ⟨bc 0 BK449, bc 1 BK449, bc 2 BK449, ((HB.out.cell (World.block_lt_of_cell? w _ hw452_0)).trans hw452_0), ((HB.out.cell (World.block_lt_of_cell? w _ hw452_1)).trans hw452_1), ((HB.out.cell (World.block_lt_of_cell? w _ hw452_2)).trans hw452_2)⟩ (fun hHeld => ?_)
          clear hK K
          refine nA ?_
          refine pA 3 34 (mL 47 15) HT_ rfl rfl ?_
          refine pA 4 35 (mL 47 31) HT_ rfl rfl ?_
          refine pA 5 36 (mL 47 63) HT_ rfl rfl ?_
          refine pA 7 38 (mL 47 191) HT_ rfl rfl ?_
          refine tA 6 37 (mL 47 255) HT_ HW_ hHeld rfl rfl (by rintro w' ⟨s0, s1, s2, s3, s4, s5⟩; go_simp; with_reducible rfl) ?_
          refine one_ (i := 8) (N := some 39) (mL 47 511) rfl rfl (one_of HT_.out KR) (by decide) (fun K hK => ?_)
          refine goes_ Tryd.func77 KR rfl #[.string ((rd_TGap l1 x26_2).f0), .string a0] (by rfl) rfl rfl TA ?_
          with_reducible refine (impl_isBelow.calls ((rd_TGap l1 x26_2).f0) a0 true _ A18.out).mono ?_
          rintro e w' ⟨rfl, ⟨nd, rfl⟩⟩
          refine ⟨_, rfl, ?_⟩
          refine hK.out _ _ ⟨bc 0 BK449, bc 1 BK449, bc 2 BK449, ((HB.out.cell (World.block_lt_of_cell? w _ hw452_0)).trans hw452_0), ((HB.out.cell (World.block_lt_of_cell? w _ hw452_1)).trans hw452_1), ((HB.out.cell (World.block_lt_of_cell? w _ hw452_2)).trans hw452_2)⟩ (fun hHeld => ?_)
          clear hK K
          refine nA ?_
          refine pA 9 40 (mL 47 1023) HT_ rfl rfl ?_
          refine pA 10 41 (mL 47 2047) HT_ rfl rfl ?_
          refine pA 11 42 (mL 47 4095) HT_ rfl rfl ?_
          refine pA 12 43 (mL 47 8191) HT_ rfl rfl ?_
          refine pA 14 45 (mL 47 24575) HT_ rfl rfl ?_
          refine pA 15 46 (mL 47 57343) HT_ rfl rfl ?_
          refine pA 16 47 (mL 47 122879) HT_ rfl rfl ?_
          refine pA 17 48 (mL 47 253951) HT_ rfl rfl ?_
          refine pA 18 49 (mL 47 516095) HT_ rfl rfl ?_
          refine pA 19 50 (mL 47 1040383) HT_ rfl rfl ?_
          refine pA 20 51 (mL 47 2088959) HT_ rfl rfl ?_
          refine pA 21 52 (mL 47 4186111) HT_ rfl rfl ?_
          refine tA 13 44 (mL 47 4194303) HT_ HW_ hHeld rfl rfl (by rintro w' ⟨s0, s1, s2, s3, s4, s5⟩; go_simp; with_reducible rfl) ?_
          refine tA 22 53 (mL 47 8388607) HT_ HW_ hHeld rfl rfl (by rintro w' ⟨s0, s1, s2, s3, s4, s5⟩; go_simp; with_reducible rfl) ?_
          refine pA 23 54 (mL 47 16777215) HT_ rfl rfl ?_
          refine pA 24 55 (mL 47 33554431) HT_ rfl rfl ?_
          refine pA 25 56 (mL 47 67108863) HT_ rfl rfl ?_
          refine pU 26 57 (mL 47 134217727) HT_ rfl rfl ?_
          refine pU 27 58 (mL 47 268435455) HT_ rfl rfl ?_
          refine pU 28 59 (mL 47 536870911) HT_ rfl rfl ?_
          refine pU 29 60 (mL 47 1073741823) HT_ rfl rfl ?_
          refine pA 30 61 (mL 47 2147483647) HT_ rfl rfl ?_
          refine pA 31 62 (mL 47 4294967295) HT_ rfl rfl ?_
          refine pU 32 63 (mL 47 8589934591) HT_ rfl rfl ?_
          refine pU 33 64 (mL 47 17179869183) HT_ rfl rfl ?_
          refine pU 34 65 (mL 47 34359738367) HT_ rfl rfl ?_
          refine pU 35 66 (mL 47 68719476735) HT_ rfl rfl ?_
          refine pU 36 67 (mL 47 137438953471) HT_ rfl rfl ?_
          refine pU 37 68 (mL 47 274877906943) HT_ rfl rfl ?_
          refine pU 38 69 (mL 47 549755813887) HT_ rfl rfl ?_
          refine pU 39 70 (mL 47 1099511627775) HT_ rfl rfl ?_
          refine pU 40 71 (mL 47 2199023255551) HT_ rfl rfl ?_
          refine pU 41 72 (mL 47 4398046511103) HT_ rfl rfl ?_
          refine pU 42 73 (mL 47 8796093022207) HT_ rfl rfl ?_
          refine pU 43 74 (mL 47 17592186044415) HT_ rfl rfl ?_
          refine pU 44 75 (mL 47 35184372088831) HT_ rfl rfl ?_
          refine pU 45 76 (mL 47 70368744177663) HT_ rfl rfl ?_
          refine pA 46 77 (mL 47 140737488355327) HT_ rfl rfl ?_
          refine done_ (done_of HT_.out KR) ?_
          try go_wp2
          go_ret
          exact ⟨by first | rfl | (simp [errW_none, errW_some] <;> rfl) | (simp only [← hji21]; first | rfl | (simp [errW_none, errW_some] <;> rfl)) | (simp [*, errW_none, errW_some] <;> rfl), TB⟩
        ·replace c19 := Bool.eq_false_iff.mpr c19
         subst c19
         replace H := iff' H
         obtain rfl := Option.some.inj H
         have p448 : 0 ≤ (x26_2 : Int) := TD
         have q448 : x26_2 < (l1.length : Int) := TD
         obtain ⟨ad448, A448_2, c448_2, e448, hx448_0, hx448_1, hx448_2, hl448_2, hi448_2⟩ := at_TGap HR1.out x26_2 p448 q448
         have hw448_2 := hx448_2
         cases e448
         replace hx448_0 := hBc HB hx448_0
         replace hx448_1 := hBc HB hx448_1
         replace hx448_2 := hBc HB hx448_2
         have HR448_2 := Aside0.mk hi448_2
         have HC448_2 := Aside0.mk hl448_2
         clear hi448_2 hl448_2
         replace p448 := eq_true p448
         replace q448 := eq_true q448
         try go_wp2_with (first | ((with_reducible refine gate_dst (N := 6) rfl ?_); (try (refine gate_guard (by rfl) ?_; dsimp only)); refine bE 6 #[.string (⟨#[]⟩ : ByteArray), .string (⟨#[]⟩ : ByteArray), .slice none 0 0] 44 ?_; intro gb449 hg w64 hbox hb; have BK449 := Aside0.mk (hbox); have GE449 := bG hg; replace HB := BS hb; clear hb hbox hg; have hcz65 := cz3 BK449))
         have n0_ : Aside0 ((((w64.setCell ⟨gb449, 0, none⟩ (.string ((rd_TGap l1 x26_2).f0))).setCell ⟨gb449, 1, none⟩ (.string ((rd_TGap l1 x26_2).f1))).setCell ⟨gb449, 2, none⟩ (.slice A448_2 ((rd_TGap l1 x26_2).f2).length c448_2)).heap[gb449]? = some (.cells #[.string ((rd_TGap l1 x26_2).f0), .string ((rd_TGap l1 x26_2).f1), .slice A448_2 ((rd_TGap l1 x26_2).f2).length c448_2] 44 (0, 0))) := ⟨TS⟩
         have n1_ : Aside0 (Below w.heap.size w (((w64.setCell ⟨gb449, 0, none⟩ (.string ((rd_TGap l1 x26_2).f0))).setCell ⟨gb449, 1, none⟩ (.string ((rd_TGap l1 x26_2).f1))).setCell ⟨gb449, 2, none⟩ (.slice A448_2 ((rd_TGap l1 x26_2).f2).length c448_2))) := ⟨TB⟩
         (try clear BK449)
         (try clear HB)
         generalize (((w64.setCell ⟨gb449, 0, none⟩ (.string ((rd_TGap l1 x26_2).f0))).setCell ⟨gb449, 1, none⟩ (.string ((rd_TGap l1 x26_2).f1))).setCell ⟨gb449, 2, none⟩ (.slice A448_2 ((rd_TGap l1 x26_2).f2).length c448_2)) = w66 at n0_ n1_ ⊢
         have BK449 := n0_
         have HB := n1_
         clear n0_ n1_
         replace BK449 := Aside0.mk (blk_drew BK449.out)
         replace HB := Aside0.mk (below_drew1 HB.out)
         refine start_ (n := 47) (S := fun w' => w'.cell? ⟨gb449, 0, none⟩ = some (.string ((rd_TGap l1 x26_2).f0)) ∧ w'.cell? ⟨gb449, 1, none⟩ = some (.string ((rd_TGap l1 x26_2).f1)) ∧ w'.cell? ⟨gb449, 2, none⟩ = some (.slice A448_2 ((rd_TGap l1 x26_2).f2).length c448_2)) (ds := []) #[false, false, false, false, false, false, false, false, false, false, false, false, false, false, false, false, false, false, false, false, false, false, false, false, false, false, false, false, false, false, false, false, false, false, false, false, false, false, false, false, false, false, false, false, false, false, false] KR rfl rfl ⟨bc 0 BK449, bc 1 BK449, bc 2 BK449⟩ (fun hHeld => ?_); refine with_tabW impl_GoodGaps.tab6 impl_GoodGaps.bits6 (fun HT_ HW_ => ?_)
         generalize w66.drew = w67 at BK449 HB hHeld ⊢
         refine pA 0 31 (mL 47 1) HT_ rfl rfl ?_
         refine tA 1 32 (mL 47 3) HT_ HW_ hHeld rfl rfl (by rintro w' ⟨s0, s1, s2⟩; go_simp; with_reducible rfl) ?_
         refine one_ (i := 2) (N := some 33) (mL 47 7) rfl rfl (one_of HT_.out KR) (by decide) (fun K hK => ?_)
         refine goes_ Tryd.func58 KR rfl #[.string ((rd_TGap l1 x26_2).f0)] (by rfl) rfl rfl TA ?_
         with_reducible refine (impl_GoodName.calls k2 ((rd_TGap l1 x26_2).f0) true _ A16.out).mono ?_
         rintro e w68 ⟨rfl, hb⟩
         refine ⟨_, rfl, ?_⟩
         replace BK449 := KB BK449 hb
         replace HB := BS hb
         (try clear hb)
         (try clear hb2)
         (try clear hk)
         (try clear hi)
         refine hK.out _ _ ⟨bc 0 BK449, bc 1 BK449, bc 2 BK449⟩ (fun hHeld => ?_)
         clear hK K
         refine nA ?_
         refine pA 3 34 (mL 47 15) HT_ rfl rfl ?_
         refine pA 4 35 (mL 47 31) HT_ rfl rfl ?_
         refine pA 5 36 (mL 47 63) HT_ rfl rfl ?_
         refine pA 7 38 (mL 47 191) HT_ rfl rfl ?_
         refine tA 6 37 (mL 47 255) HT_ HW_ hHeld rfl rfl (by rintro w' ⟨s0, s1, s2⟩; go_simp; with_reducible rfl) ?_
         refine one_ (i := 8) (N := some 39) (mL 47 511) rfl rfl (one_of HT_.out KR) (by decide) (fun K hK => ?_)
         refine goes_ Tryd.func77 KR rfl #[.string ((rd_TGap l1 x26_2).f0), .string a0] (by rfl) rfl rfl TA ?_
         with_reducible refine (impl_isBelow.calls ((rd_TGap l1 x26_2).f0) a0 false _ A18.out).mono ?_
         rintro e w' ⟨rfl, ⟨nd, rfl⟩⟩
         refine ⟨_, rfl, ?_⟩
         refine hK.out _ _ ⟨bc 0 BK449, bc 1 BK449, bc 2 BK449⟩ (fun hHeld => ?_)
         clear hK K
         refine nA ?_
         refine pA 9 40 (mL 47 1023) HT_ rfl rfl ?_
         refine pA 10 41 (mL 47 2047) HT_ rfl rfl ?_
         refine pA 11 42 (mL 47 4095) HT_ rfl rfl ?_
         refine pU 12 43 (mL 47 8191) HT_ rfl rfl ?_
         refine pU 13 44 (mL 47 16383) HT_ rfl rfl ?_
         refine pU 14 45 (mL 47 32767) HT_ rfl rfl ?_
         refine pU 15 46 (mL 47 65535) HT_ rfl rfl ?_
         refine pU 16 47 (mL 47 131071) HT_ rfl rfl ?_
         refine pU 17 48 (mL 47 262143) HT_ rfl rfl ?_
         refine pU 18 49 (mL 47 524287) HT_ rfl rfl ?_
         refine pU 19 50 (mL 47 1048575) HT_ rfl rfl ?_
         refine pU 20 51 (mL 47 2097151) HT_ rfl rfl ?_
         refine pU 21 52 (mL 47 4194303) HT_ rfl rfl ?_
         refine pU 22 53 (mL 47 8388607) HT_ rfl rfl ?_
         refine pU 23 54 (mL 47 16777215) HT_ rfl rfl ?_
         refine pA 24 55 (mL 47 33554431) HT_ rfl rfl ?_
         refine pA 25 56 (mL 47 67108863) HT_ rfl rfl ?_
         refine pU 26 57 (mL 47 134217727) HT_ rfl rfl ?_
         refine pU 27 58 (mL 47 268435455) HT_ rfl rfl ?_
         refine pU 28 59 (mL 47 536870911) HT_ rfl rfl ?_
         refine pU 29 60 (mL 47 1073741823) HT_ rfl rfl ?_
         refine pA 30 61 (mL 47 2147483647) HT_ rfl rfl ?_
         refine pA 31 62 (mL 47 4294967295) HT_ rfl rfl ?_
         refine pU 32 63 (mL 47 8589934591) HT_ rfl rfl ?_
         refine pU 33 64 (mL 47 17179869183) HT_ rfl rfl ?_
         refine pU 34 65 (mL 47 34359738367) HT_ rfl rfl ?_
         refine pU 35 66 (mL 47 68719476735) HT_ rfl rfl ?_
         refine pU 36 67 (mL 47 137438953471) HT_ rfl rfl ?_
         refine pU 37 68 (mL 47 274877906943) HT_ rfl rfl ?_
         refine pU 38 69 (mL 47 549755813887) HT_ rfl rfl ?_
         refine pU 39 70 (mL 47 1099511627775) HT_ rfl rfl ?_
         refine pU 40 71 (mL 47 2199023255551) HT_ rfl rfl ?_
         refine pU 41 72 (mL 47 4398046511103) HT_ rfl rfl ?_
         refine pU 42 73 (mL 47 8796093022207) HT_ rfl rfl ?_
         refine pU 43 74 (mL 47 17592186044415) HT_ rfl rfl ?_
         refine pU 44 75 (mL 47 35184372088831) HT_ rfl rfl ?_
         refine pU 45 76 (mL 47 70368744177663) HT_ rfl rfl ?_
         refine pA 46 77 (mL 47 140737488355327) HT_ rfl rfl ?_
         refine done_ (done_of HT_.out KR) ?_
         try go_wp2
         go_ret
         exact ⟨TE, TB⟩
       ·replace c17 := Bool.eq_false_iff.mpr c17
        subst c17
        replace H := iff' H
        obtain rfl := Option.some.inj H
        have p448 : 0 ≤ (x26_2 : Int) := TD
        have q448 : x26_2 < (l1.length : Int) := TD
        obtain ⟨ad448, A448_2, c448_2, e448, hx448_0, hx448_1, hx448_2, hl448_2, hi448_2⟩ := at_TGap HR1.out x26_2 p448 q448
        have hw448_2 := hx448_2
        cases e448
        replace hx448_0 := hBc HB hx448_0
        replace hx448_1 := hBc HB hx448_1
        replace hx448_2 := hBc HB hx448_2
        have HR448_2 := Aside0.mk hi448_2
        have HC448_2 := Aside0.mk hl448_2
        clear hi448_2 hl448_2
        replace p448 := eq_true p448
        replace q448 := eq_true q448
        try go_wp2_with (first | ((with_reducible refine gate_dst (N := 6) rfl ?_); (try (refine gate_guard (by rfl) ?_; dsimp only)); refine bE 6 #[.string (⟨#[]⟩ : ByteArray), .string (⟨#[]⟩ : ByteArray), .slice none 0 0] 44 ?_; intro gb449 hg w69 hbox hb; have BK449 := Aside0.mk (hbox); have GE449 := bG hg; replace HB := BS hb; clear hb hbox hg; have hcz70 := cz3 BK449))
        have n0_ : Aside0 ((((w69.setCell ⟨gb449, 0, none⟩ (.string ((rd_TGap l1 x26_2).f0))).setCell ⟨gb449, 1, none⟩ (.string ((rd_TGap l1 x26_2).f1))).setCell ⟨gb449, 2, none⟩ (.slice A448_2 ((rd_TGap l1 x26_2).f2).length c448_2)).heap[gb449]? = some (.cells #[.string ((rd_TGap l1 x26_2).f0), .string ((rd_TGap l1 x26_2).f1), .slice A448_2 ((rd_TGap l1 x26_2).f2).length c448_2] 44 (0, 0))) := ⟨TS⟩
        have n1_ : Aside0 (Below w.heap.size w (((w69.setCell ⟨gb449, 0, none⟩ (.string ((rd_TGap l1 x26_2).f0))).setCell ⟨gb449, 1, none⟩ (.string ((rd_TGap l1 x26_2).f1))).setCell ⟨gb449, 2, none⟩ (.slice A448_2 ((rd_TGap l1 x26_2).f2).length c448_2))) := ⟨TB⟩
        (try clear BK449)
        (try clear HB)
        generalize (((w69.setCell ⟨gb449, 0, none⟩ (.string ((rd_TGap l1 x26_2).f0))).setCell ⟨gb449, 1, none⟩ (.string ((rd_TGap l1 x26_2).f1))).setCell ⟨gb449, 2, none⟩ (.slice A448_2 ((rd_TGap l1 x26_2).f2).length c448_2)) = w71 at n0_ n1_ ⊢
        have BK449 := n0_
        have HB := n1_
        clear n0_ n1_
        replace BK449 := Aside0.mk (blk_drew BK449.out)
        replace HB := Aside0.mk (below_drew1 HB.out)
        refine start_ (n := 47) (S := fun w' => w'.cell? ⟨gb449, 0, none⟩ = some (.string ((rd_TGap l1 x26_2).f0)) ∧ w'.cell? ⟨gb449, 1, none⟩ = some (.string ((rd_TGap l1 x26_2).f1)) ∧ w'.cell? ⟨gb449, 2, none⟩ = some (.slice A448_2 ((rd_TGap l1 x26_2).f2).length c448_2)) (ds := []) #[false, false, false, false, false, false, false, false, false, false, false, false, false, false, false, false, false, false, false, false, false, false, false, false, false, false, false, false, false, false, false, false, false, false, false, false, false, false, false, false, false, false, false, false, false, false, false] KR rfl rfl ⟨bc 0 BK449, bc 1 BK449, bc 2 BK449⟩ (fun hHeld => ?_); refine with_tabW impl_GoodGaps.tab6 impl_GoodGaps.bits6 (fun HT_ HW_ => ?_)
        generalize w71.drew = w72 at BK449 HB hHeld ⊢
        refine pA 0 31 (mL 47 1) HT_ rfl rfl ?_
        refine tA 1 32 (mL 47 3) HT_ HW_ hHeld rfl rfl (by rintro w' ⟨s0, s1, s2⟩; go_simp; with_reducible rfl) ?_
        refine one_ (i := 2) (N := some 33) (mL 47 7) rfl rfl (one_of HT_.out KR) (by decide) (fun K hK => ?_)
        refine goes_ Tryd.func58 KR rfl #[.string ((rd_TGap l1 x26_2).f0)] (by rfl) rfl rfl TA ?_
        with_reducible refine (impl_GoodName.calls k2 ((rd_TGap l1 x26_2).f0) false _ A16.out).mono ?_
        rintro e w73 ⟨rfl, hb⟩
        refine ⟨_, rfl, ?_⟩
        replace BK449 := KB BK449 hb
        replace HB := BS hb
        (try clear hb)
        (try clear hb2)
        (try clear hk)
        (try clear hi)
        refine hK.out _ _ ⟨bc 0 BK449, bc 1 BK449, bc 2 BK449⟩ (fun hHeld => ?_)
        clear hK K
        refine nA ?_
        refine pA 3 34 (mL 47 15) HT_ rfl rfl ?_
        refine pA 4 35 (mL 47 31) HT_ rfl rfl ?_
        refine pU 5 36 (mL 47 63) HT_ rfl rfl ?_
        refine pU 6 37 (mL 47 127) HT_ rfl rfl ?_
        refine pU 7 38 (mL 47 255) HT_ rfl rfl ?_
        refine pU 8 39 (mL 47 511) HT_ rfl rfl ?_
        refine pU 9 40 (mL 47 1023) HT_ rfl rfl ?_
        refine pA 10 41 (mL 47 2047) HT_ rfl rfl ?_
        refine pA 11 42 (mL 47 4095) HT_ rfl rfl ?_
        refine pU 12 43 (mL 47 8191) HT_ rfl rfl ?_
        refine pU 13 44 (mL 47 16383) HT_ rfl rfl ?_
        refine pU 14 45 (mL 47 32767) HT_ rfl rfl ?_
        refine pU 15 46 (mL 47 65535) HT_ rfl rfl ?_
        refine pU 16 47 (mL 47 131071) HT_ rfl rfl ?_
        refine pU 17 48 (mL 47 262143) HT_ rfl rfl ?_
        refine pU 18 49 (mL 47 524287) HT_ rfl rfl ?_
        refine pU 19 50 (mL 47 1048575) HT_ rfl rfl ?_
        refine pU 20 51 (mL 47 2097151) HT_ rfl rfl ?_
        refine pU 21 52 (mL 47 4194303) HT_ rfl rfl ?_
        refine pU 22 53 (mL 47 8388607) HT_ rfl rfl ?_
        refine pU 23 54 (mL 47 16777215) HT_ rfl rfl ?_
        refine pA 24 55 (mL 47 33554431) HT_ rfl rfl ?_
        refine pA 25 56 (mL 47 67108863) HT_ rfl rfl ?_
        refine pU 26 57 (mL 47 134217727) HT_ rfl rfl ?_
        refine pU 27 58 (mL 47 268435455) HT_ rfl rfl ?_
        refine pU 28 59 (mL 47 536870911) HT_ rfl rfl ?_
        refine pU 29 60 (mL 47 1073741823) HT_ rfl rfl ?_
        refine pA 30 61 (mL 47 2147483647) HT_ rfl rfl ?_
        refine pA 31 62 (mL 47 4294967295) HT_ rfl rfl ?_
        refine pU 32 63 (mL 47 8589934591) HT_ rfl rfl ?_
        refine pU 33 64 (mL 47 17179869183) HT_ rfl rfl ?_
        refine pU 34 65 (mL 47 34359738367) HT_ rfl rfl ?_
        refine pU 35 66 (mL 47 68719476735) HT_ rfl rfl ?_
        refine pU 36 67 (mL 47 137438953471) HT_ rfl rfl ?_
        refine pU 37 68 (mL 47 274877906943) HT_ rfl rfl ?_
        refine pU 38 69 (mL 47 549755813887) HT_ rfl rfl ?_
        refine pU 39 70 (mL 47 1099511627775) HT_ rfl rfl ?_
        refine pU 40 71 (mL 47 2199023255551) HT_ rfl rfl ?_
        refine pU 41 72 (mL 47 4398046511103) HT_ rfl rfl ?_
        refine pU 42 73 (mL 47 8796093022207) HT_ rfl rfl ?_
        refine pU 43 74 (mL 47 17592186044415) HT_ rfl rfl ?_
        refine pU 44 75 (mL 47 35184372088831) HT_ rfl rfl ?_
        refine pU 45 76 (mL 47 70368744177663) HT_ rfl rfl ?_
        refine pA 46 77 (mL 47 140737488355327) HT_ rfl rfl ?_
        refine done_ (done_of HT_.out KR) ?_
        try go_wp2
        go_ret
        exact ⟨TE, TB⟩
      ·rw [if_neg c13] at H
       have c13b0 : decide (x26_2 < (l1.length : Int)) = false := decide_eq_false c13
       clear c13
       obtain rfl := Option.some.inj H
       go_wp2
       go_ret
       exact ⟨TE, TB⟩
end
section
/-! ### laws_FnExactGoodGaps: function 9 -/
def laws_FnExactGoodGaps.f (k : Nat) (a0 : ByteArray) (l1 : List (S_LGap)) : Option (Bool) := if (a0.size : Int) > 1048576 then (some true) else ((laws_szGapS.f k l1 1048576).bind fun t529 => (if t529 < 0 then (some true) else ((laws_toGapS.f k l1).bind fun t530 => ((spec_GoodGaps.f k a0 t530).bind fun t533 => ((laws_toGapS.f k l1).bind fun t534 => ((impl_GoodGaps.f k a0 t534).bind fun t537 => (if (t537 != t533) = true then (some false) else ((laws_toGapS.f k l1).bind fun t538 => ((laws_eqGapS.f k t534 t538).bind fun t541 => (if t541 = true then (some true) else (some false)))))))))))
theorem laws_FnExactGoodGaps.mono : ∀ a0 a1 k, LeO (laws_FnExactGoodGaps.f k a0 a1) (laws_FnExactGoodGaps.f (k + 1) a0 a1) := by
 intro a0 a1 k
 unfold laws_FnExactGoodGaps.f
 repeat' first
   | (with_reducible exact impl_GoodGaps.mono _ _ _)
   | (with_reducible exact laws_eqGapS.mono _ _ _)
   | (with_reducible exact laws_szGapS.mono _ _ _)
   | (with_reducible exact laws_toGapS.mono _ _)
   | (with_reducible exact spec_GoodGaps.mono _ _ _)
   | (with_reducible exact LeO.refl _)
   | (with_reducible exact LeO.none _)
   | (with_reducible refine LeO.ite ?_ ?_)
   | (with_reducible refine LeO.bind ?_ (fun _ => ?_))
   | exact impl_GoodGaps.mono _ _ _
   | exact laws_eqGapS.mono _ _ _
   | exact laws_szGapS.mono _ _ _
   | exact laws_toGapS.mono _ _
   | exact spec_GoodGaps.mono _ _ _
   | exact LeO.none _
   | refine LeO.ite ?_ ?_
   | refine LeO.bind ?_ (fun _ => ?_)
theorem laws_FnExactGoodGaps.calls (k : Nat) (a0 : ByteArray) (A1 : Option Addr) (c1 : Nat) (l1 : List (S_LGap)) (r : Bool) (w : World) (hr1 : Kd.C k_LGap w A1 l1.length l1) (hc1 : l1.length ≤ c1) (h : laws_FnExactGoodGaps.f k a0 l1 = some r) :
  Calls Tryd.prog 9 #[.string a0, .slice A1 l1.length c1] w fun e w' => e = .returned (.bool r) ∧ Below w.heap.size w w' := by
 have HR1 := Aside0.mk hr1
 have HC1 := Aside0.mk hc1
 clear hr1 hc1
 have HB := Aside0.mk (Below.refl w.heap.size w)
 have H : (if (a0.size : Int) > 1048576 then (some true) else ((laws_szGapS.f k l1 1048576).bind fun t529 => (if t529 < 0 then (some true) else ((laws_toGapS.f k l1).bind fun t530 => ((spec_GoodGaps.f k a0 t530).bind fun t533 => ((laws_toGapS.f k l1).bind fun t534 => ((impl_GoodGaps.f k a0 t534).bind fun t537 => (if (t537 != t533) = true then (some false) else ((laws_toGapS.f k l1).bind fun t538 => ((laws_eqGapS.f k t534 t538).bind fun t541 => (if t541 = true then (some true) else (some false)))))))))))) = some r := h
 clear h
 by_cases c3 : (a0.size : Int) > 1048576
 ·rw [if_pos c3] at H
  have c3b0 : decide (1048576 < (a0.size : Int)) = true := decide_eq_true c3
  have c3b1 : decide (1048576 < a0.size) = true := decide_eq_true (by omega)
  clear c3
  obtain rfl := Option.some.inj H
  go_enter Tryd.func9, Tryd.ntmps9
  go_wp2
  go_ret
  exact ⟨TE, TB⟩
 ·rw [if_neg c3] at H
  have c3b0 : decide (1048576 < (a0.size : Int)) = false := decide_eq_false c3
  have c3b1 : decide (1048576 < a0.size) = false := decide_eq_false (by omega)
  clear c3
  obtain ⟨t529, A4, H⟩ := bnd H
  by_cases c5 : t529 < 0
  ·rw [if_pos c5] at H
   have c5b0 : decide (t529 < 0) = true := decide_eq_true c5
   clear c5
   obtain rfl := Option.some.inj H
   go_enter Tryd.func9, Tryd.ntmps9
   go_wp2_with (first | ((with_reducible refine gate_callee (f := 38) rfl ?_); refine goesL_ (some 14) rfl rfl Tryd.func38 KR rfl #[.slice A1 l1.length c1, .int .i64 1048576] rfl TA ?_; (with_reducible refine (laws_szGapS.calls k _ _ l1 1048576 t529 _ ?side1 ?side2 A4.out).mono ?_); (case side1 => exact CW (HR1.out)); (case side2 => exact HC1.out); rintro e w6 ⟨rfl, hb⟩; refine ⟨_, rfl, ?_⟩; replace HB := BS hb; (try clear hb); (try clear hb2); (try clear hk); (try clear hi)))
   go_ret
   exact ⟨TE, TB⟩
  ·rw [if_neg c5] at H
   have c5b0 : decide (t529 < 0) = false := decide_eq_false c5
   clear c5
   obtain ⟨t530, A7, H⟩ := bnd H
   obtain ⟨t533, A8, H⟩ := bnd H
   obtain ⟨t534, A9, H⟩ := bnd H
   obtain ⟨t537, A10, H⟩ := bnd H
   by_cases c11 : (t537 != t533) = true
   ·rw [if_pos c11] at H
    have c11b0 : (t537 != t533) = true := c11
    (try (have c11b1 : decide (t537 = t533) = false := by simpa using c11))
    (try (have c11b2 : (t537 == t533) = false := by simpa using c11))
    (try (have c11b3 : ¬ (t537 = t533) := by simpa using c11))
    clear c11
    obtain rfl := Option.some.inj H
    go_enter Tryd.func9, Tryd.ntmps9
    go_wp2_with (first | ((with_reducible refine gate_callee (f := 38) rfl ?_); refine goesL_ (some 14) rfl rfl Tryd.func38 KR rfl #[.slice A1 l1.length c1, .int .i64 1048576] rfl TA ?_; (with_reducible refine (laws_szGapS.calls k _ _ l1 1048576 t529 _ ?side1 ?side2 A4.out).mono ?_); (case side1 => exact CW (HR1.out)); (case side2 => exact HC1.out); rintro e w12 ⟨rfl, hb⟩; refine ⟨_, rfl, ?_⟩; replace HB := BS hb; (try clear hb); (try clear hb2); (try clear hk); (try clear hi)) | ((with_reducible refine gate_callee (f := 40) rfl ?_); refine goesL_ (some 19) rfl rfl Tryd.func40 KR rfl #[.slice A1 l1.length c1] rfl TA ?_; (with_reducible refine (laws_toGapS.calls k _ _ l1 t530 _ ?side1 ?side2 A7.out).mono ?_); (case side1 => exact CW ((Kd.C_below HR1.out HB.out))); (case side2 => exact HC1.out); rintro e w13 ⟨v531, rfl, ho0, hb⟩; refine ⟨_, rfl, ?_⟩; have HO532 := Aside0.mk (Kd.S_lower ho0 (below_size TB)); replace HB := BS hb; (try clear hb); (try clear hb2); (try clear hk); (try clear hi); (try clear ho0); obtain ⟨Ao14, co14, eo14⟩ := Kd.S_slice HO532.out; subst eo14) | ((with_reducible refine gate_callee (f := 39) rfl ?_); refine goesL_ (some 20) rfl rfl Tryd.func39 KR rfl #[.string a0, .slice Ao14 t530.length co14] rfl TA ?_; (with_reducible refine (spec_GoodGaps.calls k a0 _ _ t530 t533 _ ?side1 ?side2 A8.out).mono ?_); (case side1 => exact CW ((Kd.S_reads' HO532.out).2.2)); (case side2 => exact (Kd.S_reads' HO532.out).2.1); rintro e w15 ⟨rfl, hb⟩; refine ⟨_, rfl, ?_⟩; replace HO532 := Aside0.mk (Kd.S_below (by (with_reducible repeat (first | apply Kd.S_alloc | apply Kd.S_drewN | apply Kd.S_drew)); exact HO532.out) hb); replace HB := BS hb; (try clear hb); (try clear hb2); (try clear hk); (try clear hi)) | ((with_reducible refine gate_callee (f := 40) rfl ?_); refine goesL_ (some 22) rfl rfl Tryd.func40 KR rfl #[.slice A1 l1.length c1] rfl TA ?_; (with_reducible refine (laws_toGapS.calls k _ _ l1 t534 _ ?side1 ?side2 A9.out).mono ?_); (case side1 => exact CW ((Kd.C_below HR1.out HB.out))); (case side2 => exact HC1.out); rintro e w16 ⟨v535, rfl, ho0, hb⟩; refine ⟨_, rfl, ?_⟩; have HO536 := Aside0.mk (Kd.S_lower (Kd.S_new' ho0 (Kd.S_lt (by (with_reducible repeat (first | apply Kd.S_alloc | apply Kd.S_drewN | apply Kd.S_drew)); exact HO532.out))) (below_size TB)); replace HO532 := Aside0.mk (Kd.S_elder' (by (with_reducible repeat (first | apply Kd.S_alloc | apply Kd.S_drewN | apply Kd.S_drew)); exact HO532.out) (Kd.S_base ho0) hb); replace HB := BS hb; (try clear hb); (try clear hb2); (try clear hk); (try clear hi); (try clear ho0); obtain ⟨Ao17, co17, eo17⟩ := Kd.S_slice HO536.out; subst eo17) | ((with_reducible refine gate_callee (f := 41) rfl ?_); refine goesL_ (some 25) rfl rfl Tryd.func41 KR rfl #[.string a0, .slice Ao17 t534.length co17] rfl TA ?_; (with_reducible refine (impl_GoodGaps.calls k a0 _ _ t534 t537 _ ?side1 ?side2 A10.out).mono ?_); (case side1 => exact CW ((Kd.S_reads' HO536.out).2.2)); (case side2 => exact (Kd.S_reads' HO536.out).2.1); rintro e w18 ⟨rfl, hb⟩; refine ⟨_, rfl, ?_⟩; replace HO532 := Aside0.mk (Kd.S_below (by (with_reducible repeat (first | apply Kd.S_alloc | apply Kd.S_drewN | apply Kd.S_drew)); exact HO532.out) hb); replace HO536 := Aside0.mk (Kd.S_below (by (with_reducible repeat (first | apply Kd.S_alloc | apply Kd.S_drewN | apply Kd.S_drew)); exact HO536.out) hb); replace HB := BS hb; (try clear hb); (try clear hb2); (try clear hk); (try clear hi)))
    go_ret
    exact ⟨TE, TB⟩
   ·rw [if_neg c11] at H
    have c11b0 : (t537 != t533) = false := by simpa using c11
    (try (have c11b1 : decide (t537 = t533) = true := by simpa using c11))
    (try (have c11b2 : (t537 == t533) = true := by simpa using c11))
    clear c11
    obtain ⟨t538, A19, H⟩ := bnd H
    obtain ⟨t541, A20, H⟩ := bnd H
    by_cases c21 : t541 = true
    ·subst c21
     replace H := ift H
     obtain rfl := Option.some.inj H
     go_enter Tryd.func9, Tryd.ntmps9
     go_wp2_with (first | ((with_reducible refine gate_callee (f := 38) rfl ?_); refine goesL_ (some 14) rfl rfl Tryd.func38 KR rfl #[.slice A1 l1.length c1, .int .i64 1048576] rfl TA ?_; (with_reducible refine (laws_szGapS.calls k _ _ l1 1048576 t529 _ ?side1 ?side2 A4.out).mono ?_); (case side1 => exact CW (HR1.out)); (case side2 => exact HC1.out); rintro e w22 ⟨rfl, hb⟩; refine ⟨_, rfl, ?_⟩; replace HB := BS hb; (try clear hb); (try clear hb2); (try clear hk); (try clear hi)) | ((with_reducible refine gate_callee (f := 40) rfl ?_); refine goesL_ (some 19) rfl rfl Tryd.func40 KR rfl #[.slice A1 l1.length c1] rfl TA ?_; (with_reducible refine (laws_toGapS.calls k _ _ l1 t530 _ ?side1 ?side2 A7.out).mono ?_); (case side1 => exact CW ((Kd.C_below HR1.out HB.out))); (case side2 => exact HC1.out); rintro e w23 ⟨v531, rfl, ho0, hb⟩; refine ⟨_, rfl, ?_⟩; have HO532 := Aside0.mk (Kd.S_lower ho0 (below_size TB)); replace HB := BS hb; (try clear hb); (try clear hb2); (try clear hk); (try clear hi); (try clear ho0); obtain ⟨Ao24, co24, eo24⟩ := Kd.S_slice HO532.out; subst eo24) | ((with_reducible refine gate_callee (f := 39) rfl ?_); refine goesL_ (some 20) rfl rfl Tryd.func39 KR rfl #[.string a0, .slice Ao24 t530.length co24] rfl TA ?_; (with_reducible refine (spec_GoodGaps.calls k a0 _ _ t530 t533 _ ?side1 ?side2 A8.out).mono ?_); (case side1 => exact CW ((Kd.S_reads' HO532.out).2.2)); (case side2 => exact (Kd.S_reads' HO532.out).2.1); rintro e w25 ⟨rfl, hb⟩; refine ⟨_, rfl, ?_⟩; replace HO532 := Aside0.mk (Kd.S_below (by (with_reducible repeat (first | apply Kd.S_alloc | apply Kd.S_drewN | apply Kd.S_drew)); exact HO532.out) hb); replace HB := BS hb; (try clear hb); (try clear hb2); (try clear hk); (try clear hi)) | ((with_reducible refine gate_callee (f := 40) rfl ?_); refine goesL_ (some 22) rfl rfl Tryd.func40 KR rfl #[.slice A1 l1.length c1] rfl TA ?_; (with_reducible refine (laws_toGapS.calls k _ _ l1 t534 _ ?side1 ?side2 A9.out).mono ?_); (case side1 => exact CW ((Kd.C_below HR1.out HB.out))); (case side2 => exact HC1.out); rintro e w26 ⟨v535, rfl, ho0, hb⟩; refine ⟨_, rfl, ?_⟩; have HO536 := Aside0.mk (Kd.S_lower (Kd.S_new' ho0 (Kd.S_lt (by (with_reducible repeat (first | apply Kd.S_alloc | apply Kd.S_drewN | apply Kd.S_drew)); exact HO532.out))) (below_size TB)); replace HO532 := Aside0.mk (Kd.S_elder' (by (with_reducible repeat (first | apply Kd.S_alloc | apply Kd.S_drewN | apply Kd.S_drew)); exact HO532.out) (Kd.S_base ho0) hb); replace HB := BS hb; (try clear hb); (try clear hb2); (try clear hk); (try clear hi); (try clear ho0); obtain ⟨Ao27, co27, eo27⟩ := Kd.S_slice HO536.out; subst eo27) | ((with_reducible refine gate_callee (f := 41) rfl ?_); refine goesL_ (some 25) rfl rfl Tryd.func41 KR rfl #[.string a0, .slice Ao27 t534.length co27] rfl TA ?_; (with_reducible refine (impl_GoodGaps.calls k a0 _ _ t534 t537 _ ?side1 ?side2 A10.out).mono ?_); (case side1 => exact CW ((Kd.S_reads' HO536.out).2.2)); (case side2 => exact (Kd.S_reads' HO536.out).2.1); rintro e w28 ⟨rfl, hb⟩; refine ⟨_, rfl, ?_⟩; replace HO532 := Aside0.mk (Kd.S_below (by (with_reducible repeat (first | apply Kd.S_alloc | apply Kd.S_drewN | apply Kd.S_drew)); exact HO532.out) hb); replace HO536 := Aside0.mk (Kd.S_below (by (with_reducible repeat (first | apply Kd.S_alloc | apply Kd.S_drewN | apply Kd.S_drew)); exact HO536.out) hb); replace HB := BS hb; (try clear hb); (try clear hb2); (try clear hk); (try clear hi)) | ((with_reducible refine gate_callee (f := 40) rfl ?_); refine goesL_ (some 31) rfl rfl Tryd.func40 KR rfl #[.slice A1 l1.length c1] rfl TA ?_; (with_reducible refine (laws_toGapS.calls k _ _ l1 t538 _ ?side1 ?side2 A19.out).mono ?_); (case side1 => exact CW ((Kd.C_below HR1.out HB.out))); (case side2 => exact HC1.out); rintro e w29 ⟨v539, rfl, ho0, hb⟩; refine ⟨_, rfl, ?_⟩; have HO540 := Aside0.mk (Kd.S_lower (Kd.S_new' (Kd.S_new' ho0 (Kd.S_lt (by (with_reducible repeat (first | apply Kd.S_alloc | apply Kd.S_drewN | apply Kd.S_drew)); exact HO532.out))) (Kd.S_lt (by (with_reducible repeat (first | apply Kd.S_alloc | apply Kd.S_drewN | apply Kd.S_drew)); exact HO536.out))) (below_size TB)); replace HO532 := Aside0.mk (Kd.S_elder' (by (with_reducible repeat (first | apply Kd.S_alloc | apply Kd.S_drewN | apply Kd.S_drew)); exact HO532.out) (Kd.S_base ho0) hb); replace HO536 := Aside0.mk (Kd.S_elder' (by (with_reducible repeat (first | apply Kd.S_alloc | apply Kd.S_drewN | apply Kd.S_drew)); exact HO536.out) (Kd.S_base ho0) hb); replace HB := BS hb; (try clear hb); (try clear hb2); (try clear hk); (try clear hi); (try clear ho0); obtain ⟨Ao30, co30, eo30⟩ := Kd.S_slice HO540.out; subst eo30) | ((with_reducible refine gate_callee (f := 42) rfl ?_); refine goesL_ (some 32) rfl rfl Tryd.func42 KR rfl #[.slice Ao27 t534.length co27, .slice Ao30 t538.length co30] rfl TA ?_; (with_reducible refine (laws_eqGapS.calls k _ _ t534 _ _ t538 true _ ?side1 ?side2 ?side3 ?side4 A20.out).mono ?_); (case side1 => exact CW ((Kd.S_reads' HO536.out).2.2)); (case side2 => exact (Kd.S_reads' HO536.out).2.1); (case side3 => exact CW ((Kd.S_reads' HO540.out).2.2)); (case side4 => exact (Kd.S_reads' HO540.out).2.1); rintro e w31 ⟨rfl, hb⟩; refine ⟨_, rfl, ?_⟩; replace HO532 := Aside0.mk (Kd.S_below (by (with_reducible repeat (first | apply Kd.S_alloc | apply Kd.S_drewN | apply Kd.S_drew)); exact HO532.out) hb); replace HO536 := Aside0.mk (Kd.S_below (by (with_reducible repeat (first | apply Kd.S_alloc | apply Kd.S_drewN | apply Kd.S_drew)); exact HO536.out) hb); replace HO540 := Aside0.mk (Kd.S_below (by (with_reducible repeat (first | apply Kd.S_alloc | apply Kd.S_drewN | apply Kd.S_drew)); exact HO540.out) hb); replace HB := BS hb; (try clear hb); (try clear hb2); (try clear hk); (try clear hi)))
     go_ret
     exact ⟨TE, TB⟩
    ·replace c21 := Bool.eq_false_iff.mpr c21
     subst c21
     replace H := iff' H
     obtain rfl := Option.some.inj H
     go_enter Tryd.func9, Tryd.ntmps9
     go_wp2_with (first | ((with_reducible refine gate_callee (f := 38) rfl ?_); refine goesL_ (some 14) rfl rfl Tryd.func38 KR rfl #[.slice A1 l1.length c1, .int .i64 1048576] rfl TA ?_; (with_reducible refine (laws_szGapS.calls k _ _ l1 1048576 t529 _ ?side1 ?side2 A4.out).mono ?_); (case side1 => exact CW (HR1.out)); (case side2 => exact HC1.out); rintro e w32 ⟨rfl, hb⟩; refine ⟨_, rfl, ?_⟩; replace HB := BS hb; (try clear hb); (try clear hb2); (try clear hk); (try clear hi)) | ((with_reducible refine gate_callee (f := 40) rfl ?_); refine goesL_ (some 19) rfl rfl Tryd.func40 KR rfl #[.slice A1 l1.length c1] rfl TA ?_; (with_reducible refine (laws_toGapS.calls k _ _ l1 t530 _ ?side1 ?side2 A7.out).mono ?_); (case side1 => exact CW ((Kd.C_below HR1.out HB.out))); (case side2 => exact HC1.out); rintro e w33 ⟨v531, rfl, ho0, hb⟩; refine ⟨_, rfl, ?_⟩; have HO532 := Aside0.mk (Kd.S_lower ho0 (below_size TB)); replace HB := BS hb; (try clear hb); (try clear hb2); (try clear hk); (try clear hi); (try clear ho0); obtain ⟨Ao34, co34, eo34⟩ := Kd.S_slice HO532.out; subst eo34) | ((with_reducible refine gate_callee (f := 39) rfl ?_); refine goesL_ (some 20) rfl rfl Tryd.func39 KR rfl #[.string a0, .slice Ao34 t530.length co34] rfl TA ?_; (with_reducible refine (spec_GoodGaps.calls k a0 _ _ t530 t533 _ ?side1 ?side2 A8.out).mono ?_); (case side1 => exact CW ((Kd.S_reads' HO532.out).2.2)); (case side2 => exact (Kd.S_reads' HO532.out).2.1); rintro e w35 ⟨rfl, hb⟩; refine ⟨_, rfl, ?_⟩; replace HO532 := Aside0.mk (Kd.S_below (by (with_reducible repeat (first | apply Kd.S_alloc | apply Kd.S_drewN | apply Kd.S_drew)); exact HO532.out) hb); replace HB := BS hb; (try clear hb); (try clear hb2); (try clear hk); (try clear hi)) | ((with_reducible refine gate_callee (f := 40) rfl ?_); refine goesL_ (some 22) rfl rfl Tryd.func40 KR rfl #[.slice A1 l1.length c1] rfl TA ?_; (with_reducible refine (laws_toGapS.calls k _ _ l1 t534 _ ?side1 ?side2 A9.out).mono ?_); (case side1 => exact CW ((Kd.C_below HR1.out HB.out))); (case side2 => exact HC1.out); rintro e w36 ⟨v535, rfl, ho0, hb⟩; refine ⟨_, rfl, ?_⟩; have HO536 := Aside0.mk (Kd.S_lower (Kd.S_new' ho0 (Kd.S_lt (by (with_reducible repeat (first | apply Kd.S_alloc | apply Kd.S_drewN | apply Kd.S_drew)); exact HO532.out))) (below_size TB)); replace HO532 := Aside0.mk (Kd.S_elder' (by (with_reducible repeat (first | apply Kd.S_alloc | apply Kd.S_drewN | apply Kd.S_drew)); exact HO532.out) (Kd.S_base ho0) hb); replace HB := BS hb; (try clear hb); (try clear hb2); (try clear hk); (try clear hi); (try clear ho0); obtain ⟨Ao37, co37, eo37⟩ := Kd.S_slice HO536.out; subst eo37) | ((with_reducible refine gate_callee (f := 41) rfl ?_); refine goesL_ (some 25) rfl rfl Tryd.func41 KR rfl #[.string a0, .slice Ao37 t534.length co37] rfl TA ?_; (with_reducible refine (impl_GoodGaps.calls k a0 _ _ t534 t537 _ ?side1 ?side2 A10.out).mono ?_); (case side1 => exact CW ((Kd.S_reads' HO536.out).2.2)); (case side2 => exact (Kd.S_reads' HO536.out).2.1); rintro e w38 ⟨rfl, hb⟩; refine ⟨_, rfl, ?_⟩; replace HO532 := Aside0.mk (Kd.S_below (by (with_reducible repeat (first | apply Kd.S_alloc | apply Kd.S_drewN | apply Kd.S_drew)); exact HO532.out) hb); replace HO536 := Aside0.mk (Kd.S_below (by (with_reducible repeat (first | apply Kd.S_alloc | apply Kd.S_drewN | apply Kd.S_drew)); exact HO536.out) hb); replace HB := BS hb; (try clear hb); (try clear hb2); (try clear hk); (try clear hi)) | ((with_reducible refine gate_callee (f := 40) rfl ?_); refine goesL_ (some 31) rfl rfl Tryd.func40 KR rfl #[.slice A1 l1.length c1] rfl TA ?_; (with_reducible refine (laws_toGapS.calls k _ _ l1 t538 _ ?side1 ?side2 A19.out).mono ?_); (case side1 => exact CW ((Kd.C_below HR1.out HB.out))); (case side2 => exact HC1.out); rintro e w39 ⟨v539, rfl, ho0, hb⟩; refine ⟨_, rfl, ?_⟩; have HO540 := Aside0.mk (Kd.S_lower (Kd.S_new' (Kd.S_new' ho0 (Kd.S_lt (by (with_reducible repeat (first | apply Kd.S_alloc | apply Kd.S_drewN | apply Kd.S_drew)); exact HO532.out))) (Kd.S_lt (by (with_reducible repeat (first | apply Kd.S_alloc | apply Kd.S_drewN | apply Kd.S_drew)); exact HO536.out))) (below_size TB)); replace HO532 := Aside0.mk (Kd.S_elder' (by (with_reducible repeat (first | apply Kd.S_alloc | apply Kd.S_drewN | apply Kd.S_drew)); exact HO532.out) (Kd.S_base ho0) hb); replace HO536 := Aside0.mk (Kd.S_elder' (by (with_reducible repeat (first | apply Kd.S_alloc | apply Kd.S_drewN | apply Kd.S_drew)); exact HO536.out) (Kd.S_base ho0) hb); replace HB := BS hb; (try clear hb); (try clear hb2); (try clear hk); (try clear hi); (try clear ho0); obtain ⟨Ao40, co40, eo40⟩ := Kd.S_slice HO540.out; subst eo40) | ((with_reducible refine gate_callee (f := 42) rfl ?_); refine goesL_ (some 32) rfl rfl Tryd.func42 KR rfl #[.slice Ao37 t534.length co37, .slice Ao40 t538.length co40] rfl TA ?_; (with_reducible refine (laws_eqGapS.calls k _ _ t534 _ _ t538 false _ ?side1 ?side2 ?side3 ?side4 A20.out).mono ?_); (case side1 => exact CW ((Kd.S_reads' HO536.out).2.2)); (case side2 => exact (Kd.S_reads' HO536.out).2.1); (case side3 => exact CW ((Kd.S_reads' HO540.out).2.2)); (case side4 => exact (Kd.S_reads' HO540.out).2.1); rintro e w41 ⟨rfl, hb⟩; refine ⟨_, rfl, ?_⟩; replace HO532 := Aside0.mk (Kd.S_below (by (with_reducible repeat (first | apply Kd.S_alloc | apply Kd.S_drewN | apply Kd.S_drew)); exact HO532.out) hb); replace HO536 := Aside0.mk (Kd.S_below (by (with_reducible repeat (first | apply Kd.S_alloc | apply Kd.S_drewN | apply Kd.S_drew)); exact HO536.out) hb); replace HO540 := Aside0.mk (Kd.S_below (by (with_reducible repeat (first | apply Kd.S_alloc | apply Kd.S_drewN | apply Kd.S_drew)); exact HO540.out) hb); replace HB := BS hb; (try clear hb); (try clear hb2); (try clear hk); (try clear hi)))
     go_ret
     exact ⟨TE, TB⟩

/-- THE ONE PURE STATEMENT of laws_FnExactGoodGaps. -/
def laws_FnExactGoodGaps.Pure : Prop := ∀ (a0 : ByteArray) (l1 : List (S_LGap)), (a0.size ≤ maxLen) → (l1.length ≤ maxLen ∧ ∀ x_ ∈ l1, WF_LGap x_) → ∃ k, laws_FnExactGoodGaps.f k a0 l1 = some true
end
end Go.Proofs.YthckpgglghfiiaaDoor.Pp
