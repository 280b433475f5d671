/- The functions that the law reaches, one Lean function and its proof for each; written by wip/pp of this workplace, joined by claimit.py. -/
import Derived.Test.YtioefechhknnlaaGreatDoorProg
import Derived.Below
import Derived.Deep.Draws
import Derived.Deep.AppendLies
import Derived.Maps.AppendAt
import Derived.OwnWalk
import Derived.Laws.BytesArg
import Derived.Laws.MakeOwn
import Derived.Laws.OwnMore
import Derived.Deep.OwnRows
import Derived.Tactics
import Derived.Lib.ConvBytes
import Derived.Laws.Slices
import Derived.WalkKit
import Derived.KernelRfl
import Derived.RowKit3
import Derived.Deep.LoopGhost
import Derived.Deep.QuietTactic
import Derived.BigQuiet
import Derived.WideLaws
import Derived.Deep.DeepCutAuto
import Derived.Deep.CutBlock
import Derived.Deep.RegionHeld3
import Derived.Laws.Rows
import Derived.Lib.AppendStr
import Derived.ArgAppend
import Derived.Laws.IdiomCopy
import Derived.OrdersHeld
import Derived.Laws.BitsLemmas
import Derived.RowKit
import Derived.Test.YtioefechhknnlaaGreatDoorKFnExactEncloserOfW
import Derived.Test.YtioefechhknnlaaGreatDoorJFnExactEncloserOf0
namespace Go.Proofs.YtioefechhknnlaaGreatDoor.Pp
open Go.RowKit Go.Proofs.YtioefechhknnlaaGreatDoorW.PrintWords Go.Proofs.YtioefechhknnlaaGreatDoorW.PrintLast Go.Proofs.YtioefechhknnlaaGreatDoorW.PrintMore
attribute [local go_sem] max2_int min2_int max_two min_two max_three min_three max_four min_four   -- for this text's walks alone
set_option linter.unusedVariables false
set_option linter.unusedSimpArgs false
set_option maxHeartbeats 8000000
set_option maxRecDepth 100000

section
/-! ### spec_l6Cut: function 138 -/
mutual
def spec_l6Cut.l0 : Nat → ByteArray → List (S_Record) → ByteArray → ByteArray → Bool → Option (ByteArray × Bool)
 | 0, _, _, _, _, _ => none
 | k + 1, x0, x1, x2, x8, x9 => if x2.toList = x0.toList then (spec_l6Cut.j1 k x0 x1 x2 x8 x9 false) else ((spec_l1Below.f x2 x0).bind fun t223 => (spec_l6Cut.j1 k x0 x1 x2 x8 x9 t223))
def spec_l6Cut.j1 : Nat → ByteArray → List (S_Record) → ByteArray → ByteArray → Bool → Bool → Option (ByteArray × Bool)
 | 0, _, _, _, _, _, _ => none
 | k + 1, x0, x1, x2, x8, x9, x17 => if x17 = true then ((spec_l6Has.f k x1 x2 2).bind fun t224 => (if t224 = true then (if x2.toList = ([] : List UInt8) then (some (x2, true)) else ((spec_l1Parent.f k x2).bind fun t225 => (spec_l6Cut.l0 k x0 x1 t225 x2 true))) else (if x2.toList = ([] : List UInt8) then (some (x8, x9)) else ((spec_l1Parent.f k x2).bind fun t226 => (spec_l6Cut.l0 k x0 x1 t226 x8 x9))))) else (some (x8, x9))
end
def spec_l6Cut.f (k : Nat) (a0 : ByteArray) (l1 : List (S_Record)) (a2 : ByteArray) : Option (ByteArray × Bool) := spec_l6Cut.l0 k a0 l1 a2 (⟨#[]⟩ : ByteArray) false
theorem spec_l6Cut.calls (k : Nat) (a0 : ByteArray) (A1 : Option Addr) (c1 : Nat) (l1 : List (S_Record)) (a2 : ByteArray) (r1 : ByteArray) (r2 : Bool) (w : World) (hr1 : Kd.C k_Record w A1 l1.length l1) (hc1 : l1.length ≤ c1) (h : spec_l6Cut.f k a0 l1 a2 = some (r1, r2)) :
  Calls Tryz.prog 138 #[.string a0, .slice A1 l1.length c1, .string a2] w fun e w' => e = .returned (.tuple #[.string r1, .bool r2]) ∧ Below w.heap.size w w' := by
 have HR1 := Aside0.mk hr1
 have HC1 := Aside0.mk hc1
 clear hr1 hc1
 have HB := Aside0.mk (Below.refl w.heap.size w)
 have H : (spec_l6Cut.l0 k a0 l1 a2 (⟨#[]⟩ : ByteArray) false) = some (r1, r2) := h
 clear h
 have H' := Aside0.mk H
 clear H
 go_enter Tryz.func138, Tryz.ntmps138
 go_wp2
 go_loopg [2, 8, 9] k (fun kq v2 v8 v9 w' => ∃ (x2_1 : ByteArray) (x8_1 : ByteArray) (x9_1 : Bool), v2 = .string x2_1 ∧ v8 = .string x8_1 ∧ v9 = .bool x9_1 ∧ Aside0 (spec_l6Cut.l0 kq a0 l1 x2_1 x8_1 x9_1 = some (r1, r2)) ∧ Aside0 (kq ≤ k) ∧ Aside0 (Below w.heap.size w w'))
 case atStart => exact ⟨(a2), ((⟨#[]⟩ : ByteArray)), (false), TF, TF, TF, H', ⟨Nat.le_refl _⟩, ⟨TB⟩⟩
 case round =>
  clear H'
  try clear c1
  try clear p2
  obtain ⟨x2_1, x8_1, x9_1, rfl, rfl, rfl, HA, HK1, HB⟩ := hrel
  cases gk with
  | zero => exact absurd HA.out (by simp [spec_l6Cut.l0])
  | succ k1 =>
   have H := HA.out
   clear HA
   simp only [spec_l6Cut.l0] at H
   have HC4 := Aside0.mk H
   clear H
   go_upto_region 3 with (fail)
   go_cut [17] (fun v17 wc => ∃ (kq : Nat) (x17_3 : Bool), v17 = .bool x17_3 ∧ Aside0 (spec_l6Cut.j1 kq a0 l1 x2_1 x8_1 x9_1 x17_3 = some (r1, r2)) ∧ Aside0 (kq ≤ k1) ∧ Aside0 (Below w.heap.size w wc))
   case first =>
    have H := HC4.out
    clear HC4
    by_cases c5 : x2_1.toList = a0.toList
    ·rw [if_pos c5] at H
     have c5b0 : (x2_1.toList == a0.toList) = true := beq_iff_eq.mpr c5
     have c5b1 : (x2_1.toList != a0.toList) = false := bne_eq_false_iff_eq.mpr c5
     clear c5
     (first | rw [c5b0] | (simp only [i64_w, i32_w]; rw [c5b0]) | rw [c5b1] | skip)
     have H' := Aside0.mk H
     clear H
     go_wp2
     go_meet
     case rel => exact ⟨_, (false), TF, H', ⟨by have := HK1.out; first | omega | exact Nat.le_refl _⟩, ⟨TB⟩⟩
    ·rw [if_neg c5] at H
     have c5b0 : (x2_1.toList == a0.toList) = false := beq_eq_false_iff_ne.mpr c5
     have c5b1 : (x2_1.toList != a0.toList) = true := bne_iff_ne.mpr c5
     (first | rw [c5b0] | (simp only [i64_w, i32_w]; rw [c5b0]) | rw [c5b1] | skip)
     obtain ⟨t223, A6, H⟩ := bnd H
     have H' := Aside0.mk H
     clear H
     go_wp2_with (first | (go_at_call 59; (with_reducible refine (spec_l1Below.calls x2_1 a0 t223 _ A6.out).mono ?_); rintro e w' ⟨rfl, ⟨nd, rfl⟩⟩))
     go_meet
     case rel => exact ⟨_, (t223), TF, H', ⟨by have := HK1.out; first | omega | exact Nat.le_refl _⟩, ⟨TB⟩⟩
   case rest =>
    clear HC4
    try clear c1
    try clear p2
    try clear c5
    try clear c5b0
    try clear c5b1
    try clear p2
    obtain ⟨kq, x17_3, rfl, HA, HJ3, HB⟩ := hcut
    cases kq with
    | zero => exact absurd HA.out (by simp [spec_l6Cut.j1])
    | succ kj3 =>
     have H := HA.out
     clear HA
     simp only [spec_l6Cut.j1] at H
     by_cases c7 : x17_3 = true
     ·subst c7
      replace H := ift H
      obtain ⟨t224, A8, H⟩ := bnd H
      by_cases c9 : t224 = true
      ·subst c9
       replace H := ift H
       by_cases c10 : x2_1.toList = ([] : List UInt8)
       ·rw [if_pos c10] at H
        have c10b0 : (x2_1.toList == ([] : List UInt8)) = true := beq_iff_eq.mpr c10
        have c10b1 : (x2_1.toList != ([] : List UInt8)) = false := bne_eq_false_iff_eq.mpr c10
        clear c10
        simp only [Option.some.injEq, Prod.mk.injEq] at H
        obtain ⟨rfl, rfl⟩ := H
        go_wp2_with (first | ((with_reducible refine gate_callee (f := 172) rfl ?_); refine goesL_ (some 20) rfl rfl Tryz.func172 KR rfl #[.slice A1 l1.length c1, .string x2_1, .int .i64 2] rfl TA ?_; (with_reducible refine (spec_l6Has.calls kj3 _ _ l1 x2_1 2 true _ ?side1 ?side2 A8.out).mono ?_); (case side1 => exact CW ((Kd.C_below HR1.out HB.out))); (case side2 => exact HC1.out); rintro e w11 ⟨rfl, hb⟩; refine ⟨_, rfl, ?_⟩; replace HB := BS hb; (try clear hb); (try clear hb2); (try clear hk); (try clear hi)))
        go_ret2
        exact ⟨by first | rfl | (simp [errW_none, errW_some] <;> rfl) | (simp [*, errW_none, errW_some] <;> rfl) | (simp [errW_none, errW_some]; rw [Bool.eq_iff_iff]; simp), TB⟩
       ·rw [if_neg c10] at H
        have c10b0 : (x2_1.toList == ([] : List UInt8)) = false := beq_eq_false_iff_ne.mpr c10
        have c10b1 : (x2_1.toList != ([] : List UInt8)) = true := bne_iff_ne.mpr c10
        obtain ⟨t225, A12, H⟩ := bnd H
        have H' := Aside0.mk H
        clear H
        go_wp2_with (first | ((with_reducible refine gate_callee (f := 172) rfl ?_); refine goesL_ (some 20) rfl rfl Tryz.func172 KR rfl #[.slice A1 l1.length c1, .string x2_1, .int .i64 2] rfl TA ?_; (with_reducible refine (spec_l6Has.calls kj3 _ _ l1 x2_1 2 true _ ?side1 ?side2 A8.out).mono ?_); (case side1 => exact CW ((Kd.C_below HR1.out HB.out))); (case side2 => exact HC1.out); rintro e w13 ⟨rfl, hb⟩; refine ⟨_, rfl, ?_⟩; replace HB := BS hb; (try clear hb); (try clear hb2); (try clear hk); (try clear hi)) | ((with_reducible refine gate_callee (f := 110) rfl ?_); refine goesL_ (some 25) rfl rfl Tryz.func110 KR rfl #[.string x2_1] rfl TA ?_; (with_reducible refine (spec_l1Parent.calls kj3 x2_1 t225 _ A12.out).mono ?_); rintro e w' ⟨rfl, ⟨nd, rfl⟩⟩; refine ⟨_, rfl, ?_⟩))
        go_roundg kj3
        case measure => have := HK1.out; have := HJ3.out; omega
        case rel => exact ⟨(t225), (x2_1), (true), TF, TF, TF, H', ⟨by have := HK1.out; have := HJ3.out; omega⟩, ⟨TB⟩⟩
      ·replace c9 := Bool.eq_false_iff.mpr c9
       subst c9
       replace H := iff' H
       by_cases c14 : x2_1.toList = ([] : List UInt8)
       ·rw [if_pos c14] at H
        have c14b0 : (x2_1.toList == ([] : List UInt8)) = true := beq_iff_eq.mpr c14
        have c14b1 : (x2_1.toList != ([] : List UInt8)) = false := bne_eq_false_iff_eq.mpr c14
        clear c14
        simp only [Option.some.injEq, Prod.mk.injEq] at H
        obtain ⟨rfl, rfl⟩ := H
        go_wp2_with (first | ((with_reducible refine gate_callee (f := 172) rfl ?_); refine goesL_ (some 20) rfl rfl Tryz.func172 KR rfl #[.slice A1 l1.length c1, .string x2_1, .int .i64 2] rfl TA ?_; (with_reducible refine (spec_l6Has.calls kj3 _ _ l1 x2_1 2 false _ ?side1 ?side2 A8.out).mono ?_); (case side1 => exact CW ((Kd.C_below HR1.out HB.out))); (case side2 => exact HC1.out); rintro e w15 ⟨rfl, hb⟩; refine ⟨_, rfl, ?_⟩; replace HB := BS hb; (try clear hb); (try clear hb2); (try clear hk); (try clear hi)))
        go_ret2
        exact ⟨by first | rfl | (simp [errW_none, errW_some] <;> rfl) | (simp [*, errW_none, errW_some] <;> rfl) | (simp [errW_none, errW_some]; rw [Bool.eq_iff_iff]; simp), TB⟩
       ·rw [if_neg c14] at H
        have c14b0 : (x2_1.toList == ([] : List UInt8)) = false := beq_eq_false_iff_ne.mpr c14
        have c14b1 : (x2_1.toList != ([] : List UInt8)) = true := bne_iff_ne.mpr c14
        obtain ⟨t226, A16, H⟩ := bnd H
        have H' := Aside0.mk H
        clear H
        go_wp2_with (first | ((with_reducible refine gate_callee (f := 172) rfl ?_); refine goesL_ (some 20) rfl rfl Tryz.func172 KR rfl #[.slice A1 l1.length c1, .string x2_1, .int .i64 2] rfl TA ?_; (with_reducible refine (spec_l6Has.calls kj3 _ _ l1 x2_1 2 false _ ?side1 ?side2 A8.out).mono ?_); (case side1 => exact CW ((Kd.C_below HR1.out HB.out))); (case side2 => exact HC1.out); rintro e w17 ⟨rfl, hb⟩; refine ⟨_, rfl, ?_⟩; replace HB := BS hb; (try clear hb); (try clear hb2); (try clear hk); (try clear hi)) | ((with_reducible refine gate_callee (f := 110) rfl ?_); refine goesL_ (some 25) rfl rfl Tryz.func110 KR rfl #[.string x2_1] rfl TA ?_; (with_reducible refine (spec_l1Parent.calls kj3 x2_1 t226 _ A16.out).mono ?_); rintro e w' ⟨rfl, ⟨nd, rfl⟩⟩; refine ⟨_, rfl, ?_⟩))
        go_roundg kj3
        case measure => have := HK1.out; have := HJ3.out; omega
        case rel => exact ⟨(t226), (x8_1), (x9_1), TF, TF, TF, H', ⟨by have := HK1.out; have := HJ3.out; omega⟩, ⟨TB⟩⟩
     ·replace c7 := Bool.eq_false_iff.mpr c7
      subst c7
      replace H := iff' H
      simp only [Option.some.injEq, Prod.mk.injEq] at H
      obtain ⟨rfl, rfl⟩ := H
      go_wp2
      go_ret2
      exact ⟨by first | rfl | (simp [errW_none, errW_some] <;> rfl) | (simp [*, errW_none, errW_some] <;> rfl) | (simp [errW_none, errW_some]; rw [Bool.eq_iff_iff]; simp), TB⟩
end
section
/-! ### spec_l6Rule: function 147 -/
mutual
def spec_l6Rule.l0 : Nat → ByteArray → List (S_Record) → Int → List (S_Record) → Int → Int → Option (Int)
 | 0, _, _, _, _, _, _ => none
 | k + 1, x0, x1, x5, x18, x19, x20 => if x20 < x19 then (if 0 ≤ x20 then (if x20 < (x18.length : Int) then ((spec_l1Below.f ((rd_TRecord x18 x20).f0) x0).bind fun t229 => (if t229 = true then (if ((rd_TRecord x18 x20).f1) = 6 then (if ((rd_TRecord x18 x20).f0).toList = x0.toList then (spec_l6Rule.l0 k x0 x1 (wrap64 (x5 + 1)) x18 x19 (wrap64 (x20 + 1))) else (spec_l6Rule.l0 k x0 x1 (wrap64 ((wrap64 (x5 + 1)) + 1)) x18 x19 (wrap64 (x20 + 1)))) else (spec_l6Rule.l0 k x0 x1 x5 x18 x19 (wrap64 (x20 + 1)))) else (some 1))) else (none)) else (none)) else (if x5 = 1 then (spec_l6Rule.l1 k x0 x1 x1 (x1.length : Int) 0) else (some 2))
def spec_l6Rule.l1 : Nat → ByteArray → List (S_Record) → List (S_Record) → Int → Int → Option (Int)
 | 0, _, _, _, _, _ => none
 | k + 1, x0, x1, x43, x44, x45 => if x45 < x44 then (if 0 ≤ x45 then (if x45 < (x43.length : Int) then (if x45 > 0 then (if 0 ≤ (wrap64 (x45 - 1)) then (if (wrap64 (x45 - 1)) < (x1.length : Int) then (if ((rd_TRecord x1 (wrap64 (x45 - 1))).f0).toList = ((rd_TRecord x43 x45).f0).toList then (if ((rd_TRecord x1 (wrap64 (x45 - 1))).f1) = ((rd_TRecord x43 x45).f1) then (if ((rd_TRecord x1 (wrap64 (x45 - 1))).f2) = ((rd_TRecord x43 x45).f2) then (if ((rd_TRecord x1 (wrap64 (x45 - 1))).f3).toList = ((rd_TRecord x43 x45).f3).toList then (some 3) else (spec_l6Rule.l1 k x0 x1 x43 x44 (wrap64 (x45 + 1)))) else (some 3)) else (spec_l6Rule.l1 k x0 x1 x43 x44 (wrap64 (x45 + 1)))) else (spec_l6Rule.l1 k x0 x1 x43 x44 (wrap64 (x45 + 1)))) else (none)) else (none)) else (spec_l6Rule.l1 k x0 x1 x43 x44 (wrap64 (x45 + 1)))) else (none)) else (none)) else (spec_l6Rule.l2 k x0 x1 x1 (x1.length : Int) 0)
def spec_l6Rule.l2 : Nat → ByteArray → List (S_Record) → List (S_Record) → Int → Int → Option (Int)
 | 0, _, _, _, _, _ => none
 | k + 1, x0, x1, x97, x98, x99 => if x99 < x98 then (if 0 ≤ x99 then (if x99 < (x97.length : Int) then (if x99 ≤ (x1.length : Int) then ((some (x1.take (x99 : Int).toNat : List (S_Record))).bind fun y238 => (spec_l6Rule.l3 k x0 x1 x97 x98 x99 y238 (y238.length : Int) 0 ((rd_TRecord x97 x99).f0) ((rd_TRecord x97 x99).f1) ((rd_TRecord x97 x99).f2) ((rd_TRecord x97 x99).f3))) else (none)) else (none)) else (none)) else ((spec_l6Has.f k x1 x0 5).bind fun t244 => (if t244 = true then (some 5) else (spec_l6Rule.l4 k x0 x1 x1 (x1.length : Int) 0)))
def spec_l6Rule.l3 : Nat → ByteArray → List (S_Record) → List (S_Record) → Int → Int → List (S_Record) → Int → Int → ByteArray → Int → Int → ByteArray → Option (Int)
 | 0, _, _, _, _, _, _, _, _, _, _, _, _ => none
 | k + 1, x0, x1, x97, x98, x99, x106, x107, x108, x238000, x238001, x238002, x238003 => if x108 < x107 then (if 0 ≤ x108 then (if x108 < (x106.length : Int) then (if ((rd_TRecord x106 x108).f0).toList = x238000.toList then (if ((rd_TRecord x106 x108).f1) = 5 then (some 4) else (if x238001 = 5 then (some 4) else (spec_l6Rule.l3 k x0 x1 x97 x98 x99 x106 x107 (wrap64 (x108 + 1)) x238000 x238001 x238002 x238003))) else (spec_l6Rule.l3 k x0 x1 x97 x98 x99 x106 x107 (wrap64 (x108 + 1)) x238000 x238001 x238002 x238003)) else (none)) else (none)) else (spec_l6Rule.l2 k x0 x1 x97 x98 (wrap64 (x99 + 1)))
def spec_l6Rule.l4 : Nat → ByteArray → List (S_Record) → List (S_Record) → Int → Int → Option (Int)
 | 0, _, _, _, _, _ => none
 | k + 1, x0, x1, x132, x133, x134 => if x134 < x133 then (if 0 ≤ x134 then (if x134 < (x132.length : Int) then ((spec_l6Cut.f k x0 x1 ((rd_TRecord x132 x134).f0)).bind fun bt247 => (if bt247.2 = true then (if ((rd_TRecord x132 x134).f1) = 1 then (spec_l6Rule.l4 k x0 x1 x132 x133 (wrap64 (x134 + 1))) else (if ((rd_TRecord x132 x134).f1) = 2 then (if ((rd_TRecord x132 x134).f0).toList = bt247.1.toList then (spec_l6Rule.l4 k x0 x1 x132 x133 (wrap64 (x134 + 1))) else (some 6)) else (some 6))) else (spec_l6Rule.l4 k x0 x1 x132 x133 (wrap64 (x134 + 1))))) else (none)) else (none)) else (some 0)
end
def spec_l6Rule.f (k : Nat) (a0 : ByteArray) (l1 : List (S_Record)) : Option (Int) := spec_l6Rule.l0 k a0 l1 0 l1 (l1.length : Int) 0
theorem spec_l6Rule.calls (k : Nat) (a0 : ByteArray) (A1 : Option Addr) (c1 : Nat) (l1 : List (S_Record)) (r : Int) (w : World) (hr1 : Kd.C k_Record w A1 l1.length l1) (hc1 : l1.length ≤ c1) (h : spec_l6Rule.f k a0 l1 = some r) :
  Calls Tryz.prog 147 #[.string a0, .slice A1 l1.length c1] w fun e w' => e = .returned (.int .i64 r) ∧ Below w.heap.size w w' := by
 have hu100 := Tryz.underlying100
 have HR1 := Aside0.mk hr1
 have HC1 := Aside0.mk hc1
 clear hr1 hc1
 have HB := Aside0.mk (Below.refl w.heap.size w)
 have H : (spec_l6Rule.l0 k a0 l1 0 l1 (l1.length : Int) 0) = some r := h
 clear h
 have H' := Aside0.mk H
 clear H
 go_enter Tryz.func147, Tryz.ntmps147
 go_wp2
 repeat (go_quiet (fail); try go_wp2)
 go_loopg [5, 20] k (fun kq v5 v20 w' => ∃ (x5_1 : Int) (x20_1 : Int), v5 = .int .i64 x5_1 ∧ v20 = .int .i64 x20_1 ∧ Aside0 (spec_l6Rule.l0 kq a0 l1 x5_1 l1 (l1.length : Int) x20_1 = some r) ∧ Aside0 (kq ≤ k) ∧ Aside0 (Below w.heap.size w w'))
 case atStart => exact ⟨(0), (0), TF, TF, H', ⟨Nat.le_refl _⟩, ⟨TB⟩⟩
 case round =>
  clear H'
  try clear c1
  try clear p2
  obtain ⟨x5_1, x20_1, rfl, rfl, HA, HK1, HB⟩ := hrel
  cases gk with
  | zero => exact absurd HA.out (by simp [spec_l6Rule.l0])
  | succ k1 =>
   have H := HA.out
   clear HA
   simp only [spec_l6Rule.l0] at H
   by_cases c3 : x20_1 < (l1.length : Int)
   ·rw [if_pos c3] at H
    have c3b0 : decide (x20_1 < (l1.length : Int)) = true := decide_eq_true c3
    clear c3
    obtain ⟨c4, H⟩ := ifn H
    have c4b0 : decide (0 ≤ x20_1) = true := decide_eq_true c4
    clear c4
    obtain ⟨c5, H⟩ := ifn H
    have c5b0 : decide (x20_1 < (l1.length : Int)) = true := decide_eq_true c5
    clear c5
    obtain ⟨t229, A6, H⟩ := bnd H
    by_cases c7 : t229 = true
    ·subst c7
     replace H := ift H
     by_cases c8 : ((rd_TRecord l1 x20_1).f1) = 6
     ·rw [if_pos c8] at H
      have c8b0 : (((rd_TRecord l1 x20_1).f1) == 6) = true := beq_iff_eq.mpr c8
      have c8b1 : (((rd_TRecord l1 x20_1).f1) != 6) = false := bne_eq_false_iff_eq.mpr c8
      clear c8
      by_cases c9 : ((rd_TRecord l1 x20_1).f0).toList = a0.toList
      ·rw [if_pos c9] at H
       have c9b0 : (((rd_TRecord l1 x20_1).f0).toList == a0.toList) = true := beq_iff_eq.mpr c9
       have c9b1 : (((rd_TRecord l1 x20_1).f0).toList != a0.toList) = false := bne_eq_false_iff_eq.mpr c9
       clear c9
       have H' := Aside0.mk H
       clear H
       have p227 : 0 ≤ (x20_1 : Int) := TD
       have q227 : x20_1 < (l1.length : Int) := TD
       obtain ⟨ad227, e227, hx227_0, hx227_1, hx227_2, hx227_3⟩ := at_TRecord (Kd.C_below HR1.out HB.out) x20_1 p227 q227
       cases e227
       replace p227 := eq_true p227
       replace q227 := eq_true q227
       go_wp2_with (first | ((with_reducible refine gate_dst (N := 7) rfl ?_); refine bE 7 #[.string (⟨#[]⟩ : ByteArray), .int .i64 0, .int .i64 0, .string (⟨#[]⟩ : ByteArray)] 100 ?_; intro gb228 hg w10 hbox hb; have BK228 := Aside0.mk (hbox); have GE228 := bG hg; replace HB := BS hb; clear hb hbox hg; have hcz11 := cz4 BK228) | (go_at_call 59; (with_reducible refine (spec_l1Below.calls ((rd_TRecord l1 x20_1).f0) a0 true _ A6.out).mono ?_); rintro e w' ⟨rfl, ⟨nd, rfl⟩⟩; (try first | exact ⟨rfl, _, World.drewN_drewN _ _ _⟩ | exact ⟨rfl, _, Eq.trans (World.drewN_drewN _ _ _) (congrArg (World.drewN _) (Nat.add_assoc _ _ _))⟩)))
       repeat (go_quiet (first | ((with_reducible refine gate_dst (N := 7) rfl ?_); refine bE 7 #[.string (⟨#[]⟩ : ByteArray), .int .i64 0, .int .i64 0, .string (⟨#[]⟩ : ByteArray)] 100 ?_; intro gb228 hg w10 hbox hb; have BK228 := Aside0.mk (hbox); have GE228 := bG hg; replace HB := BS hb; clear hb hbox hg; have hcz11 := cz4 BK228) | (go_at_call 59; (with_reducible refine (spec_l1Below.calls ((rd_TRecord l1 x20_1).f0) a0 true _ A6.out).mono ?_); rintro e w' ⟨rfl, ⟨nd, rfl⟩⟩; (try first | exact ⟨rfl, _, World.drewN_drewN _ _ _⟩ | exact ⟨rfl, _, Eq.trans (World.drewN_drewN _ _ _) (congrArg (World.drewN _) (Nat.add_assoc _ _ _))⟩))); try go_wp2_with (first | ((with_reducible refine gate_dst (N := 7) rfl ?_); refine bE 7 #[.string (⟨#[]⟩ : ByteArray), .int .i64 0, .int .i64 0, .string (⟨#[]⟩ : ByteArray)] 100 ?_; intro gb228 hg w10 hbox hb; have BK228 := Aside0.mk (hbox); have GE228 := bG hg; replace HB := BS hb; clear hb hbox hg; have hcz11 := cz4 BK228) | (go_at_call 59; (with_reducible refine (spec_l1Below.calls ((rd_TRecord l1 x20_1).f0) a0 true _ A6.out).mono ?_); rintro e w' ⟨rfl, ⟨nd, rfl⟩⟩; (try first | exact ⟨rfl, _, World.drewN_drewN _ _ _⟩ | exact ⟨rfl, _, Eq.trans (World.drewN_drewN _ _ _) (congrArg (World.drewN _) (Nat.add_assoc _ _ _))⟩))))
       go_roundg k1
       case measure => have := HK1.out; omega
       case rel => exact ⟨(wrap64 (x5_1 + 1)), (wrap64 (x20_1 + 1)), TF, TF, H', ⟨TM⟩, ⟨TB⟩⟩
      ·rw [if_neg c9] at H
       have c9b0 : (((rd_TRecord l1 x20_1).f0).toList == a0.toList) = false := beq_eq_false_iff_ne.mpr c9
       have c9b1 : (((rd_TRecord l1 x20_1).f0).toList != a0.toList) = true := bne_iff_ne.mpr c9
       have H' := Aside0.mk H
       clear H
       have p227 : 0 ≤ (x20_1 : Int) := TD
       have q227 : x20_1 < (l1.length : Int) := TD
       obtain ⟨ad227, e227, hx227_0, hx227_1, hx227_2, hx227_3⟩ := at_TRecord (Kd.C_below HR1.out HB.out) x20_1 p227 q227
       cases e227
       replace p227 := eq_true p227
       replace q227 := eq_true q227
       go_wp2_with (first | ((with_reducible refine gate_dst (N := 7) rfl ?_); refine bE 7 #[.string (⟨#[]⟩ : ByteArray), .int .i64 0, .int .i64 0, .string (⟨#[]⟩ : ByteArray)] 100 ?_; intro gb228 hg w12 hbox hb; have BK228 := Aside0.mk (hbox); have GE228 := bG hg; replace HB := BS hb; clear hb hbox hg; have hcz13 := cz4 BK228) | (go_at_call 59; (with_reducible refine (spec_l1Below.calls ((rd_TRecord l1 x20_1).f0) a0 true _ A6.out).mono ?_); rintro e w' ⟨rfl, ⟨nd, rfl⟩⟩; (try first | exact ⟨rfl, _, World.drewN_drewN _ _ _⟩ | exact ⟨rfl, _, Eq.trans (World.drewN_drewN _ _ _) (congrArg (World.drewN _) (Nat.add_assoc _ _ _))⟩)))
       repeat (go_quiet (first | ((with_reducible refine gate_dst (N := 7) rfl ?_); refine bE 7 #[.string (⟨#[]⟩ : ByteArray), .int .i64 0, .int .i64 0, .string (⟨#[]⟩ : ByteArray)] 100 ?_; intro gb228 hg w12 hbox hb; have BK228 := Aside0.mk (hbox); have GE228 := bG hg; replace HB := BS hb; clear hb hbox hg; have hcz13 := cz4 BK228) | (go_at_call 59; (with_reducible refine (spec_l1Below.calls ((rd_TRecord l1 x20_1).f0) a0 true _ A6.out).mono ?_); rintro e w' ⟨rfl, ⟨nd, rfl⟩⟩; (try first | exact ⟨rfl, _, World.drewN_drewN _ _ _⟩ | exact ⟨rfl, _, Eq.trans (World.drewN_drewN _ _ _) (congrArg (World.drewN _) (Nat.add_assoc _ _ _))⟩))); try go_wp2_with (first | ((with_reducible refine gate_dst (N := 7) rfl ?_); refine bE 7 #[.string (⟨#[]⟩ : ByteArray), .int .i64 0, .int .i64 0, .string (⟨#[]⟩ : ByteArray)] 100 ?_; intro gb228 hg w12 hbox hb; have BK228 := Aside0.mk (hbox); have GE228 := bG hg; replace HB := BS hb; clear hb hbox hg; have hcz13 := cz4 BK228) | (go_at_call 59; (with_reducible refine (spec_l1Below.calls ((rd_TRecord l1 x20_1).f0) a0 true _ A6.out).mono ?_); rintro e w' ⟨rfl, ⟨nd, rfl⟩⟩; (try first | exact ⟨rfl, _, World.drewN_drewN _ _ _⟩ | exact ⟨rfl, _, Eq.trans (World.drewN_drewN _ _ _) (congrArg (World.drewN _) (Nat.add_assoc _ _ _))⟩))))
       go_roundg k1
       case measure => have := HK1.out; omega
       case rel => exact ⟨(wrap64 ((wrap64 (x5_1 + 1)) + 1)), (wrap64 (x20_1 + 1)), TF, TF, H', ⟨TM⟩, ⟨TB⟩⟩
     ·rw [if_neg c8] at H
      have c8b0 : (((rd_TRecord l1 x20_1).f1) == 6) = false := beq_eq_false_iff_ne.mpr c8
      have c8b1 : (((rd_TRecord l1 x20_1).f1) != 6) = true := bne_iff_ne.mpr c8
      have H' := Aside0.mk H
      clear H
      have p227 : 0 ≤ (x20_1 : Int) := TD
      have q227 : x20_1 < (l1.length : Int) := TD
      obtain ⟨ad227, e227, hx227_0, hx227_1, hx227_2, hx227_3⟩ := at_TRecord (Kd.C_below HR1.out HB.out) x20_1 p227 q227
      cases e227
      replace p227 := eq_true p227
      replace q227 := eq_true q227
      go_wp2_with (first | ((with_reducible refine gate_dst (N := 7) rfl ?_); refine bE 7 #[.string (⟨#[]⟩ : ByteArray), .int .i64 0, .int .i64 0, .string (⟨#[]⟩ : ByteArray)] 100 ?_; intro gb228 hg w14 hbox hb; have BK228 := Aside0.mk (hbox); have GE228 := bG hg; replace HB := BS hb; clear hb hbox hg; have hcz15 := cz4 BK228) | (go_at_call 59; (with_reducible refine (spec_l1Below.calls ((rd_TRecord l1 x20_1).f0) a0 true _ A6.out).mono ?_); rintro e w' ⟨rfl, ⟨nd, rfl⟩⟩; (try first | exact ⟨rfl, _, World.drewN_drewN _ _ _⟩ | exact ⟨rfl, _, Eq.trans (World.drewN_drewN _ _ _) (congrArg (World.drewN _) (Nat.add_assoc _ _ _))⟩)))
      repeat (go_quiet (first | ((with_reducible refine gate_dst (N := 7) rfl ?_); refine bE 7 #[.string (⟨#[]⟩ : ByteArray), .int .i64 0, .int .i64 0, .string (⟨#[]⟩ : ByteArray)] 100 ?_; intro gb228 hg w14 hbox hb; have BK228 := Aside0.mk (hbox); have GE228 := bG hg; replace HB := BS hb; clear hb hbox hg; have hcz15 := cz4 BK228) | (go_at_call 59; (with_reducible refine (spec_l1Below.calls ((rd_TRecord l1 x20_1).f0) a0 true _ A6.out).mono ?_); rintro e w' ⟨rfl, ⟨nd, rfl⟩⟩; (try first | exact ⟨rfl, _, World.drewN_drewN _ _ _⟩ | exact ⟨rfl, _, Eq.trans (World.drewN_drewN _ _ _) (congrArg (World.drewN _) (Nat.add_assoc _ _ _))⟩))); try go_wp2_with (first | ((with_reducible refine gate_dst (N := 7) rfl ?_); refine bE 7 #[.string (⟨#[]⟩ : ByteArray), .int .i64 0, .int .i64 0, .string (⟨#[]⟩ : ByteArray)] 100 ?_; intro gb228 hg w14 hbox hb; have BK228 := Aside0.mk (hbox); have GE228 := bG hg; replace HB := BS hb; clear hb hbox hg; have hcz15 := cz4 BK228) | (go_at_call 59; (with_reducible refine (spec_l1Below.calls ((rd_TRecord l1 x20_1).f0) a0 true _ A6.out).mono ?_); rintro e w' ⟨rfl, ⟨nd, rfl⟩⟩; (try first | exact ⟨rfl, _, World.drewN_drewN _ _ _⟩ | exact ⟨rfl, _, Eq.trans (World.drewN_drewN _ _ _) (congrArg (World.drewN _) (Nat.add_assoc _ _ _))⟩))))
      go_roundg k1
      case measure => have := HK1.out; omega
      case rel => exact ⟨(x5_1), (wrap64 (x20_1 + 1)), TF, TF, H', ⟨TM⟩, ⟨TB⟩⟩
    ·replace c7 := Bool.eq_false_iff.mpr c7
     subst c7
     replace H := iff' H
     obtain rfl := Option.some.inj H
     have p227 : 0 ≤ (x20_1 : Int) := TD
     have q227 : x20_1 < (l1.length : Int) := TD
     obtain ⟨ad227, e227, hx227_0, hx227_1, hx227_2, hx227_3⟩ := at_TRecord (Kd.C_below HR1.out HB.out) x20_1 p227 q227
     cases e227
     replace p227 := eq_true p227
     replace q227 := eq_true q227
     go_wp2_with (first | ((with_reducible refine gate_dst (N := 7) rfl ?_); refine bE 7 #[.string (⟨#[]⟩ : ByteArray), .int .i64 0, .int .i64 0, .string (⟨#[]⟩ : ByteArray)] 100 ?_; intro gb228 hg w16 hbox hb; have BK228 := Aside0.mk (hbox); have GE228 := bG hg; replace HB := BS hb; clear hb hbox hg; have hcz17 := cz4 BK228) | (go_at_call 59; (with_reducible refine (spec_l1Below.calls ((rd_TRecord l1 x20_1).f0) a0 false _ A6.out).mono ?_); rintro e w' ⟨rfl, ⟨nd, rfl⟩⟩; (try first | exact ⟨rfl, _, World.drewN_drewN _ _ _⟩ | exact ⟨rfl, _, Eq.trans (World.drewN_drewN _ _ _) (congrArg (World.drewN _) (Nat.add_assoc _ _ _))⟩)))
     repeat (go_quiet (first | ((with_reducible refine gate_dst (N := 7) rfl ?_); refine bE 7 #[.string (⟨#[]⟩ : ByteArray), .int .i64 0, .int .i64 0, .string (⟨#[]⟩ : ByteArray)] 100 ?_; intro gb228 hg w16 hbox hb; have BK228 := Aside0.mk (hbox); have GE228 := bG hg; replace HB := BS hb; clear hb hbox hg; have hcz17 := cz4 BK228) | (go_at_call 59; (with_reducible refine (spec_l1Below.calls ((rd_TRecord l1 x20_1).f0) a0 false _ A6.out).mono ?_); rintro e w' ⟨rfl, ⟨nd, rfl⟩⟩; (try first | exact ⟨rfl, _, World.drewN_drewN _ _ _⟩ | exact ⟨rfl, _, Eq.trans (World.drewN_drewN _ _ _) (congrArg (World.drewN _) (Nat.add_assoc _ _ _))⟩))); try go_wp2_with (first | ((with_reducible refine gate_dst (N := 7) rfl ?_); refine bE 7 #[.string (⟨#[]⟩ : ByteArray), .int .i64 0, .int .i64 0, .string (⟨#[]⟩ : ByteArray)] 100 ?_; intro gb228 hg w16 hbox hb; have BK228 := Aside0.mk (hbox); have GE228 := bG hg; replace HB := BS hb; clear hb hbox hg; have hcz17 := cz4 BK228) | (go_at_call 59; (with_reducible refine (spec_l1Below.calls ((rd_TRecord l1 x20_1).f0) a0 false _ A6.out).mono ?_); rintro e w' ⟨rfl, ⟨nd, rfl⟩⟩; (try first | exact ⟨rfl, _, World.drewN_drewN _ _ _⟩ | exact ⟨rfl, _, Eq.trans (World.drewN_drewN _ _ _) (congrArg (World.drewN _) (Nat.add_assoc _ _ _))⟩))))
     go_ret
     exact ⟨TE, TB⟩
   ·rw [if_neg c3] at H
    have c3b0 : decide (x20_1 < (l1.length : Int)) = false := decide_eq_false c3
    clear c3
    by_cases c18 : x5_1 = 1
    ·rw [if_pos c18] at H
     have c18b0 : (x5_1 == 1) = true := beq_iff_eq.mpr c18
     have c18b1 : (x5_1 != 1) = false := bne_eq_false_iff_eq.mpr c18
     clear c18
     have H' := Aside0.mk H
     clear H
     go_wp2
     repeat (go_quiet (fail); try go_wp2)
     go_loopg [45] k1 (fun kq v45 w' => ∃ (x45_2 : Int), v45 = .int .i64 x45_2 ∧ Aside0 (spec_l6Rule.l1 kq a0 l1 l1 (l1.length : Int) x45_2 = some r) ∧ Aside0 (kq ≤ k1) ∧ Aside0 (Below w.heap.size w w'))
     case atStart => exact ⟨(0), TF, H', ⟨Nat.le_refl _⟩, ⟨TB⟩⟩
     case round =>
      clear H'
      try clear c1
      try clear p2
      try clear q2
      try clear hx2
      try clear c3
      try clear c3b0
      try clear c4
      try clear c4b0
      try clear c5
      try clear c5b0
      try clear p6
      try clear c7
      try clear c8
      try clear c8b0
      try clear c8b1
      try clear c9
      try clear c9b0
      try clear c9b1
      try clear c14
      try clear c18
      try clear c18b0
      try clear c18b1
      try clear hcz11
      try clear hcz13
      try clear hcz15
      try clear hcz17
      try clear hfz11_0
      try clear hfz11_1
      try clear hfz11_2
      try clear hfz11_3
      try clear hfz13_0
      try clear hfz13_1
      try clear hfz13_2
      try clear hfz13_3
      try clear hfz15_0
      try clear hfz15_1
      try clear hfz15_2
      try clear hfz15_3
      try clear hfz17_0
      try clear hfz17_1
      try clear hfz17_2
      try clear hfz17_3
      try clear hx227_0
      try clear hx227_1
      try clear hx227_2
      try clear hx227_3
      try clear p2
      try clear p227
      try clear q227
      obtain ⟨x45_2, rfl, HA, HK2, HB⟩ := hrel
      cases gk with
      | zero => exact absurd HA.out (by simp [spec_l6Rule.l1])
      | succ k2 =>
       have H := HA.out
       clear HA
       simp only [spec_l6Rule.l1] at H
       by_cases c19 : x45_2 < (l1.length : Int)
       ·rw [if_pos c19] at H
        have c19b0 : decide (x45_2 < (l1.length : Int)) = true := decide_eq_true c19
        clear c19
        obtain ⟨c20, H⟩ := ifn H
        have c20b0 : decide (0 ≤ x45_2) = true := decide_eq_true c20
        clear c20
        obtain ⟨c21, H⟩ := ifn H
        have c21b0 : decide (x45_2 < (l1.length : Int)) = true := decide_eq_true c21
        clear c21
        by_cases c22 : x45_2 > 0
        ·rw [if_pos c22] at H
         have c22b0 : decide (0 < x45_2) = true := decide_eq_true c22
         clear c22
         obtain ⟨ji23, hji23⟩ : ∃ j_ : Int, (wrap64 (x45_2 - 1)) = j_ := ⟨_, rfl⟩
         replace H : (if 0 ≤ (ji23) then (if (ji23) < (l1.length : Int) then (if ((rd_TRecord l1 (ji23)).f0).toList = ((rd_TRecord l1 x45_2).f0).toList then (if ((rd_TRecord l1 (ji23)).f1) = ((rd_TRecord l1 x45_2).f1) then (if ((rd_TRecord l1 (ji23)).f2) = ((rd_TRecord l1 x45_2).f2) then (if ((rd_TRecord l1 (ji23)).f3).toList = ((rd_TRecord l1 x45_2).f3).toList then (some 3) else (spec_l6Rule.l1 k2 a0 l1 l1 (l1.length : Int) (wrap64 (x45_2 + 1)))) else (some 3)) else (spec_l6Rule.l1 k2 a0 l1 l1 (l1.length : Int) (wrap64 (x45_2 + 1)))) else (spec_l6Rule.l1 k2 a0 l1 l1 (l1.length : Int) (wrap64 (x45_2 + 1)))) else (none)) else (none)) = some r := by first | (rw [hji23] at H; exact H) | (simp only [hji23] at H ⊢; exact H)
         have hji23w : (IntKind.i64.wrap (x45_2 - 1)) = ji23 := (i64_w _).trans hji23
         obtain ⟨c24, H⟩ := ifn H
         have c24b0 : decide (0 ≤ (ji23)) = true := decide_eq_true c24
         clear c24
         obtain ⟨c25, H⟩ := ifn H
         have c25b0 : decide ((ji23) < (l1.length : Int)) = true := decide_eq_true c25
         clear c25
         by_cases c26 : ((rd_TRecord l1 (ji23)).f0).toList = ((rd_TRecord l1 x45_2).f0).toList
         ·rw [if_pos c26] at H
          have c26b0 : (((rd_TRecord l1 (ji23)).f0).toList == ((rd_TRecord l1 x45_2).f0).toList) = true := beq_iff_eq.mpr c26
          have c26b1 : (((rd_TRecord l1 (ji23)).f0).toList != ((rd_TRecord l1 x45_2).f0).toList) = false := bne_eq_false_iff_eq.mpr c26
          clear c26
          by_cases c27 : ((rd_TRecord l1 (ji23)).f1) = ((rd_TRecord l1 x45_2).f1)
          ·rw [if_pos c27] at H
           have c27b0 : (((rd_TRecord l1 (ji23)).f1) == ((rd_TRecord l1 x45_2).f1)) = true := beq_iff_eq.mpr c27
           have c27b1 : (((rd_TRecord l1 (ji23)).f1) != ((rd_TRecord l1 x45_2).f1)) = false := bne_eq_false_iff_eq.mpr c27
           clear c27
           by_cases c28 : ((rd_TRecord l1 (ji23)).f2) = ((rd_TRecord l1 x45_2).f2)
           ·rw [if_pos c28] at H
            have c28b0 : (((rd_TRecord l1 (ji23)).f2) == ((rd_TRecord l1 x45_2).f2)) = true := beq_iff_eq.mpr c28
            have c28b1 : (((rd_TRecord l1 (ji23)).f2) != ((rd_TRecord l1 x45_2).f2)) = false := bne_eq_false_iff_eq.mpr c28
            clear c28
            by_cases c29 : ((rd_TRecord l1 (ji23)).f3).toList = ((rd_TRecord l1 x45_2).f3).toList
            ·rw [if_pos c29] at H
             have c29b0 : (((rd_TRecord l1 (ji23)).f3).toList == ((rd_TRecord l1 x45_2).f3).toList) = true := beq_iff_eq.mpr c29
             have c29b1 : (((rd_TRecord l1 (ji23)).f3).toList != ((rd_TRecord l1 x45_2).f3).toList) = false := bne_eq_false_iff_eq.mpr c29
             clear c29
             obtain rfl := Option.some.inj H
             have p230 : 0 ≤ (x45_2 : Int) := TD
             have q230 : x45_2 < (l1.length : Int) := TD
             obtain ⟨ad230, e230, hx230_0, hx230_1, hx230_2, hx230_3⟩ := at_TRecord (Kd.C_below HR1.out HB.out) x45_2 p230 q230
             cases e230
             replace p230 := eq_true p230
             replace q230 := eq_true q230
             go_wp2_with (first | ((with_reducible refine gate_dst (N := 9) rfl ?_); refine bE 9 #[.string (⟨#[]⟩ : ByteArray), .int .i64 0, .int .i64 0, .string (⟨#[]⟩ : ByteArray)] 100 ?_; intro gb231 hg w30 hbox hb; have BK231 := Aside0.mk (hbox); have GW231 := bG hg; have GE231 := bG hg; replace HB := BS hb; clear hb hbox hg; have hcz31 := cz4 BK231; have p232 : 0 ≤ ((ji23) : Int) := TD; have q232 : (ji23) < (l1.length : Int) := TD; obtain ⟨ad232, e232, hx232_0, hx232_1, hx232_2, hx232_3⟩ := at_TRecord HR1.out (ji23) p232 q232; obtain rfl : ad230 = ad232 := (by injection e232); have fA := far4 HB GW231 (.string ((rd_TRecord l1 x45_2).f0)) (.int .i64 ((rd_TRecord l1 x45_2).f1)) (.int .i64 ((rd_TRecord l1 x45_2).f2)) (.string ((rd_TRecord l1 x45_2).f3)); have fD := fun n_ => far4 (DR n_ HB) GW231 (.string ((rd_TRecord l1 x45_2).f0)) (.int .i64 ((rd_TRecord l1 x45_2).f1)) (.int .i64 ((rd_TRecord l1 x45_2).f2)) (.string ((rd_TRecord l1 x45_2).f3)); have hy232_0 := fun n_ => fD n_ hx232_0; have hy232_1 := fun n_ => fD n_ hx232_1; have hy232_2 := fun n_ => fD n_ hx232_2; have hy232_3 := fun n_ => fD n_ hx232_3; replace hx232_0 := fA hx232_0; replace hx232_1 := fA hx232_1; replace hx232_2 := fA hx232_2; replace hx232_3 := fA hx232_3; clear fA fD; replace p232 := eq_true p232; replace q232 := eq_true q232; have p233 : 0 ≤ ((ji23) : Int) := TD; have q233 : (ji23) < (l1.length : Int) := TD; obtain ⟨ad233, e233, hx233_0, hx233_1, hx233_2, hx233_3⟩ := at_TRecord HR1.out (ji23) p233 q233; obtain rfl : ad230 = ad233 := (by injection e233); have fA := far4 HB GW231 (.string ((rd_TRecord l1 x45_2).f0)) (.int .i64 ((rd_TRecord l1 x45_2).f1)) (.int .i64 ((rd_TRecord l1 x45_2).f2)) (.string ((rd_TRecord l1 x45_2).f3)); have fD := fun n_ => far4 (DR n_ HB) GW231 (.string ((rd_TRecord l1 x45_2).f0)) (.int .i64 ((rd_TRecord l1 x45_2).f1)) (.int .i64 ((rd_TRecord l1 x45_2).f2)) (.string ((rd_TRecord l1 x45_2).f3)); have hy233_0 := fun n_ => fD n_ hx233_0; have hy233_1 := fun n_ => fD n_ hx233_1; have hy233_2 := fun n_ => fD n_ hx233_2; have hy233_3 := fun n_ => fD n_ hx233_3; replace hx233_0 := fA hx233_0; replace hx233_1 := fA hx233_1; replace hx233_2 := fA hx233_2; replace hx233_3 := fA hx233_3; clear fA fD; replace p233 := eq_true p233; replace q233 := eq_true q233; have p234 : 0 ≤ ((ji23) : Int) := TD; have q234 : (ji23) < (l1.length : Int) := TD; obtain ⟨ad234, e234, hx234_0, hx234_1, hx234_2, hx234_3⟩ := at_TRecord HR1.out (ji23) p234 q234; obtain rfl : ad230 = ad234 := (by injection e234); have fA := far4 HB GW231 (.string ((rd_TRecord l1 x45_2).f0)) (.int .i64 ((rd_TRecord l1 x45_2).f1)) (.int .i64 ((rd_TRecord l1 x45_2).f2)) (.string ((rd_TRecord l1 x45_2).f3)); have fD := fun n_ => far4 (DR n_ HB) GW231 (.string ((rd_TRecord l1 x45_2).f0)) (.int .i64 ((rd_TRecord l1 x45_2).f1)) (.int .i64 ((rd_TRecord l1 x45_2).f2)) (.string ((rd_TRecord l1 x45_2).f3)); have hy234_0 := fun n_ => fD n_ hx234_0; have hy234_1 := fun n_ => fD n_ hx234_1; have hy234_2 := fun n_ => fD n_ hx234_2; have hy234_3 := fun n_ => fD n_ hx234_3; replace hx234_0 := fA hx234_0; replace hx234_1 := fA hx234_1; replace hx234_2 := fA hx234_2; replace hx234_3 := fA hx234_3; clear fA fD; replace p234 := eq_true p234; replace q234 := eq_true q234; have p235 : 0 ≤ ((ji23) : Int) := TD; have q235 : (ji23) < (l1.length : Int) := TD; obtain ⟨ad235, e235, hx235_0, hx235_1, hx235_2, hx235_3⟩ := at_TRecord HR1.out (ji23) p235 q235; obtain rfl : ad230 = ad235 := (by injection e235); have fA := far4 HB GW231 (.string ((rd_TRecord l1 x45_2).f0)) (.int .i64 ((rd_TRecord l1 x45_2).f1)) (.int .i64 ((rd_TRecord l1 x45_2).f2)) (.string ((rd_TRecord l1 x45_2).f3)); have fD := fun n_ => far4 (DR n_ HB) GW231 (.string ((rd_TRecord l1 x45_2).f0)) (.int .i64 ((rd_TRecord l1 x45_2).f1)) (.int .i64 ((rd_TRecord l1 x45_2).f2)) (.string ((rd_TRecord l1 x45_2).f3)); have hy235_0 := fun n_ => fD n_ hx235_0; have hy235_1 := fun n_ => fD n_ hx235_1; have hy235_2 := fun n_ => fD n_ hx235_2; have hy235_3 := fun n_ => fD n_ hx235_3; replace hx235_0 := fA hx235_0; replace hx235_1 := fA hx235_1; replace hx235_2 := fA hx235_2; replace hx235_3 := fA hx235_3; clear fA fD; replace p235 := eq_true p235; replace q235 := eq_true q235))
             repeat (go_quiet (first | ((with_reducible refine gate_dst (N := 9) rfl ?_); refine bE 9 #[.string (⟨#[]⟩ : ByteArray), .int .i64 0, .int .i64 0, .string (⟨#[]⟩ : ByteArray)] 100 ?_; intro gb231 hg w30 hbox hb; have BK231 := Aside0.mk (hbox); have GW231 := bG hg; have GE231 := bG hg; replace HB := BS hb; clear hb hbox hg; have hcz31 := cz4 BK231; have p232 : 0 ≤ ((ji23) : Int) := TD; have q232 : (ji23) < (l1.length : Int) := TD; obtain ⟨ad232, e232, hx232_0, hx232_1, hx232_2, hx232_3⟩ := at_TRecord HR1.out (ji23) p232 q232; obtain rfl : ad230 = ad232 := (by injection e232); have fA := far4 HB GW231 (.string ((rd_TRecord l1 x45_2).f0)) (.int .i64 ((rd_TRecord l1 x45_2).f1)) (.int .i64 ((rd_TRecord l1 x45_2).f2)) (.string ((rd_TRecord l1 x45_2).f3)); have fD := fun n_ => far4 (DR n_ HB) GW231 (.string ((rd_TRecord l1 x45_2).f0)) (.int .i64 ((rd_TRecord l1 x45_2).f1)) (.int .i64 ((rd_TRecord l1 x45_2).f2)) (.string ((rd_TRecord l1 x45_2).f3)); have hy232_0 := fun n_ => fD n_ hx232_0; have hy232_1 := fun n_ => fD n_ hx232_1; have hy232_2 := fun n_ => fD n_ hx232_2; have hy232_3 := fun n_ => fD n_ hx232_3; replace hx232_0 := fA hx232_0; replace hx232_1 := fA hx232_1; replace hx232_2 := fA hx232_2; replace hx232_3 := fA hx232_3; clear fA fD; replace p232 := eq_true p232; replace q232 := eq_true q232; have p233 : 0 ≤ ((ji23) : Int) := TD; have q233 : (ji23) < (l1.length : Int) := TD; obtain ⟨ad233, e233, hx233_0, hx233_1, hx233_2, hx233_3⟩ := at_TRecord HR1.out (ji23) p233 q233; obtain rfl : ad230 = ad233 := (by injection e233); have fA := far4 HB GW231 (.string ((rd_TRecord l1 x45_2).f0)) (.int .i64 ((rd_TRecord l1 x45_2).f1)) (.int .i64 ((rd_TRecord l1 x45_2).f2)) (.string ((rd_TRecord l1 x45_2).f3)); have fD := fun n_ => far4 (DR n_ HB) GW231 (.string ((rd_TRecord l1 x45_2).f0)) (.int .i64 ((rd_TRecord l1 x45_2).f1)) (.int .i64 ((rd_TRecord l1 x45_2).f2)) (.string ((rd_TRecord l1 x45_2).f3)); have hy233_0 := fun n_ => fD n_ hx233_0; have hy233_1 := fun n_ => fD n_ hx233_1; have hy233_2 := fun n_ => fD n_ hx233_2; have hy233_3 := fun n_ => fD n_ hx233_3; replace hx233_0 := fA hx233_0; replace hx233_1 := fA hx233_1; replace hx233_2 := fA hx233_2; replace hx233_3 := fA hx233_3; clear fA fD; replace p233 := eq_true p233; replace q233 := eq_true q233; have p234 : 0 ≤ ((ji23) : Int) := TD; have q234 : (ji23) < (l1.length : Int) := TD; obtain ⟨ad234, e234, hx234_0, hx234_1, hx234_2, hx234_3⟩ := at_TRecord HR1.out (ji23) p234 q234; obtain rfl : ad230 = ad234 := (by injection e234); have fA := far4 HB GW231 (.string ((rd_TRecord l1 x45_2).f0)) (.int .i64 ((rd_TRecord l1 x45_2).f1)) (.int .i64 ((rd_TRecord l1 x45_2).f2)) (.string ((rd_TRecord l1 x45_2).f3)); have fD := fun n_ => far4 (DR n_ HB) GW231 (.string ((rd_TRecord l1 x45_2).f0)) (.int .i64 ((rd_TRecord l1 x45_2).f1)) (.int .i64 ((rd_TRecord l1 x45_2).f2)) (.string ((rd_TRecord l1 x45_2).f3)); have hy234_0 := fun n_ => fD n_ hx234_0; have hy234_1 := fun n_ => fD n_ hx234_1; have hy234_2 := fun n_ => fD n_ hx234_2; have hy234_3 := fun n_ => fD n_ hx234_3; replace hx234_0 := fA hx234_0; replace hx234_1 := fA hx234_1; replace hx234_2 := fA hx234_2; replace hx234_3 := fA hx234_3; clear fA fD; replace p234 := eq_true p234; replace q234 := eq_true q234; have p235 : 0 ≤ ((ji23) : Int) := TD; have q235 : (ji23) < (l1.length : Int) := TD; obtain ⟨ad235, e235, hx235_0, hx235_1, hx235_2, hx235_3⟩ := at_TRecord HR1.out (ji23) p235 q235; obtain rfl : ad230 = ad235 := (by injection e235); have fA := far4 HB GW231 (.string ((rd_TRecord l1 x45_2).f0)) (.int .i64 ((rd_TRecord l1 x45_2).f1)) (.int .i64 ((rd_TRecord l1 x45_2).f2)) (.string ((rd_TRecord l1 x45_2).f3)); have fD := fun n_ => far4 (DR n_ HB) GW231 (.string ((rd_TRecord l1 x45_2).f0)) (.int .i64 ((rd_TRecord l1 x45_2).f1)) (.int .i64 ((rd_TRecord l1 x45_2).f2)) (.string ((rd_TRecord l1 x45_2).f3)); have hy235_0 := fun n_ => fD n_ hx235_0; have hy235_1 := fun n_ => fD n_ hx235_1; have hy235_2 := fun n_ => fD n_ hx235_2; have hy235_3 := fun n_ => fD n_ hx235_3; replace hx235_0 := fA hx235_0; replace hx235_1 := fA hx235_1; replace hx235_2 := fA hx235_2; replace hx235_3 := fA hx235_3; clear fA fD; replace p235 := eq_true p235; replace q235 := eq_true q235)); try go_wp2_with (first | ((with_reducible refine gate_dst (N := 9) rfl ?_); refine bE 9 #[.string (⟨#[]⟩ : ByteArray), .int .i64 0, .int .i64 0, .string (⟨#[]⟩ : ByteArray)] 100 ?_; intro gb231 hg w30 hbox hb; have BK231 := Aside0.mk (hbox); have GW231 := bG hg; have GE231 := bG hg; replace HB := BS hb; clear hb hbox hg; have hcz31 := cz4 BK231; have p232 : 0 ≤ ((ji23) : Int) := TD; have q232 : (ji23) < (l1.length : Int) := TD; obtain ⟨ad232, e232, hx232_0, hx232_1, hx232_2, hx232_3⟩ := at_TRecord HR1.out (ji23) p232 q232; obtain rfl : ad230 = ad232 := (by injection e232); have fA := far4 HB GW231 (.string ((rd_TRecord l1 x45_2).f0)) (.int .i64 ((rd_TRecord l1 x45_2).f1)) (.int .i64 ((rd_TRecord l1 x45_2).f2)) (.string ((rd_TRecord l1 x45_2).f3)); have fD := fun n_ => far4 (DR n_ HB) GW231 (.string ((rd_TRecord l1 x45_2).f0)) (.int .i64 ((rd_TRecord l1 x45_2).f1)) (.int .i64 ((rd_TRecord l1 x45_2).f2)) (.string ((rd_TRecord l1 x45_2).f3)); have hy232_0 := fun n_ => fD n_ hx232_0; have hy232_1 := fun n_ => fD n_ hx232_1; have hy232_2 := fun n_ => fD n_ hx232_2; have hy232_3 := fun n_ => fD n_ hx232_3; replace hx232_0 := fA hx232_0; replace hx232_1 := fA hx232_1; replace hx232_2 := fA hx232_2; replace hx232_3 := fA hx232_3; clear fA fD; replace p232 := eq_true p232; replace q232 := eq_true q232; have p233 : 0 ≤ ((ji23) : Int) := TD; have q233 : (ji23) < (l1.length : Int) := TD; obtain ⟨ad233, e233, hx233_0, hx233_1, hx233_2, hx233_3⟩ := at_TRecord HR1.out (ji23) p233 q233; obtain rfl : ad230 = ad233 := (by injection e233); have fA := far4 HB GW231 (.string ((rd_TRecord l1 x45_2).f0)) (.int .i64 ((rd_TRecord l1 x45_2).f1)) (.int .i64 ((rd_TRecord l1 x45_2).f2)) (.string ((rd_TRecord l1 x45_2).f3)); have fD := fun n_ => far4 (DR n_ HB) GW231 (.string ((rd_TRecord l1 x45_2).f0)) (.int .i64 ((rd_TRecord l1 x45_2).f1)) (.int .i64 ((rd_TRecord l1 x45_2).f2)) (.string ((rd_TRecord l1 x45_2).f3)); have hy233_0 := fun n_ => fD n_ hx233_0; have hy233_1 := fun n_ => fD n_ hx233_1; have hy233_2 := fun n_ => fD n_ hx233_2; have hy233_3 := fun n_ => fD n_ hx233_3; replace hx233_0 := fA hx233_0; replace hx233_1 := fA hx233_1; replace hx233_2 := fA hx233_2; replace hx233_3 := fA hx233_3; clear fA fD; replace p233 := eq_true p233; replace q233 := eq_true q233; have p234 : 0 ≤ ((ji23) : Int) := TD; have q234 : (ji23) < (l1.length : Int) := TD; obtain ⟨ad234, e234, hx234_0, hx234_1, hx234_2, hx234_3⟩ := at_TRecord HR1.out (ji23) p234 q234; obtain rfl : ad230 = ad234 := (by injection e234); have fA := far4 HB GW231 (.string ((rd_TRecord l1 x45_2).f0)) (.int .i64 ((rd_TRecord l1 x45_2).f1)) (.int .i64 ((rd_TRecord l1 x45_2).f2)) (.string ((rd_TRecord l1 x45_2).f3)); have fD := fun n_ => far4 (DR n_ HB) GW231 (.string ((rd_TRecord l1 x45_2).f0)) (.int .i64 ((rd_TRecord l1 x45_2).f1)) (.int .i64 ((rd_TRecord l1 x45_2).f2)) (.string ((rd_TRecord l1 x45_2).f3)); have hy234_0 := fun n_ => fD n_ hx234_0; have hy234_1 := fun n_ => fD n_ hx234_1; have hy234_2 := fun n_ => fD n_ hx234_2; have hy234_3 := fun n_ => fD n_ hx234_3; replace hx234_0 := fA hx234_0; replace hx234_1 := fA hx234_1; replace hx234_2 := fA hx234_2; replace hx234_3 := fA hx234_3; clear fA fD; replace p234 := eq_true p234; replace q234 := eq_true q234; have p235 : 0 ≤ ((ji23) : Int) := TD; have q235 : (ji23) < (l1.length : Int) := TD; obtain ⟨ad235, e235, hx235_0, hx235_1, hx235_2, hx235_3⟩ := at_TRecord HR1.out (ji23) p235 q235; obtain rfl : ad230 = ad235 := (by injection e235); have fA := far4 HB GW231 (.string ((rd_TRecord l1 x45_2).f0)) (.int .i64 ((rd_TRecord l1 x45_2).f1)) (.int .i64 ((rd_TRecord l1 x45_2).f2)) (.string ((rd_TRecord l1 x45_2).f3)); have fD := fun n_ => far4 (DR n_ HB) GW231 (.string ((rd_TRecord l1 x45_2).f0)) (.int .i64 ((rd_TRecord l1 x45_2).f1)) (.int .i64 ((rd_TRecord l1 x45_2).f2)) (.string ((rd_TRecord l1 x45_2).f3)); have hy235_0 := fun n_ => fD n_ hx235_0; have hy235_1 := fun n_ => fD n_ hx235_1; have hy235_2 := fun n_ => fD n_ hx235_2; have hy235_3 := fun n_ => fD n_ hx235_3; replace hx235_0 := fA hx235_0; replace hx235_1 := fA hx235_1; replace hx235_2 := fA hx235_2; replace hx235_3 := fA hx235_3; clear fA fD; replace p235 := eq_true p235; replace q235 := eq_true q235)))
             go_ret
             exact ⟨by first | rfl | (simp [errW_none, errW_some] <;> rfl) | (simp only [← hji23]; first | rfl | (simp [errW_none, errW_some] <;> rfl)) | (simp [*, errW_none, errW_some] <;> rfl), TB⟩
            ·rw [if_neg c29] at H
             have c29b0 : (((rd_TRecord l1 (ji23)).f3).toList == ((rd_TRecord l1 x45_2).f3).toList) = false := beq_eq_false_iff_ne.mpr c29
             have c29b1 : (((rd_TRecord l1 (ji23)).f3).toList != ((rd_TRecord l1 x45_2).f3).toList) = true := bne_iff_ne.mpr c29
             have H' := Aside0.mk H
             clear H
             have p230 : 0 ≤ (x45_2 : Int) := TD
             have q230 : x45_2 < (l1.length : Int) := TD
             obtain ⟨ad230, e230, hx230_0, hx230_1, hx230_2, hx230_3⟩ := at_TRecord (Kd.C_below HR1.out HB.out) x45_2 p230 q230
             cases e230
             replace p230 := eq_true p230
             replace q230 := eq_true q230
             go_wp2_with (first | ((with_reducible refine gate_dst (N := 9) rfl ?_); refine bE 9 #[.string (⟨#[]⟩ : ByteArray), .int .i64 0, .int .i64 0, .string (⟨#[]⟩ : ByteArray)] 100 ?_; intro gb231 hg w32 hbox hb; have BK231 := Aside0.mk (hbox); have GW231 := bG hg; have GE231 := bG hg; replace HB := BS hb; clear hb hbox hg; have hcz33 := cz4 BK231; have p232 : 0 ≤ ((ji23) : Int) := TD; have q232 : (ji23) < (l1.length : Int) := TD; obtain ⟨ad232, e232, hx232_0, hx232_1, hx232_2, hx232_3⟩ := at_TRecord HR1.out (ji23) p232 q232; obtain rfl : ad230 = ad232 := (by injection e232); have fA := far4 HB GW231 (.string ((rd_TRecord l1 x45_2).f0)) (.int .i64 ((rd_TRecord l1 x45_2).f1)) (.int .i64 ((rd_TRecord l1 x45_2).f2)) (.string ((rd_TRecord l1 x45_2).f3)); have fD := fun n_ => far4 (DR n_ HB) GW231 (.string ((rd_TRecord l1 x45_2).f0)) (.int .i64 ((rd_TRecord l1 x45_2).f1)) (.int .i64 ((rd_TRecord l1 x45_2).f2)) (.string ((rd_TRecord l1 x45_2).f3)); have hy232_0 := fun n_ => fD n_ hx232_0; have hy232_1 := fun n_ => fD n_ hx232_1; have hy232_2 := fun n_ => fD n_ hx232_2; have hy232_3 := fun n_ => fD n_ hx232_3; replace hx232_0 := fA hx232_0; replace hx232_1 := fA hx232_1; replace hx232_2 := fA hx232_2; replace hx232_3 := fA hx232_3; clear fA fD; replace p232 := eq_true p232; replace q232 := eq_true q232; have p233 : 0 ≤ ((ji23) : Int) := TD; have q233 : (ji23) < (l1.length : Int) := TD; obtain ⟨ad233, e233, hx233_0, hx233_1, hx233_2, hx233_3⟩ := at_TRecord HR1.out (ji23) p233 q233; obtain rfl : ad230 = ad233 := (by injection e233); have fA := far4 HB GW231 (.string ((rd_TRecord l1 x45_2).f0)) (.int .i64 ((rd_TRecord l1 x45_2).f1)) (.int .i64 ((rd_TRecord l1 x45_2).f2)) (.string ((rd_TRecord l1 x45_2).f3)); have fD := fun n_ => far4 (DR n_ HB) GW231 (.string ((rd_TRecord l1 x45_2).f0)) (.int .i64 ((rd_TRecord l1 x45_2).f1)) (.int .i64 ((rd_TRecord l1 x45_2).f2)) (.string ((rd_TRecord l1 x45_2).f3)); have hy233_0 := fun n_ => fD n_ hx233_0; have hy233_1 := fun n_ => fD n_ hx233_1; have hy233_2 := fun n_ => fD n_ hx233_2; have hy233_3 := fun n_ => fD n_ hx233_3; replace hx233_0 := fA hx233_0; replace hx233_1 := fA hx233_1; replace hx233_2 := fA hx233_2; replace hx233_3 := fA hx233_3; clear fA fD; replace p233 := eq_true p233; replace q233 := eq_true q233; have p234 : 0 ≤ ((ji23) : Int) := TD; have q234 : (ji23) < (l1.length : Int) := TD; obtain ⟨ad234, e234, hx234_0, hx234_1, hx234_2, hx234_3⟩ := at_TRecord HR1.out (ji23) p234 q234; obtain rfl : ad230 = ad234 := (by injection e234); have fA := far4 HB GW231 (.string ((rd_TRecord l1 x45_2).f0)) (.int .i64 ((rd_TRecord l1 x45_2).f1)) (.int .i64 ((rd_TRecord l1 x45_2).f2)) (.string ((rd_TRecord l1 x45_2).f3)); have fD := fun n_ => far4 (DR n_ HB) GW231 (.string ((rd_TRecord l1 x45_2).f0)) (.int .i64 ((rd_TRecord l1 x45_2).f1)) (.int .i64 ((rd_TRecord l1 x45_2).f2)) (.string ((rd_TRecord l1 x45_2).f3)); have hy234_0 := fun n_ => fD n_ hx234_0; have hy234_1 := fun n_ => fD n_ hx234_1; have hy234_2 := fun n_ => fD n_ hx234_2; have hy234_3 := fun n_ => fD n_ hx234_3; replace hx234_0 := fA hx234_0; replace hx234_1 := fA hx234_1; replace hx234_2 := fA hx234_2; replace hx234_3 := fA hx234_3; clear fA fD; replace p234 := eq_true p234; replace q234 := eq_true q234; have p235 : 0 ≤ ((ji23) : Int) := TD; have q235 : (ji23) < (l1.length : Int) := TD; obtain ⟨ad235, e235, hx235_0, hx235_1, hx235_2, hx235_3⟩ := at_TRecord HR1.out (ji23) p235 q235; obtain rfl : ad230 = ad235 := (by injection e235); have fA := far4 HB GW231 (.string ((rd_TRecord l1 x45_2).f0)) (.int .i64 ((rd_TRecord l1 x45_2).f1)) (.int .i64 ((rd_TRecord l1 x45_2).f2)) (.string ((rd_TRecord l1 x45_2).f3)); have fD := fun n_ => far4 (DR n_ HB) GW231 (.string ((rd_TRecord l1 x45_2).f0)) (.int .i64 ((rd_TRecord l1 x45_2).f1)) (.int .i64 ((rd_TRecord l1 x45_2).f2)) (.string ((rd_TRecord l1 x45_2).f3)); have hy235_0 := fun n_ => fD n_ hx235_0; have hy235_1 := fun n_ => fD n_ hx235_1; have hy235_2 := fun n_ => fD n_ hx235_2; have hy235_3 := fun n_ => fD n_ hx235_3; replace hx235_0 := fA hx235_0; replace hx235_1 := fA hx235_1; replace hx235_2 := fA hx235_2; replace hx235_3 := fA hx235_3; clear fA fD; replace p235 := eq_true p235; replace q235 := eq_true q235))
             repeat (go_quiet (first | ((with_reducible refine gate_dst (N := 9) rfl ?_); refine bE 9 #[.string (⟨#[]⟩ : ByteArray), .int .i64 0, .int .i64 0, .string (⟨#[]⟩ : ByteArray)] 100 ?_; intro gb231 hg w32 hbox hb; have BK231 := Aside0.mk (hbox); have GW231 := bG hg; have GE231 := bG hg; replace HB := BS hb; clear hb hbox hg; have hcz33 := cz4 BK231; have p232 : 0 ≤ ((ji23) : Int) := TD; have q232 : (ji23) < (l1.length : Int) := TD; obtain ⟨ad232, e232, hx232_0, hx232_1, hx232_2, hx232_3⟩ := at_TRecord HR1.out (ji23) p232 q232; obtain rfl : ad230 = ad232 := (by injection e232); have fA := far4 HB GW231 (.string ((rd_TRecord l1 x45_2).f0)) (.int .i64 ((rd_TRecord l1 x45_2).f1)) (.int .i64 ((rd_TRecord l1 x45_2).f2)) (.string ((rd_TRecord l1 x45_2).f3)); have fD := fun n_ => far4 (DR n_ HB) GW231 (.string ((rd_TRecord l1 x45_2).f0)) (.int .i64 ((rd_TRecord l1 x45_2).f1)) (.int .i64 ((rd_TRecord l1 x45_2).f2)) (.string ((rd_TRecord l1 x45_2).f3)); have hy232_0 := fun n_ => fD n_ hx232_0; have hy232_1 := fun n_ => fD n_ hx232_1; have hy232_2 := fun n_ => fD n_ hx232_2; have hy232_3 := fun n_ => fD n_ hx232_3; replace hx232_0 := fA hx232_0; replace hx232_1 := fA hx232_1; replace hx232_2 := fA hx232_2; replace hx232_3 := fA hx232_3; clear fA fD; replace p232 := eq_true p232; replace q232 := eq_true q232; have p233 : 0 ≤ ((ji23) : Int) := TD; have q233 : (ji23) < (l1.length : Int) := TD; obtain ⟨ad233, e233, hx233_0, hx233_1, hx233_2, hx233_3⟩ := at_TRecord HR1.out (ji23) p233 q233; obtain rfl : ad230 = ad233 := (by injection e233); have fA := far4 HB GW231 (.string ((rd_TRecord l1 x45_2).f0)) (.int .i64 ((rd_TRecord l1 x45_2).f1)) (.int .i64 ((rd_TRecord l1 x45_2).f2)) (.string ((rd_TRecord l1 x45_2).f3)); have fD := fun n_ => far4 (DR n_ HB) GW231 (.string ((rd_TRecord l1 x45_2).f0)) (.int .i64 ((rd_TRecord l1 x45_2).f1)) (.int .i64 ((rd_TRecord l1 x45_2).f2)) (.string ((rd_TRecord l1 x45_2).f3)); have hy233_0 := fun n_ => fD n_ hx233_0; have hy233_1 := fun n_ => fD n_ hx233_1; have hy233_2 := fun n_ => fD n_ hx233_2; have hy233_3 := fun n_ => fD n_ hx233_3; replace hx233_0 := fA hx233_0; replace hx233_1 := fA hx233_1; replace hx233_2 := fA hx233_2; replace hx233_3 := fA hx233_3; clear fA fD; replace p233 := eq_true p233; replace q233 := eq_true q233; have p234 : 0 ≤ ((ji23) : Int) := TD; have q234 : (ji23) < (l1.length : Int) := TD; obtain ⟨ad234, e234, hx234_0, hx234_1, hx234_2, hx234_3⟩ := at_TRecord HR1.out (ji23) p234 q234; obtain rfl : ad230 = ad234 := (by injection e234); have fA := far4 HB GW231 (.string ((rd_TRecord l1 x45_2).f0)) (.int .i64 ((rd_TRecord l1 x45_2).f1)) (.int .i64 ((rd_TRecord l1 x45_2).f2)) (.string ((rd_TRecord l1 x45_2).f3)); have fD := fun n_ => far4 (DR n_ HB) GW231 (.string ((rd_TRecord l1 x45_2).f0)) (.int .i64 ((rd_TRecord l1 x45_2).f1)) (.int .i64 ((rd_TRecord l1 x45_2).f2)) (.string ((rd_TRecord l1 x45_2).f3)); have hy234_0 := fun n_ => fD n_ hx234_0; have hy234_1 := fun n_ => fD n_ hx234_1; have hy234_2 := fun n_ => fD n_ hx234_2; have hy234_3 := fun n_ => fD n_ hx234_3; replace hx234_0 := fA hx234_0; replace hx234_1 := fA hx234_1; replace hx234_2 := fA hx234_2; replace hx234_3 := fA hx234_3; clear fA fD; replace p234 := eq_true p234; replace q234 := eq_true q234; have p235 : 0 ≤ ((ji23) : Int) := TD; have q235 : (ji23) < (l1.length : Int) := TD; obtain ⟨ad235, e235, hx235_0, hx235_1, hx235_2, hx235_3⟩ := at_TRecord HR1.out (ji23) p235 q235; obtain rfl : ad230 = ad235 := (by injection e235); have fA := far4 HB GW231 (.string ((rd_TRecord l1 x45_2).f0)) (.int .i64 ((rd_TRecord l1 x45_2).f1)) (.int .i64 ((rd_TRecord l1 x45_2).f2)) (.string ((rd_TRecord l1 x45_2).f3)); have fD := fun n_ => far4 (DR n_ HB) GW231 (.string ((rd_TRecord l1 x45_2).f0)) (.int .i64 ((rd_TRecord l1 x45_2).f1)) (.int .i64 ((rd_TRecord l1 x45_2).f2)) (.string ((rd_TRecord l1 x45_2).f3)); have hy235_0 := fun n_ => fD n_ hx235_0; have hy235_1 := fun n_ => fD n_ hx235_1; have hy235_2 := fun n_ => fD n_ hx235_2; have hy235_3 := fun n_ => fD n_ hx235_3; replace hx235_0 := fA hx235_0; replace hx235_1 := fA hx235_1; replace hx235_2 := fA hx235_2; replace hx235_3 := fA hx235_3; clear fA fD; replace p235 := eq_true p235; replace q235 := eq_true q235)); try go_wp2_with (first | ((with_reducible refine gate_dst (N := 9) rfl ?_); refine bE 9 #[.string (⟨#[]⟩ : ByteArray), .int .i64 0, .int .i64 0, .string (⟨#[]⟩ : ByteArray)] 100 ?_; intro gb231 hg w32 hbox hb; have BK231 := Aside0.mk (hbox); have GW231 := bG hg; have GE231 := bG hg; replace HB := BS hb; clear hb hbox hg; have hcz33 := cz4 BK231; have p232 : 0 ≤ ((ji23) : Int) := TD; have q232 : (ji23) < (l1.length : Int) := TD; obtain ⟨ad232, e232, hx232_0, hx232_1, hx232_2, hx232_3⟩ := at_TRecord HR1.out (ji23) p232 q232; obtain rfl : ad230 = ad232 := (by injection e232); have fA := far4 HB GW231 (.string ((rd_TRecord l1 x45_2).f0)) (.int .i64 ((rd_TRecord l1 x45_2).f1)) (.int .i64 ((rd_TRecord l1 x45_2).f2)) (.string ((rd_TRecord l1 x45_2).f3)); have fD := fun n_ => far4 (DR n_ HB) GW231 (.string ((rd_TRecord l1 x45_2).f0)) (.int .i64 ((rd_TRecord l1 x45_2).f1)) (.int .i64 ((rd_TRecord l1 x45_2).f2)) (.string ((rd_TRecord l1 x45_2).f3)); have hy232_0 := fun n_ => fD n_ hx232_0; have hy232_1 := fun n_ => fD n_ hx232_1; have hy232_2 := fun n_ => fD n_ hx232_2; have hy232_3 := fun n_ => fD n_ hx232_3; replace hx232_0 := fA hx232_0; replace hx232_1 := fA hx232_1; replace hx232_2 := fA hx232_2; replace hx232_3 := fA hx232_3; clear fA fD; replace p232 := eq_true p232; replace q232 := eq_true q232; have p233 : 0 ≤ ((ji23) : Int) := TD; have q233 : (ji23) < (l1.length : Int) := TD; obtain ⟨ad233, e233, hx233_0, hx233_1, hx233_2, hx233_3⟩ := at_TRecord HR1.out (ji23) p233 q233; obtain rfl : ad230 = ad233 := (by injection e233); have fA := far4 HB GW231 (.string ((rd_TRecord l1 x45_2).f0)) (.int .i64 ((rd_TRecord l1 x45_2).f1)) (.int .i64 ((rd_TRecord l1 x45_2).f2)) (.string ((rd_TRecord l1 x45_2).f3)); have fD := fun n_ => far4 (DR n_ HB) GW231 (.string ((rd_TRecord l1 x45_2).f0)) (.int .i64 ((rd_TRecord l1 x45_2).f1)) (.int .i64 ((rd_TRecord l1 x45_2).f2)) (.string ((rd_TRecord l1 x45_2).f3)); have hy233_0 := fun n_ => fD n_ hx233_0; have hy233_1 := fun n_ => fD n_ hx233_1; have hy233_2 := fun n_ => fD n_ hx233_2; have hy233_3 := fun n_ => fD n_ hx233_3; replace hx233_0 := fA hx233_0; replace hx233_1 := fA hx233_1; replace hx233_2 := fA hx233_2; replace hx233_3 := fA hx233_3; clear fA fD; replace p233 := eq_true p233; replace q233 := eq_true q233; have p234 : 0 ≤ ((ji23) : Int) := TD; have q234 : (ji23) < (l1.length : Int) := TD; obtain ⟨ad234, e234, hx234_0, hx234_1, hx234_2, hx234_3⟩ := at_TRecord HR1.out (ji23) p234 q234; obtain rfl : ad230 = ad234 := (by injection e234); have fA := far4 HB GW231 (.string ((rd_TRecord l1 x45_2).f0)) (.int .i64 ((rd_TRecord l1 x45_2).f1)) (.int .i64 ((rd_TRecord l1 x45_2).f2)) (.string ((rd_TRecord l1 x45_2).f3)); have fD := fun n_ => far4 (DR n_ HB) GW231 (.string ((rd_TRecord l1 x45_2).f0)) (.int .i64 ((rd_TRecord l1 x45_2).f1)) (.int .i64 ((rd_TRecord l1 x45_2).f2)) (.string ((rd_TRecord l1 x45_2).f3)); have hy234_0 := fun n_ => fD n_ hx234_0; have hy234_1 := fun n_ => fD n_ hx234_1; have hy234_2 := fun n_ => fD n_ hx234_2; have hy234_3 := fun n_ => fD n_ hx234_3; replace hx234_0 := fA hx234_0; replace hx234_1 := fA hx234_1; replace hx234_2 := fA hx234_2; replace hx234_3 := fA hx234_3; clear fA fD; replace p234 := eq_true p234; replace q234 := eq_true q234; have p235 : 0 ≤ ((ji23) : Int) := TD; have q235 : (ji23) < (l1.length : Int) := TD; obtain ⟨ad235, e235, hx235_0, hx235_1, hx235_2, hx235_3⟩ := at_TRecord HR1.out (ji23) p235 q235; obtain rfl : ad230 = ad235 := (by injection e235); have fA := far4 HB GW231 (.string ((rd_TRecord l1 x45_2).f0)) (.int .i64 ((rd_TRecord l1 x45_2).f1)) (.int .i64 ((rd_TRecord l1 x45_2).f2)) (.string ((rd_TRecord l1 x45_2).f3)); have fD := fun n_ => far4 (DR n_ HB) GW231 (.string ((rd_TRecord l1 x45_2).f0)) (.int .i64 ((rd_TRecord l1 x45_2).f1)) (.int .i64 ((rd_TRecord l1 x45_2).f2)) (.string ((rd_TRecord l1 x45_2).f3)); have hy235_0 := fun n_ => fD n_ hx235_0; have hy235_1 := fun n_ => fD n_ hx235_1; have hy235_2 := fun n_ => fD n_ hx235_2; have hy235_3 := fun n_ => fD n_ hx235_3; replace hx235_0 := fA hx235_0; replace hx235_1 := fA hx235_1; replace hx235_2 := fA hx235_2; replace hx235_3 := fA hx235_3; clear fA fD; replace p235 := eq_true p235; replace q235 := eq_true q235)))
             go_roundg k2
             case measure => have := HK1.out; have := HK2.out; omega
             case rel => exact ⟨(wrap64 (x45_2 + 1)), TF, H', ⟨by have := HK1.out; have := HK2.out; omega⟩, ⟨TB⟩⟩
           ·rw [if_neg c28] at H
            have c28b0 : (((rd_TRecord l1 (ji23)).f2) == ((rd_TRecord l1 x45_2).f2)) = false := beq_eq_false_iff_ne.mpr c28
            have c28b1 : (((rd_TRecord l1 (ji23)).f2) != ((rd_TRecord l1 x45_2).f2)) = true := bne_iff_ne.mpr c28
            obtain rfl := Option.some.inj H
            have p230 : 0 ≤ (x45_2 : Int) := TD
            have q230 : x45_2 < (l1.length : Int) := TD
            obtain ⟨ad230, e230, hx230_0, hx230_1, hx230_2, hx230_3⟩ := at_TRecord (Kd.C_below HR1.out HB.out) x45_2 p230 q230
            cases e230
            replace p230 := eq_true p230
            replace q230 := eq_true q230
            go_wp2_with (first | ((with_reducible refine gate_dst (N := 9) rfl ?_); refine bE 9 #[.string (⟨#[]⟩ : ByteArray), .int .i64 0, .int .i64 0, .string (⟨#[]⟩ : ByteArray)] 100 ?_; intro gb231 hg w34 hbox hb; have BK231 := Aside0.mk (hbox); have GW231 := bG hg; have GE231 := bG hg; replace HB := BS hb; clear hb hbox hg; have hcz35 := cz4 BK231; have p232 : 0 ≤ ((ji23) : Int) := TD; have q232 : (ji23) < (l1.length : Int) := TD; obtain ⟨ad232, e232, hx232_0, hx232_1, hx232_2, hx232_3⟩ := at_TRecord HR1.out (ji23) p232 q232; obtain rfl : ad230 = ad232 := (by injection e232); have fA := far4 HB GW231 (.string ((rd_TRecord l1 x45_2).f0)) (.int .i64 ((rd_TRecord l1 x45_2).f1)) (.int .i64 ((rd_TRecord l1 x45_2).f2)) (.string ((rd_TRecord l1 x45_2).f3)); have fD := fun n_ => far4 (DR n_ HB) GW231 (.string ((rd_TRecord l1 x45_2).f0)) (.int .i64 ((rd_TRecord l1 x45_2).f1)) (.int .i64 ((rd_TRecord l1 x45_2).f2)) (.string ((rd_TRecord l1 x45_2).f3)); have hy232_0 := fun n_ => fD n_ hx232_0; have hy232_1 := fun n_ => fD n_ hx232_1; have hy232_2 := fun n_ => fD n_ hx232_2; have hy232_3 := fun n_ => fD n_ hx232_3; replace hx232_0 := fA hx232_0; replace hx232_1 := fA hx232_1; replace hx232_2 := fA hx232_2; replace hx232_3 := fA hx232_3; clear fA fD; replace p232 := eq_true p232; replace q232 := eq_true q232; have p233 : 0 ≤ ((ji23) : Int) := TD; have q233 : (ji23) < (l1.length : Int) := TD; obtain ⟨ad233, e233, hx233_0, hx233_1, hx233_2, hx233_3⟩ := at_TRecord HR1.out (ji23) p233 q233; obtain rfl : ad230 = ad233 := (by injection e233); have fA := far4 HB GW231 (.string ((rd_TRecord l1 x45_2).f0)) (.int .i64 ((rd_TRecord l1 x45_2).f1)) (.int .i64 ((rd_TRecord l1 x45_2).f2)) (.string ((rd_TRecord l1 x45_2).f3)); have fD := fun n_ => far4 (DR n_ HB) GW231 (.string ((rd_TRecord l1 x45_2).f0)) (.int .i64 ((rd_TRecord l1 x45_2).f1)) (.int .i64 ((rd_TRecord l1 x45_2).f2)) (.string ((rd_TRecord l1 x45_2).f3)); have hy233_0 := fun n_ => fD n_ hx233_0; have hy233_1 := fun n_ => fD n_ hx233_1; have hy233_2 := fun n_ => fD n_ hx233_2; have hy233_3 := fun n_ => fD n_ hx233_3; replace hx233_0 := fA hx233_0; replace hx233_1 := fA hx233_1; replace hx233_2 := fA hx233_2; replace hx233_3 := fA hx233_3; clear fA fD; replace p233 := eq_true p233; replace q233 := eq_true q233; have p234 : 0 ≤ ((ji23) : Int) := TD; have q234 : (ji23) < (l1.length : Int) := TD; obtain ⟨ad234, e234, hx234_0, hx234_1, hx234_2, hx234_3⟩ := at_TRecord HR1.out (ji23) p234 q234; obtain rfl : ad230 = ad234 := (by injection e234); have fA := far4 HB GW231 (.string ((rd_TRecord l1 x45_2).f0)) (.int .i64 ((rd_TRecord l1 x45_2).f1)) (.int .i64 ((rd_TRecord l1 x45_2).f2)) (.string ((rd_TRecord l1 x45_2).f3)); have fD := fun n_ => far4 (DR n_ HB) GW231 (.string ((rd_TRecord l1 x45_2).f0)) (.int .i64 ((rd_TRecord l1 x45_2).f1)) (.int .i64 ((rd_TRecord l1 x45_2).f2)) (.string ((rd_TRecord l1 x45_2).f3)); have hy234_0 := fun n_ => fD n_ hx234_0; have hy234_1 := fun n_ => fD n_ hx234_1; have hy234_2 := fun n_ => fD n_ hx234_2; have hy234_3 := fun n_ => fD n_ hx234_3; replace hx234_0 := fA hx234_0; replace hx234_1 := fA hx234_1; replace hx234_2 := fA hx234_2; replace hx234_3 := fA hx234_3; clear fA fD; replace p234 := eq_true p234; replace q234 := eq_true q234))
            repeat (go_quiet (first | ((with_reducible refine gate_dst (N := 9) rfl ?_); refine bE 9 #[.string (⟨#[]⟩ : ByteArray), .int .i64 0, .int .i64 0, .string (⟨#[]⟩ : ByteArray)] 100 ?_; intro gb231 hg w34 hbox hb; have BK231 := Aside0.mk (hbox); have GW231 := bG hg; have GE231 := bG hg; replace HB := BS hb; clear hb hbox hg; have hcz35 := cz4 BK231; have p232 : 0 ≤ ((ji23) : Int) := TD; have q232 : (ji23) < (l1.length : Int) := TD; obtain ⟨ad232, e232, hx232_0, hx232_1, hx232_2, hx232_3⟩ := at_TRecord HR1.out (ji23) p232 q232; obtain rfl : ad230 = ad232 := (by injection e232); have fA := far4 HB GW231 (.string ((rd_TRecord l1 x45_2).f0)) (.int .i64 ((rd_TRecord l1 x45_2).f1)) (.int .i64 ((rd_TRecord l1 x45_2).f2)) (.string ((rd_TRecord l1 x45_2).f3)); have fD := fun n_ => far4 (DR n_ HB) GW231 (.string ((rd_TRecord l1 x45_2).f0)) (.int .i64 ((rd_TRecord l1 x45_2).f1)) (.int .i64 ((rd_TRecord l1 x45_2).f2)) (.string ((rd_TRecord l1 x45_2).f3)); have hy232_0 := fun n_ => fD n_ hx232_0; have hy232_1 := fun n_ => fD n_ hx232_1; have hy232_2 := fun n_ => fD n_ hx232_2; have hy232_3 := fun n_ => fD n_ hx232_3; replace hx232_0 := fA hx232_0; replace hx232_1 := fA hx232_1; replace hx232_2 := fA hx232_2; replace hx232_3 := fA hx232_3; clear fA fD; replace p232 := eq_true p232; replace q232 := eq_true q232; have p233 : 0 ≤ ((ji23) : Int) := TD; have q233 : (ji23) < (l1.length : Int) := TD; obtain ⟨ad233, e233, hx233_0, hx233_1, hx233_2, hx233_3⟩ := at_TRecord HR1.out (ji23) p233 q233; obtain rfl : ad230 = ad233 := (by injection e233); have fA := far4 HB GW231 (.string ((rd_TRecord l1 x45_2).f0)) (.int .i64 ((rd_TRecord l1 x45_2).f1)) (.int .i64 ((rd_TRecord l1 x45_2).f2)) (.string ((rd_TRecord l1 x45_2).f3)); have fD := fun n_ => far4 (DR n_ HB) GW231 (.string ((rd_TRecord l1 x45_2).f0)) (.int .i64 ((rd_TRecord l1 x45_2).f1)) (.int .i64 ((rd_TRecord l1 x45_2).f2)) (.string ((rd_TRecord l1 x45_2).f3)); have hy233_0 := fun n_ => fD n_ hx233_0; have hy233_1 := fun n_ => fD n_ hx233_1; have hy233_2 := fun n_ => fD n_ hx233_2; have hy233_3 := fun n_ => fD n_ hx233_3; replace hx233_0 := fA hx233_0; replace hx233_1 := fA hx233_1; replace hx233_2 := fA hx233_2; replace hx233_3 := fA hx233_3; clear fA fD; replace p233 := eq_true p233; replace q233 := eq_true q233; have p234 : 0 ≤ ((ji23) : Int) := TD; have q234 : (ji23) < (l1.length : Int) := TD; obtain ⟨ad234, e234, hx234_0, hx234_1, hx234_2, hx234_3⟩ := at_TRecord HR1.out (ji23) p234 q234; obtain rfl : ad230 = ad234 := (by injection e234); have fA := far4 HB GW231 (.string ((rd_TRecord l1 x45_2).f0)) (.int .i64 ((rd_TRecord l1 x45_2).f1)) (.int .i64 ((rd_TRecord l1 x45_2).f2)) (.string ((rd_TRecord l1 x45_2).f3)); have fD := fun n_ => far4 (DR n_ HB) GW231 (.string ((rd_TRecord l1 x45_2).f0)) (.int .i64 ((rd_TRecord l1 x45_2).f1)) (.int .i64 ((rd_TRecord l1 x45_2).f2)) (.string ((rd_TRecord l1 x45_2).f3)); have hy234_0 := fun n_ => fD n_ hx234_0; have hy234_1 := fun n_ => fD n_ hx234_1; have hy234_2 := fun n_ => fD n_ hx234_2; have hy234_3 := fun n_ => fD n_ hx234_3; replace hx234_0 := fA hx234_0; replace hx234_1 := fA hx234_1; replace hx234_2 := fA hx234_2; replace hx234_3 := fA hx234_3; clear fA fD; replace p234 := eq_true p234; replace q234 := eq_true q234)); try go_wp2_with (first | ((with_reducible refine gate_dst (N := 9) rfl ?_); refine bE 9 #[.string (⟨#[]⟩ : ByteArray), .int .i64 0, .int .i64 0, .string (⟨#[]⟩ : ByteArray)] 100 ?_; intro gb231 hg w34 hbox hb; have BK231 := Aside0.mk (hbox); have GW231 := bG hg; have GE231 := bG hg; replace HB := BS hb; clear hb hbox hg; have hcz35 := cz4 BK231; have p232 : 0 ≤ ((ji23) : Int) := TD; have q232 : (ji23) < (l1.length : Int) := TD; obtain ⟨ad232, e232, hx232_0, hx232_1, hx232_2, hx232_3⟩ := at_TRecord HR1.out (ji23) p232 q232; obtain rfl : ad230 = ad232 := (by injection e232); have fA := far4 HB GW231 (.string ((rd_TRecord l1 x45_2).f0)) (.int .i64 ((rd_TRecord l1 x45_2).f1)) (.int .i64 ((rd_TRecord l1 x45_2).f2)) (.string ((rd_TRecord l1 x45_2).f3)); have fD := fun n_ => far4 (DR n_ HB) GW231 (.string ((rd_TRecord l1 x45_2).f0)) (.int .i64 ((rd_TRecord l1 x45_2).f1)) (.int .i64 ((rd_TRecord l1 x45_2).f2)) (.string ((rd_TRecord l1 x45_2).f3)); have hy232_0 := fun n_ => fD n_ hx232_0; have hy232_1 := fun n_ => fD n_ hx232_1; have hy232_2 := fun n_ => fD n_ hx232_2; have hy232_3 := fun n_ => fD n_ hx232_3; replace hx232_0 := fA hx232_0; replace hx232_1 := fA hx232_1; replace hx232_2 := fA hx232_2; replace hx232_3 := fA hx232_3; clear fA fD; replace p232 := eq_true p232; replace q232 := eq_true q232; have p233 : 0 ≤ ((ji23) : Int) := TD; have q233 : (ji23) < (l1.length : Int) := TD; obtain ⟨ad233, e233, hx233_0, hx233_1, hx233_2, hx233_3⟩ := at_TRecord HR1.out (ji23) p233 q233; obtain rfl : ad230 = ad233 := (by injection e233); have fA := far4 HB GW231 (.string ((rd_TRecord l1 x45_2).f0)) (.int .i64 ((rd_TRecord l1 x45_2).f1)) (.int .i64 ((rd_TRecord l1 x45_2).f2)) (.string ((rd_TRecord l1 x45_2).f3)); have fD := fun n_ => far4 (DR n_ HB) GW231 (.string ((rd_TRecord l1 x45_2).f0)) (.int .i64 ((rd_TRecord l1 x45_2).f1)) (.int .i64 ((rd_TRecord l1 x45_2).f2)) (.string ((rd_TRecord l1 x45_2).f3)); have hy233_0 := fun n_ => fD n_ hx233_0; have hy233_1 := fun n_ => fD n_ hx233_1; have hy233_2 := fun n_ => fD n_ hx233_2; have hy233_3 := fun n_ => fD n_ hx233_3; replace hx233_0 := fA hx233_0; replace hx233_1 := fA hx233_1; replace hx233_2 := fA hx233_2; replace hx233_3 := fA hx233_3; clear fA fD; replace p233 := eq_true p233; replace q233 := eq_true q233; have p234 : 0 ≤ ((ji23) : Int) := TD; have q234 : (ji23) < (l1.length : Int) := TD; obtain ⟨ad234, e234, hx234_0, hx234_1, hx234_2, hx234_3⟩ := at_TRecord HR1.out (ji23) p234 q234; obtain rfl : ad230 = ad234 := (by injection e234); have fA := far4 HB GW231 (.string ((rd_TRecord l1 x45_2).f0)) (.int .i64 ((rd_TRecord l1 x45_2).f1)) (.int .i64 ((rd_TRecord l1 x45_2).f2)) (.string ((rd_TRecord l1 x45_2).f3)); have fD := fun n_ => far4 (DR n_ HB) GW231 (.string ((rd_TRecord l1 x45_2).f0)) (.int .i64 ((rd_TRecord l1 x45_2).f1)) (.int .i64 ((rd_TRecord l1 x45_2).f2)) (.string ((rd_TRecord l1 x45_2).f3)); have hy234_0 := fun n_ => fD n_ hx234_0; have hy234_1 := fun n_ => fD n_ hx234_1; have hy234_2 := fun n_ => fD n_ hx234_2; have hy234_3 := fun n_ => fD n_ hx234_3; replace hx234_0 := fA hx234_0; replace hx234_1 := fA hx234_1; replace hx234_2 := fA hx234_2; replace hx234_3 := fA hx234_3; clear fA fD; replace p234 := eq_true p234; replace q234 := eq_true q234)))
            go_ret
            exact ⟨by first | rfl | (simp [errW_none, errW_some] <;> rfl) | (simp only [← hji23]; first | rfl | (simp [errW_none, errW_some] <;> rfl)) | (simp [*, errW_none, errW_some] <;> rfl), TB⟩
          ·rw [if_neg c27] at H
           have c27b0 : (((rd_TRecord l1 (ji23)).f1) == ((rd_TRecord l1 x45_2).f1)) = false := beq_eq_false_iff_ne.mpr c27
           have c27b1 : (((rd_TRecord l1 (ji23)).f1) != ((rd_TRecord l1 x45_2).f1)) = true := bne_iff_ne.mpr c27
           have H' := Aside0.mk H
           clear H
           have p230 : 0 ≤ (x45_2 : Int) := TD
           have q230 : x45_2 < (l1.length : Int) := TD
           obtain ⟨ad230, e230, hx230_0, hx230_1, hx230_2, hx230_3⟩ := at_TRecord (Kd.C_below HR1.out HB.out) x45_2 p230 q230
           cases e230
           replace p230 := eq_true p230
           replace q230 := eq_true q230
           go_wp2_with (first | ((with_reducible refine gate_dst (N := 9) rfl ?_); refine bE 9 #[.string (⟨#[]⟩ : ByteArray), .int .i64 0, .int .i64 0, .string (⟨#[]⟩ : ByteArray)] 100 ?_; intro gb231 hg w36 hbox hb; have BK231 := Aside0.mk (hbox); have GW231 := bG hg; have GE231 := bG hg; replace HB := BS hb; clear hb hbox hg; have hcz37 := cz4 BK231; have p232 : 0 ≤ ((ji23) : Int) := TD; have q232 : (ji23) < (l1.length : Int) := TD; obtain ⟨ad232, e232, hx232_0, hx232_1, hx232_2, hx232_3⟩ := at_TRecord HR1.out (ji23) p232 q232; obtain rfl : ad230 = ad232 := (by injection e232); have fA := far4 HB GW231 (.string ((rd_TRecord l1 x45_2).f0)) (.int .i64 ((rd_TRecord l1 x45_2).f1)) (.int .i64 ((rd_TRecord l1 x45_2).f2)) (.string ((rd_TRecord l1 x45_2).f3)); have fD := fun n_ => far4 (DR n_ HB) GW231 (.string ((rd_TRecord l1 x45_2).f0)) (.int .i64 ((rd_TRecord l1 x45_2).f1)) (.int .i64 ((rd_TRecord l1 x45_2).f2)) (.string ((rd_TRecord l1 x45_2).f3)); have hy232_0 := fun n_ => fD n_ hx232_0; have hy232_1 := fun n_ => fD n_ hx232_1; have hy232_2 := fun n_ => fD n_ hx232_2; have hy232_3 := fun n_ => fD n_ hx232_3; replace hx232_0 := fA hx232_0; replace hx232_1 := fA hx232_1; replace hx232_2 := fA hx232_2; replace hx232_3 := fA hx232_3; clear fA fD; replace p232 := eq_true p232; replace q232 := eq_true q232; have p233 : 0 ≤ ((ji23) : Int) := TD; have q233 : (ji23) < (l1.length : Int) := TD; obtain ⟨ad233, e233, hx233_0, hx233_1, hx233_2, hx233_3⟩ := at_TRecord HR1.out (ji23) p233 q233; obtain rfl : ad230 = ad233 := (by injection e233); have fA := far4 HB GW231 (.string ((rd_TRecord l1 x45_2).f0)) (.int .i64 ((rd_TRecord l1 x45_2).f1)) (.int .i64 ((rd_TRecord l1 x45_2).f2)) (.string ((rd_TRecord l1 x45_2).f3)); have fD := fun n_ => far4 (DR n_ HB) GW231 (.string ((rd_TRecord l1 x45_2).f0)) (.int .i64 ((rd_TRecord l1 x45_2).f1)) (.int .i64 ((rd_TRecord l1 x45_2).f2)) (.string ((rd_TRecord l1 x45_2).f3)); have hy233_0 := fun n_ => fD n_ hx233_0; have hy233_1 := fun n_ => fD n_ hx233_1; have hy233_2 := fun n_ => fD n_ hx233_2; have hy233_3 := fun n_ => fD n_ hx233_3; replace hx233_0 := fA hx233_0; replace hx233_1 := fA hx233_1; replace hx233_2 := fA hx233_2; replace hx233_3 := fA hx233_3; clear fA fD; replace p233 := eq_true p233; replace q233 := eq_true q233))
           repeat (go_quiet (first | ((with_reducible refine gate_dst (N := 9) rfl ?_); refine bE 9 #[.string (⟨#[]⟩ : ByteArray), .int .i64 0, .int .i64 0, .string (⟨#[]⟩ : ByteArray)] 100 ?_; intro gb231 hg w36 hbox hb; have BK231 := Aside0.mk (hbox); have GW231 := bG hg; have GE231 := bG hg; replace HB := BS hb; clear hb hbox hg; have hcz37 := cz4 BK231; have p232 : 0 ≤ ((ji23) : Int) := TD; have q232 : (ji23) < (l1.length : Int) := TD; obtain ⟨ad232, e232, hx232_0, hx232_1, hx232_2, hx232_3⟩ := at_TRecord HR1.out (ji23) p232 q232; obtain rfl : ad230 = ad232 := (by injection e232); have fA := far4 HB GW231 (.string ((rd_TRecord l1 x45_2).f0)) (.int .i64 ((rd_TRecord l1 x45_2).f1)) (.int .i64 ((rd_TRecord l1 x45_2).f2)) (.string ((rd_TRecord l1 x45_2).f3)); have fD := fun n_ => far4 (DR n_ HB) GW231 (.string ((rd_TRecord l1 x45_2).f0)) (.int .i64 ((rd_TRecord l1 x45_2).f1)) (.int .i64 ((rd_TRecord l1 x45_2).f2)) (.string ((rd_TRecord l1 x45_2).f3)); have hy232_0 := fun n_ => fD n_ hx232_0; have hy232_1 := fun n_ => fD n_ hx232_1; have hy232_2 := fun n_ => fD n_ hx232_2; have hy232_3 := fun n_ => fD n_ hx232_3; replace hx232_0 := fA hx232_0; replace hx232_1 := fA hx232_1; replace hx232_2 := fA hx232_2; replace hx232_3 := fA hx232_3; clear fA fD; replace p232 := eq_true p232; replace q232 := eq_true q232; have p233 : 0 ≤ ((ji23) : Int) := TD; have q233 : (ji23) < (l1.length : Int) := TD; obtain ⟨ad233, e233, hx233_0, hx233_1, hx233_2, hx233_3⟩ := at_TRecord HR1.out (ji23) p233 q233; obtain rfl : ad230 = ad233 := (by injection e233); have fA := far4 HB GW231 (.string ((rd_TRecord l1 x45_2).f0)) (.int .i64 ((rd_TRecord l1 x45_2).f1)) (.int .i64 ((rd_TRecord l1 x45_2).f2)) (.string ((rd_TRecord l1 x45_2).f3)); have fD := fun n_ => far4 (DR n_ HB) GW231 (.string ((rd_TRecord l1 x45_2).f0)) (.int .i64 ((rd_TRecord l1 x45_2).f1)) (.int .i64 ((rd_TRecord l1 x45_2).f2)) (.string ((rd_TRecord l1 x45_2).f3)); have hy233_0 := fun n_ => fD n_ hx233_0; have hy233_1 := fun n_ => fD n_ hx233_1; have hy233_2 := fun n_ => fD n_ hx233_2; have hy233_3 := fun n_ => fD n_ hx233_3; replace hx233_0 := fA hx233_0; replace hx233_1 := fA hx233_1; replace hx233_2 := fA hx233_2; replace hx233_3 := fA hx233_3; clear fA fD; replace p233 := eq_true p233; replace q233 := eq_true q233)); try go_wp2_with (first | ((with_reducible refine gate_dst (N := 9) rfl ?_); refine bE 9 #[.string (⟨#[]⟩ : ByteArray), .int .i64 0, .int .i64 0, .string (⟨#[]⟩ : ByteArray)] 100 ?_; intro gb231 hg w36 hbox hb; have BK231 := Aside0.mk (hbox); have GW231 := bG hg; have GE231 := bG hg; replace HB := BS hb; clear hb hbox hg; have hcz37 := cz4 BK231; have p232 : 0 ≤ ((ji23) : Int) := TD; have q232 : (ji23) < (l1.length : Int) := TD; obtain ⟨ad232, e232, hx232_0, hx232_1, hx232_2, hx232_3⟩ := at_TRecord HR1.out (ji23) p232 q232; obtain rfl : ad230 = ad232 := (by injection e232); have fA := far4 HB GW231 (.string ((rd_TRecord l1 x45_2).f0)) (.int .i64 ((rd_TRecord l1 x45_2).f1)) (.int .i64 ((rd_TRecord l1 x45_2).f2)) (.string ((rd_TRecord l1 x45_2).f3)); have fD := fun n_ => far4 (DR n_ HB) GW231 (.string ((rd_TRecord l1 x45_2).f0)) (.int .i64 ((rd_TRecord l1 x45_2).f1)) (.int .i64 ((rd_TRecord l1 x45_2).f2)) (.string ((rd_TRecord l1 x45_2).f3)); have hy232_0 := fun n_ => fD n_ hx232_0; have hy232_1 := fun n_ => fD n_ hx232_1; have hy232_2 := fun n_ => fD n_ hx232_2; have hy232_3 := fun n_ => fD n_ hx232_3; replace hx232_0 := fA hx232_0; replace hx232_1 := fA hx232_1; replace hx232_2 := fA hx232_2; replace hx232_3 := fA hx232_3; clear fA fD; replace p232 := eq_true p232; replace q232 := eq_true q232; have p233 : 0 ≤ ((ji23) : Int) := TD; have q233 : (ji23) < (l1.length : Int) := TD; obtain ⟨ad233, e233, hx233_0, hx233_1, hx233_2, hx233_3⟩ := at_TRecord HR1.out (ji23) p233 q233; obtain rfl : ad230 = ad233 := (by injection e233); have fA := far4 HB GW231 (.string ((rd_TRecord l1 x45_2).f0)) (.int .i64 ((rd_TRecord l1 x45_2).f1)) (.int .i64 ((rd_TRecord l1 x45_2).f2)) (.string ((rd_TRecord l1 x45_2).f3)); have fD := fun n_ => far4 (DR n_ HB) GW231 (.string ((rd_TRecord l1 x45_2).f0)) (.int .i64 ((rd_TRecord l1 x45_2).f1)) (.int .i64 ((rd_TRecord l1 x45_2).f2)) (.string ((rd_TRecord l1 x45_2).f3)); have hy233_0 := fun n_ => fD n_ hx233_0; have hy233_1 := fun n_ => fD n_ hx233_1; have hy233_2 := fun n_ => fD n_ hx233_2; have hy233_3 := fun n_ => fD n_ hx233_3; replace hx233_0 := fA hx233_0; replace hx233_1 := fA hx233_1; replace hx233_2 := fA hx233_2; replace hx233_3 := fA hx233_3; clear fA fD; replace p233 := eq_true p233; replace q233 := eq_true q233)))
           go_roundg k2
           case measure => have := HK1.out; have := HK2.out; omega
           case rel => exact ⟨(wrap64 (x45_2 + 1)), TF, H', ⟨by have := HK1.out; have := HK2.out; omega⟩, ⟨TB⟩⟩
         ·rw [if_neg c26] at H
          have c26b0 : (((rd_TRecord l1 (ji23)).f0).toList == ((rd_TRecord l1 x45_2).f0).toList) = false := beq_eq_false_iff_ne.mpr c26
          have c26b1 : (((rd_TRecord l1 (ji23)).f0).toList != ((rd_TRecord l1 x45_2).f0).toList) = true := bne_iff_ne.mpr c26
          have H' := Aside0.mk H
          clear H
          have p230 : 0 ≤ (x45_2 : Int) := TD
          have q230 : x45_2 < (l1.length : Int) := TD
          obtain ⟨ad230, e230, hx230_0, hx230_1, hx230_2, hx230_3⟩ := at_TRecord (Kd.C_below HR1.out HB.out) x45_2 p230 q230
          cases e230
          replace p230 := eq_true p230
          replace q230 := eq_true q230
          go_wp2_with (first | ((with_reducible refine gate_dst (N := 9) rfl ?_); refine bE 9 #[.string (⟨#[]⟩ : ByteArray), .int .i64 0, .int .i64 0, .string (⟨#[]⟩ : ByteArray)] 100 ?_; intro gb231 hg w38 hbox hb; have BK231 := Aside0.mk (hbox); have GW231 := bG hg; have GE231 := bG hg; replace HB := BS hb; clear hb hbox hg; have hcz39 := cz4 BK231; have p232 : 0 ≤ ((ji23) : Int) := TD; have q232 : (ji23) < (l1.length : Int) := TD; obtain ⟨ad232, e232, hx232_0, hx232_1, hx232_2, hx232_3⟩ := at_TRecord HR1.out (ji23) p232 q232; obtain rfl : ad230 = ad232 := (by injection e232); have fA := far4 HB GW231 (.string ((rd_TRecord l1 x45_2).f0)) (.int .i64 ((rd_TRecord l1 x45_2).f1)) (.int .i64 ((rd_TRecord l1 x45_2).f2)) (.string ((rd_TRecord l1 x45_2).f3)); have fD := fun n_ => far4 (DR n_ HB) GW231 (.string ((rd_TRecord l1 x45_2).f0)) (.int .i64 ((rd_TRecord l1 x45_2).f1)) (.int .i64 ((rd_TRecord l1 x45_2).f2)) (.string ((rd_TRecord l1 x45_2).f3)); have hy232_0 := fun n_ => fD n_ hx232_0; have hy232_1 := fun n_ => fD n_ hx232_1; have hy232_2 := fun n_ => fD n_ hx232_2; have hy232_3 := fun n_ => fD n_ hx232_3; replace hx232_0 := fA hx232_0; replace hx232_1 := fA hx232_1; replace hx232_2 := fA hx232_2; replace hx232_3 := fA hx232_3; clear fA fD; replace p232 := eq_true p232; replace q232 := eq_true q232))
          repeat (go_quiet (first | ((with_reducible refine gate_dst (N := 9) rfl ?_); refine bE 9 #[.string (⟨#[]⟩ : ByteArray), .int .i64 0, .int .i64 0, .string (⟨#[]⟩ : ByteArray)] 100 ?_; intro gb231 hg w38 hbox hb; have BK231 := Aside0.mk (hbox); have GW231 := bG hg; have GE231 := bG hg; replace HB := BS hb; clear hb hbox hg; have hcz39 := cz4 BK231; have p232 : 0 ≤ ((ji23) : Int) := TD; have q232 : (ji23) < (l1.length : Int) := TD; obtain ⟨ad232, e232, hx232_0, hx232_1, hx232_2, hx232_3⟩ := at_TRecord HR1.out (ji23) p232 q232; obtain rfl : ad230 = ad232 := (by injection e232); have fA := far4 HB GW231 (.string ((rd_TRecord l1 x45_2).f0)) (.int .i64 ((rd_TRecord l1 x45_2).f1)) (.int .i64 ((rd_TRecord l1 x45_2).f2)) (.string ((rd_TRecord l1 x45_2).f3)); have fD := fun n_ => far4 (DR n_ HB) GW231 (.string ((rd_TRecord l1 x45_2).f0)) (.int .i64 ((rd_TRecord l1 x45_2).f1)) (.int .i64 ((rd_TRecord l1 x45_2).f2)) (.string ((rd_TRecord l1 x45_2).f3)); have hy232_0 := fun n_ => fD n_ hx232_0; have hy232_1 := fun n_ => fD n_ hx232_1; have hy232_2 := fun n_ => fD n_ hx232_2; have hy232_3 := fun n_ => fD n_ hx232_3; replace hx232_0 := fA hx232_0; replace hx232_1 := fA hx232_1; replace hx232_2 := fA hx232_2; replace hx232_3 := fA hx232_3; clear fA fD; replace p232 := eq_true p232; replace q232 := eq_true q232)); try go_wp2_with (first | ((with_reducible refine gate_dst (N := 9) rfl ?_); refine bE 9 #[.string (⟨#[]⟩ : ByteArray), .int .i64 0, .int .i64 0, .string (⟨#[]⟩ : ByteArray)] 100 ?_; intro gb231 hg w38 hbox hb; have BK231 := Aside0.mk (hbox); have GW231 := bG hg; have GE231 := bG hg; replace HB := BS hb; clear hb hbox hg; have hcz39 := cz4 BK231; have p232 : 0 ≤ ((ji23) : Int) := TD; have q232 : (ji23) < (l1.length : Int) := TD; obtain ⟨ad232, e232, hx232_0, hx232_1, hx232_2, hx232_3⟩ := at_TRecord HR1.out (ji23) p232 q232; obtain rfl : ad230 = ad232 := (by injection e232); have fA := far4 HB GW231 (.string ((rd_TRecord l1 x45_2).f0)) (.int .i64 ((rd_TRecord l1 x45_2).f1)) (.int .i64 ((rd_TRecord l1 x45_2).f2)) (.string ((rd_TRecord l1 x45_2).f3)); have fD := fun n_ => far4 (DR n_ HB) GW231 (.string ((rd_TRecord l1 x45_2).f0)) (.int .i64 ((rd_TRecord l1 x45_2).f1)) (.int .i64 ((rd_TRecord l1 x45_2).f2)) (.string ((rd_TRecord l1 x45_2).f3)); have hy232_0 := fun n_ => fD n_ hx232_0; have hy232_1 := fun n_ => fD n_ hx232_1; have hy232_2 := fun n_ => fD n_ hx232_2; have hy232_3 := fun n_ => fD n_ hx232_3; replace hx232_0 := fA hx232_0; replace hx232_1 := fA hx232_1; replace hx232_2 := fA hx232_2; replace hx232_3 := fA hx232_3; clear fA fD; replace p232 := eq_true p232; replace q232 := eq_true q232)))
          go_roundg k2
          case measure => have := HK1.out; have := HK2.out; omega
          case rel => exact ⟨(wrap64 (x45_2 + 1)), TF, H', ⟨by have := HK1.out; have := HK2.out; omega⟩, ⟨TB⟩⟩
        ·rw [if_neg c22] at H
         have c22b0 : decide (0 < x45_2) = false := decide_eq_false c22
         clear c22
         have H' := Aside0.mk H
         clear H
         have p230 : 0 ≤ (x45_2 : Int) := TD
         have q230 : x45_2 < (l1.length : Int) := TD
         obtain ⟨ad230, e230, hx230_0, hx230_1, hx230_2, hx230_3⟩ := at_TRecord (Kd.C_below HR1.out HB.out) x45_2 p230 q230
         cases e230
         replace p230 := eq_true p230
         replace q230 := eq_true q230
         go_wp2_with (first | ((with_reducible refine gate_dst (N := 9) rfl ?_); refine bE 9 #[.string (⟨#[]⟩ : ByteArray), .int .i64 0, .int .i64 0, .string (⟨#[]⟩ : ByteArray)] 100 ?_; intro gb231 hg w40 hbox hb; have BK231 := Aside0.mk (hbox); have GW231 := bG hg; have GE231 := bG hg; replace HB := BS hb; clear hb hbox hg; have hcz41 := cz4 BK231))
         repeat (go_quiet (first | ((with_reducible refine gate_dst (N := 9) rfl ?_); refine bE 9 #[.string (⟨#[]⟩ : ByteArray), .int .i64 0, .int .i64 0, .string (⟨#[]⟩ : ByteArray)] 100 ?_; intro gb231 hg w40 hbox hb; have BK231 := Aside0.mk (hbox); have GW231 := bG hg; have GE231 := bG hg; replace HB := BS hb; clear hb hbox hg; have hcz41 := cz4 BK231)); try go_wp2_with (first | ((with_reducible refine gate_dst (N := 9) rfl ?_); refine bE 9 #[.string (⟨#[]⟩ : ByteArray), .int .i64 0, .int .i64 0, .string (⟨#[]⟩ : ByteArray)] 100 ?_; intro gb231 hg w40 hbox hb; have BK231 := Aside0.mk (hbox); have GW231 := bG hg; have GE231 := bG hg; replace HB := BS hb; clear hb hbox hg; have hcz41 := cz4 BK231)))
         go_roundg k2
         case measure => have := HK1.out; have := HK2.out; omega
         case rel => exact ⟨(wrap64 (x45_2 + 1)), TF, H', ⟨by have := HK1.out; have := HK2.out; omega⟩, ⟨TB⟩⟩
       ·rw [if_neg c19] at H
        have c19b0 : decide (x45_2 < (l1.length : Int)) = false := decide_eq_false c19
        clear c19
        have H' := Aside0.mk H
        clear H
        go_wp2
        repeat (go_quiet (fail); try go_wp2)
        go_loopg [99] k2 (fun kq v99 w' => ∃ (x99_3 : Int), v99 = .int .i64 x99_3 ∧ Aside0 (spec_l6Rule.l2 kq a0 l1 l1 (l1.length : Int) x99_3 = some r) ∧ Aside0 (kq ≤ k2) ∧ Aside0 (Below w.heap.size w w'))
        case atStart => exact ⟨(0), TF, H', ⟨Nat.le_refl _⟩, ⟨TB⟩⟩
        case round =>
         clear H'
         try clear c1
         try clear c2
         try clear p2
         try clear q2
         try clear hx2
         try clear c3
         try clear c3b0
         try clear c4
         try clear c4b0
         try clear c5
         try clear c5b0
         try clear p6
         try clear c7
         try clear c8
         try clear c8b0
         try clear c8b1
         try clear c9
         try clear c9b0
         try clear c9b1
         try clear c14
         try clear c18
         try clear c18b0
         try clear c18b1
         try clear c19
         try clear c19b0
         try clear c20
         try clear c20b0
         try clear c21
         try clear c21b0
         try clear c22
         try clear c22b0
         try clear p22
         try clear q22
         try clear hx22
         try clear p23
         try clear q23
         try clear hx23
         try clear c24
         try clear c24b0
         try clear c25
         try clear c25b0
         try clear c26
         try clear c26b0
         try clear c26b1
         try clear c27
         try clear c27b0
         try clear c27b1
         try clear c28
         try clear c28b0
         try clear c28b1
         try clear c29
         try clear c29b0
         try clear c29b1
         try clear hcz11
         try clear hcz13
         try clear hcz15
         try clear hcz17
         try clear hcz31
         try clear hcz33
         try clear hcz35
         try clear hcz37
         try clear hcz39
         try clear hcz41
         try clear hfz11_0
         try clear hfz11_1
         try clear hfz11_2
         try clear hfz11_3
         try clear hfz13_0
         try clear hfz13_1
         try clear hfz13_2
         try clear hfz13_3
         try clear hfz15_0
         try clear hfz15_1
         try clear hfz15_2
         try clear hfz15_3
         try clear hfz17_0
         try clear hfz17_1
         try clear hfz17_2
         try clear hfz17_3
         try clear hfz31_0
         try clear hfz31_1
         try clear hfz31_2
         try clear hfz31_3
         try clear hfz33_0
         try clear hfz33_1
         try clear hfz33_2
         try clear hfz33_3
         try clear hfz35_0
         try clear hfz35_1
         try clear hfz35_2
         try clear hfz35_3
         try clear hfz37_0
         try clear hfz37_1
         try clear hfz37_2
         try clear hfz37_3
         try clear hfz39_0
         try clear hfz39_1
         try clear hfz39_2
         try clear hfz39_3
         try clear hfz41_0
         try clear hfz41_1
         try clear hfz41_2
         try clear hfz41_3
         try clear hx227_0
         try clear hx227_1
         try clear hx227_2
         try clear hx227_3
         try clear hx230_0
         try clear hx230_1
         try clear hx230_2
         try clear hx230_3
         try clear hx232_0
         try clear hx232_1
         try clear hx232_2
         try clear hx232_3
         try clear hx233_0
         try clear hx233_1
         try clear hx233_2
         try clear hx233_3
         try clear hx234_0
         try clear hx234_1
         try clear hx234_2
         try clear hx234_3
         try clear hx235_0
         try clear hx235_1
         try clear hx235_2
         try clear hx235_3
         try clear p2
         try clear p227
         try clear p230
         try clear p232
         try clear p233
         try clear p234
         try clear p235
         try clear p6
         try clear q2
         try clear q227
         try clear q230
         try clear q232
         try clear q233
         try clear q234
         try clear q235
         obtain ⟨x99_3, rfl, HA, HK3, HB⟩ := hrel
         cases gk with
         | zero => exact absurd HA.out (by simp [spec_l6Rule.l2])
         | succ k3 =>
          have H := HA.out
          clear HA
          simp only [spec_l6Rule.l2] at H
          by_cases c42 : x99_3 < (l1.length : Int)
          ·rw [if_pos c42] at H
           have c42b0 : decide (x99_3 < (l1.length : Int)) = true := decide_eq_true c42
           clear c42
           obtain ⟨c43, H⟩ := ifn H
           have c43b0 : decide (0 ≤ x99_3) = true := decide_eq_true c43
           clear c43
           obtain ⟨c44, H⟩ := ifn H
           have c44b0 : decide (x99_3 < (l1.length : Int)) = true := decide_eq_true c44
           clear c44
           have c45b0 := eq_true (TD : 0 ≤ x99_3)
           obtain ⟨c46, H⟩ := ifn H
           have c46b0 := eq_true c46
           have c46b1 : decide (x99_3 ≤ (l1.length : Int)) = true := decide_eq_true c46
           clear c46
           obtain ⟨y238, hy238⟩ : ∃ y_ : List (S_Record), y_ = (l1.take (x99_3 : Int).toNat) := ⟨_, rfl⟩
           replace H : (spec_l6Rule.l3 k3 a0 l1 l1 (l1.length : Int) x99_3 y238 (y238.length : Int) 0 ((rd_TRecord l1 x99_3).f0) ((rd_TRecord l1 x99_3).f1) ((rd_TRecord l1 x99_3).f2) ((rd_TRecord l1 x99_3).f3)) = some r := by first | (rw [hy238]; with_reducible exact H) | (have H2_ := (Option.bind_some _ _).symm.trans H; rw [hy238]; with_reducible exact H2_) | (have H2_ := (Option.bind_some _ _).symm.trans H; with_reducible exact H2_) | with_reducible exact H | (rw [hy238]; exact H) | exact H
           have Ny238 := Aside0.mk hy238
           clear hy238
           have H' := Aside0.mk H
           clear H
           have p236 : 0 ≤ (x99_3 : Int) := TD
           have q236 : x99_3 < (l1.length : Int) := TD
           obtain ⟨ad236, e236, hx236_0, hx236_1, hx236_2, hx236_3⟩ := at_TRecord (Kd.C_below HR1.out HB.out) x99_3 p236 q236
           cases e236
           replace p236 := eq_true p236
           replace q236 := eq_true q236
           go_wp2_with (first | ((with_reducible refine gate_dst (N := 11) rfl ?_); refine bE 11 #[.string (⟨#[]⟩ : ByteArray), .int .i64 0, .int .i64 0, .string (⟨#[]⟩ : ByteArray)] 100 ?_; intro gb237 hg w47 hbox hb; have BK237 := Aside0.mk (hbox); have GE237 := bG hg; replace HB := BS hb; clear hb hbox hg; have hcz48 := cz4 BK237) | ((with_reducible refine gate_store (t := 100) (p := 11) rfl ?_); (try (rw [drewN_self w47]; generalize hq_ : World.drewN w47 _ = w47; have n0_ := Aside0.mk (blk_at hq_ BK237.out); have n1_ := Aside0.mk (below_at hq_ HB.out); clear hq_ BK237 HB; have BK237 := n0_; have HB := n1_; clear n0_ n1_)); refine store_event (t := 100) (p := 11) (v := ?vo_w49) (w1 := ((((w47.setCell ⟨gb237, 0, none⟩ (.string ((rd_TRecord l1 x99_3).f0))).setCell ⟨gb237, 1, none⟩ (.int .i64 ((rd_TRecord l1 x99_3).f1))).setCell ⟨gb237, 2, none⟩ (.int .i64 ((rd_TRecord l1 x99_3).f2))).setCell ⟨gb237, 3, none⟩ (.string ((rd_TRecord l1 x99_3).f3)))) ?hg ?ho ?hn ?hr ?_; (case ho => rfl); (case hg => rfl); (case hn => rfl); (case hr => first | (go_simp; done) | (go_simp; rfl)); intro w49 hw; have n0_ : Aside0 (w49.heap[gb237]? = some (.cells #[.string ((rd_TRecord l1 x99_3).f0), .int .i64 ((rd_TRecord l1 x99_3).f1), .int .i64 ((rd_TRecord l1 x99_3).f2), .string ((rd_TRecord l1 x99_3).f3)] 100 (0, 0))) := ⟨(by rw [hw]; exact (by (with_reducible repeat (first | refine blk_drewN ?_ _ | refine blk_drew ?_ | refine blk_alloc ?_ _)); refine blk_put (cs := #[.string ((rd_TRecord l1 x99_3).f0), .int .i64 ((rd_TRecord l1 x99_3).f1), .int .i64 ((rd_TRecord l1 x99_3).f2), .string (⟨#[]⟩ : ByteArray)]) ?_ 3 _ rfl; (with_reducible repeat (first | refine blk_drewN ?_ _ | refine blk_drew ?_ | refine blk_alloc ?_ _)); refine blk_put (cs := #[.string ((rd_TRecord l1 x99_3).f0), .int .i64 ((rd_TRecord l1 x99_3).f1), .int .i64 0, .string (⟨#[]⟩ : ByteArray)]) ?_ 2 _ rfl; (with_reducible repeat (first | refine blk_drewN ?_ _ | refine blk_drew ?_ | refine blk_alloc ?_ _)); refine blk_put (cs := #[.string ((rd_TRecord l1 x99_3).f0), .int .i64 0, .int .i64 0, .string (⟨#[]⟩ : ByteArray)]) ?_ 1 _ rfl; (with_reducible repeat (first | refine blk_drewN ?_ _ | refine blk_drew ?_ | refine blk_alloc ?_ _)); refine blk_put (cs := #[.string (⟨#[]⟩ : ByteArray), .int .i64 0, .int .i64 0, .string (⟨#[]⟩ : ByteArray)]) ?_ 0 _ rfl; (with_reducible repeat (first | refine blk_drewN ?_ _ | refine blk_drew ?_ | refine blk_alloc ?_ _)); exact BK237.out))⟩; have n1_ : Aside0 (Below w.heap.size w w49) := ⟨(by rw [hw]; exact TB)⟩; clear hw; clear BK237; clear HB; have BK237 := n0_; have HB := n1_; clear n0_ n1_; have q50 : (x99_3 : Int) ≤ ((l1.length : Int) : Int) := TD; obtain ⟨i050, hi050, _, hsz50, _⟩ := info_parts info100; have hroom50 : l1.length ≤ c1 := HC1.out; have hC50 : Kd.C k_Record _ (some ad236) l1.length l1 := HR1.out; have hcut50 := cut_to (P := Tryz.prog) 28 100 .i64 Tryz.underlying28 hi050 (some ad236) l1.length c1 x99_3 TD q50 hroom50; have hr50 := Kd.C_take (m := (x99_3 : Int).toNat) hC50 (by omega); have hy50 : y238.length = (x99_3 : Int).toNat := (by rw [Ny238.out, List.length_take]; omega); rw [← Ny238.out] at hr50; rw [← hy50] at hcut50; have HR241 := Aside0.mk hr50; have HC241 := Aside0.mk (show y238.length ≤ c1 from by omega); clear hr50 hC50 hroom50 hi050 hsz50; have KY50 := Aside0.mk hy50; clear hy50; replace q50 := eq_true q50))
           repeat (go_quiet (first | ((with_reducible refine gate_dst (N := 11) rfl ?_); refine bE 11 #[.string (⟨#[]⟩ : ByteArray), .int .i64 0, .int .i64 0, .string (⟨#[]⟩ : ByteArray)] 100 ?_; intro gb237 hg w47 hbox hb; have BK237 := Aside0.mk (hbox); have GE237 := bG hg; replace HB := BS hb; clear hb hbox hg; have hcz48 := cz4 BK237) | ((with_reducible refine gate_store (t := 100) (p := 11) rfl ?_); (try (rw [drewN_self w47]; generalize hq_ : World.drewN w47 _ = w47; have n0_ := Aside0.mk (blk_at hq_ BK237.out); have n1_ := Aside0.mk (below_at hq_ HB.out); clear hq_ BK237 HB; have BK237 := n0_; have HB := n1_; clear n0_ n1_)); refine store_event (t := 100) (p := 11) (v := ?vo_w49) (w1 := ((((w47.setCell ⟨gb237, 0, none⟩ (.string ((rd_TRecord l1 x99_3).f0))).setCell ⟨gb237, 1, none⟩ (.int .i64 ((rd_TRecord l1 x99_3).f1))).setCell ⟨gb237, 2, none⟩ (.int .i64 ((rd_TRecord l1 x99_3).f2))).setCell ⟨gb237, 3, none⟩ (.string ((rd_TRecord l1 x99_3).f3)))) ?hg ?ho ?hn ?hr ?_; (case ho => rfl); (case hg => rfl); (case hn => rfl); (case hr => first | (go_simp; done) | (go_simp; rfl)); intro w49 hw; have n0_ : Aside0 (w49.heap[gb237]? = some (.cells #[.string ((rd_TRecord l1 x99_3).f0), .int .i64 ((rd_TRecord l1 x99_3).f1), .int .i64 ((rd_TRecord l1 x99_3).f2), .string ((rd_TRecord l1 x99_3).f3)] 100 (0, 0))) := ⟨(by rw [hw]; exact (by (with_reducible repeat (first | refine blk_drewN ?_ _ | refine blk_drew ?_ | refine blk_alloc ?_ _)); refine blk_put (cs := #[.string ((rd_TRecord l1 x99_3).f0), .int .i64 ((rd_TRecord l1 x99_3).f1), .int .i64 ((rd_TRecord l1 x99_3).f2), .string (⟨#[]⟩ : ByteArray)]) ?_ 3 _ rfl; (with_reducible repeat (first | refine blk_drewN ?_ _ | refine blk_drew ?_ | refine blk_alloc ?_ _)); refine blk_put (cs := #[.string ((rd_TRecord l1 x99_3).f0), .int .i64 ((rd_TRecord l1 x99_3).f1), .int .i64 0, .string (⟨#[]⟩ : ByteArray)]) ?_ 2 _ rfl; (with_reducible repeat (first | refine blk_drewN ?_ _ | refine blk_drew ?_ | refine blk_alloc ?_ _)); refine blk_put (cs := #[.string ((rd_TRecord l1 x99_3).f0), .int .i64 0, .int .i64 0, .string (⟨#[]⟩ : ByteArray)]) ?_ 1 _ rfl; (with_reducible repeat (first | refine blk_drewN ?_ _ | refine blk_drew ?_ | refine blk_alloc ?_ _)); refine blk_put (cs := #[.string (⟨#[]⟩ : ByteArray), .int .i64 0, .int .i64 0, .string (⟨#[]⟩ : ByteArray)]) ?_ 0 _ rfl; (with_reducible repeat (first | refine blk_drewN ?_ _ | refine blk_drew ?_ | refine blk_alloc ?_ _)); exact BK237.out))⟩; have n1_ : Aside0 (Below w.heap.size w w49) := ⟨(by rw [hw]; exact TB)⟩; clear hw; clear BK237; clear HB; have BK237 := n0_; have HB := n1_; clear n0_ n1_; have q50 : (x99_3 : Int) ≤ ((l1.length : Int) : Int) := TD; obtain ⟨i050, hi050, _, hsz50, _⟩ := info_parts info100; have hroom50 : l1.length ≤ c1 := HC1.out; have hC50 : Kd.C k_Record _ (some ad236) l1.length l1 := HR1.out; have hcut50 := cut_to (P := Tryz.prog) 28 100 .i64 Tryz.underlying28 hi050 (some ad236) l1.length c1 x99_3 TD q50 hroom50; have hr50 := Kd.C_take (m := (x99_3 : Int).toNat) hC50 (by omega); have hy50 : y238.length = (x99_3 : Int).toNat := (by rw [Ny238.out, List.length_take]; omega); rw [← Ny238.out] at hr50; rw [← hy50] at hcut50; have HR241 := Aside0.mk hr50; have HC241 := Aside0.mk (show y238.length ≤ c1 from by omega); clear hr50 hC50 hroom50 hi050 hsz50; have KY50 := Aside0.mk hy50; clear hy50; replace q50 := eq_true q50)); try go_wp2_with (first | ((with_reducible refine gate_dst (N := 11) rfl ?_); refine bE 11 #[.string (⟨#[]⟩ : ByteArray), .int .i64 0, .int .i64 0, .string (⟨#[]⟩ : ByteArray)] 100 ?_; intro gb237 hg w47 hbox hb; have BK237 := Aside0.mk (hbox); have GE237 := bG hg; replace HB := BS hb; clear hb hbox hg; have hcz48 := cz4 BK237) | ((with_reducible refine gate_store (t := 100) (p := 11) rfl ?_); (try (rw [drewN_self w47]; generalize hq_ : World.drewN w47 _ = w47; have n0_ := Aside0.mk (blk_at hq_ BK237.out); have n1_ := Aside0.mk (below_at hq_ HB.out); clear hq_ BK237 HB; have BK237 := n0_; have HB := n1_; clear n0_ n1_)); refine store_event (t := 100) (p := 11) (v := ?vo_w49) (w1 := ((((w47.setCell ⟨gb237, 0, none⟩ (.string ((rd_TRecord l1 x99_3).f0))).setCell ⟨gb237, 1, none⟩ (.int .i64 ((rd_TRecord l1 x99_3).f1))).setCell ⟨gb237, 2, none⟩ (.int .i64 ((rd_TRecord l1 x99_3).f2))).setCell ⟨gb237, 3, none⟩ (.string ((rd_TRecord l1 x99_3).f3)))) ?hg ?ho ?hn ?hr ?_; (case ho => rfl); (case hg => rfl); (case hn => rfl); (case hr => first | (go_simp; done) | (go_simp; rfl)); intro w49 hw; have n0_ : Aside0 (w49.heap[gb237]? = some (.cells #[.string ((rd_TRecord l1 x99_3).f0), .int .i64 ((rd_TRecord l1 x99_3).f1), .int .i64 ((rd_TRecord l1 x99_3).f2), .string ((rd_TRecord l1 x99_3).f3)] 100 (0, 0))) := ⟨(by rw [hw]; exact (by (with_reducible repeat (first | refine blk_drewN ?_ _ | refine blk_drew ?_ | refine blk_alloc ?_ _)); refine blk_put (cs := #[.string ((rd_TRecord l1 x99_3).f0), .int .i64 ((rd_TRecord l1 x99_3).f1), .int .i64 ((rd_TRecord l1 x99_3).f2), .string (⟨#[]⟩ : ByteArray)]) ?_ 3 _ rfl; (with_reducible repeat (first | refine blk_drewN ?_ _ | refine blk_drew ?_ | refine blk_alloc ?_ _)); refine blk_put (cs := #[.string ((rd_TRecord l1 x99_3).f0), .int .i64 ((rd_TRecord l1 x99_3).f1), .int .i64 0, .string (⟨#[]⟩ : ByteArray)]) ?_ 2 _ rfl; (with_reducible repeat (first | refine blk_drewN ?_ _ | refine blk_drew ?_ | refine blk_alloc ?_ _)); refine blk_put (cs := #[.string ((rd_TRecord l1 x99_3).f0), .int .i64 0, .int .i64 0, .string (⟨#[]⟩ : ByteArray)]) ?_ 1 _ rfl; (with_reducible repeat (first | refine blk_drewN ?_ _ | refine blk_drew ?_ | refine blk_alloc ?_ _)); refine blk_put (cs := #[.string (⟨#[]⟩ : ByteArray), .int .i64 0, .int .i64 0, .string (⟨#[]⟩ : ByteArray)]) ?_ 0 _ rfl; (with_reducible repeat (first | refine blk_drewN ?_ _ | refine blk_drew ?_ | refine blk_alloc ?_ _)); exact BK237.out))⟩; have n1_ : Aside0 (Below w.heap.size w w49) := ⟨(by rw [hw]; exact TB)⟩; clear hw; clear BK237; clear HB; have BK237 := n0_; have HB := n1_; clear n0_ n1_; have q50 : (x99_3 : Int) ≤ ((l1.length : Int) : Int) := TD; obtain ⟨i050, hi050, _, hsz50, _⟩ := info_parts info100; have hroom50 : l1.length ≤ c1 := HC1.out; have hC50 : Kd.C k_Record _ (some ad236) l1.length l1 := HR1.out; have hcut50 := cut_to (P := Tryz.prog) 28 100 .i64 Tryz.underlying28 hi050 (some ad236) l1.length c1 x99_3 TD q50 hroom50; have hr50 := Kd.C_take (m := (x99_3 : Int).toNat) hC50 (by omega); have hy50 : y238.length = (x99_3 : Int).toNat := (by rw [Ny238.out, List.length_take]; omega); rw [← Ny238.out] at hr50; rw [← hy50] at hcut50; have HR241 := Aside0.mk hr50; have HC241 := Aside0.mk (show y238.length ≤ c1 from by omega); clear hr50 hC50 hroom50 hi050 hsz50; have KY50 := Aside0.mk hy50; clear hy50; replace q50 := eq_true q50)))
           go_loopg [108] k3 (fun kq v108 w' => ∃ (x108_4 : Int), v108 = .int .i64 x108_4 ∧ Aside0 (spec_l6Rule.l3 kq a0 l1 l1 (l1.length : Int) x99_3 y238 (y238.length : Int) x108_4 ((rd_TRecord l1 x99_3).f0) ((rd_TRecord l1 x99_3).f1) ((rd_TRecord l1 x99_3).f2) ((rd_TRecord l1 x99_3).f3) = some r) ∧ Aside0 (kq ≤ k3) ∧ Aside0 (w'.heap[gb237]? = some (.cells #[.string ((rd_TRecord l1 x99_3).f0), .int .i64 ((rd_TRecord l1 x99_3).f1), .int .i64 ((rd_TRecord l1 x99_3).f2), .string ((rd_TRecord l1 x99_3).f3)] 100 (0, 0))) ∧ Aside0 (Below w.heap.size w w'))
           case atStart => exact ⟨(0), TF, H', ⟨Nat.le_refl _⟩, KW BK237, ⟨TB⟩⟩
           case round =>
            clear H'
            try clear c1
            try clear c2
            try clear p2
            try clear q2
            try clear hx2
            try clear c3
            try clear c3b0
            try clear c4
            try clear c4b0
            try clear c5
            try clear c5b0
            try clear q5
            try clear p6
            try clear c7
            try clear c8
            try clear c8b0
            try clear c8b1
            try clear c9
            try clear c9b0
            try clear c9b1
            try clear c14
            try clear c18
            try clear c18b0
            try clear c18b1
            try clear c19
            try clear c19b0
            try clear c20
            try clear c20b0
            try clear c21
            try clear c21b0
            try clear c22
            try clear c22b0
            try clear p22
            try clear q22
            try clear hx22
            try clear p23
            try clear q23
            try clear hx23
            try clear c24
            try clear c24b0
            try clear c25
            try clear c25b0
            try clear c26
            try clear c26b0
            try clear c26b1
            try clear c27
            try clear c27b0
            try clear c27b1
            try clear c28
            try clear c28b0
            try clear c28b1
            try clear c29
            try clear c29b0
            try clear c29b1
            try clear c42
            try clear c42b0
            try clear c43
            try clear c43b0
            try clear c44
            try clear c44b0
            try clear c45
            try clear c45b0
            try clear c46
            try clear c46b0
            try clear c46b1
            try clear q50
            try clear hcz11
            try clear hcz13
            try clear hcz15
            try clear hcz17
            try clear hcz31
            try clear hcz33
            try clear hcz35
            try clear hcz37
            try clear hcz39
            try clear hcz41
            try clear hcz48
            try clear hfz11_0
            try clear hfz11_1
            try clear hfz11_2
            try clear hfz11_3
            try clear hfz13_0
            try clear hfz13_1
            try clear hfz13_2
            try clear hfz13_3
            try clear hfz15_0
            try clear hfz15_1
            try clear hfz15_2
            try clear hfz15_3
            try clear hfz17_0
            try clear hfz17_1
            try clear hfz17_2
            try clear hfz17_3
            try clear hfz31_0
            try clear hfz31_1
            try clear hfz31_2
            try clear hfz31_3
            try clear hfz33_0
            try clear hfz33_1
            try clear hfz33_2
            try clear hfz33_3
            try clear hfz35_0
            try clear hfz35_1
            try clear hfz35_2
            try clear hfz35_3
            try clear hfz37_0
            try clear hfz37_1
            try clear hfz37_2
            try clear hfz37_3
            try clear hfz39_0
            try clear hfz39_1
            try clear hfz39_2
            try clear hfz39_3
            try clear hfz41_0
            try clear hfz41_1
            try clear hfz41_2
            try clear hfz41_3
            try clear hfz48_0
            try clear hfz48_1
            try clear hfz48_2
            try clear hfz48_3
            try clear hx227_0
            try clear hx227_1
            try clear hx227_2
            try clear hx227_3
            try clear hx230_0
            try clear hx230_1
            try clear hx230_2
            try clear hx230_3
            try clear hx232_0
            try clear hx232_1
            try clear hx232_2
            try clear hx232_3
            try clear hx233_0
            try clear hx233_1
            try clear hx233_2
            try clear hx233_3
            try clear hx234_0
            try clear hx234_1
            try clear hx234_2
            try clear hx234_3
            try clear hx235_0
            try clear hx235_1
            try clear hx235_2
            try clear hx235_3
            try clear hx236_0
            try clear hx236_1
            try clear hx236_2
            try clear hx236_3
            try clear p2
            try clear p22
            try clear p227
            try clear p23
            try clear p230
            try clear p232
            try clear p233
            try clear p234
            try clear p235
            try clear p236
            try clear p6
            try clear q2
            try clear q22
            try clear q227
            try clear q23
            try clear q230
            try clear q232
            try clear q233
            try clear q234
            try clear q235
            try clear q236
            try clear q50
            obtain ⟨x108_4, rfl, HA, HK4, BK237, HB⟩ := hrel
            cases gk with
            | zero => exact absurd HA.out (by simp [spec_l6Rule.l3])
            | succ k4 =>
             have H := HA.out
             clear HA
             simp only [spec_l6Rule.l3] at H
             by_cases c51 : x108_4 < (y238.length : Int)
             ·rw [if_pos c51] at H
              have c51b0 : decide (x108_4 < (y238.length : Int)) = true := decide_eq_true c51
              clear c51
              obtain ⟨c52, H⟩ := ifn H
              have c52b0 : decide (0 ≤ x108_4) = true := decide_eq_true c52
              clear c52
              obtain ⟨c53, H⟩ := ifn H
              have c53b0 : decide (x108_4 < (y238.length : Int)) = true := decide_eq_true c53
              clear c53
              by_cases c54 : ((rd_TRecord y238 x108_4).f0).toList = ((rd_TRecord l1 x99_3).f0).toList
              ·rw [if_pos c54] at H
               have c54b0 : (((rd_TRecord y238 x108_4).f0).toList == ((rd_TRecord l1 x99_3).f0).toList) = true := beq_iff_eq.mpr c54
               have c54b1 : (((rd_TRecord y238 x108_4).f0).toList != ((rd_TRecord l1 x99_3).f0).toList) = false := bne_eq_false_iff_eq.mpr c54
               clear c54
               by_cases c55 : ((rd_TRecord y238 x108_4).f1) = 5
               ·rw [if_pos c55] at H
                have c55b0 : (((rd_TRecord y238 x108_4).f1) == 5) = true := beq_iff_eq.mpr c55
                have c55b1 : (((rd_TRecord y238 x108_4).f1) != 5) = false := bne_eq_false_iff_eq.mpr c55
                clear c55
                obtain rfl := Option.some.inj H
                have p242 : 0 ≤ (x108_4 : Int) := TD
                have q242 : x108_4 < (y238.length : Int) := TD
                obtain ⟨ad242, e242, hx242_0, hx242_1, hx242_2, hx242_3⟩ := at_TRecord (Kd.C_below HR241.out HB.out) x108_4 p242 q242
                obtain rfl : ad236 = ad242 := (by injection e242)
                replace p242 := eq_true p242
                replace q242 := eq_true q242
                go_wp2_with (first | ((with_reducible refine gate_dst (N := 13) rfl ?_); refine bE 13 #[.string (⟨#[]⟩ : ByteArray), .int .i64 0, .int .i64 0, .string (⟨#[]⟩ : ByteArray)] 100 ?_; intro gb243 hg w56 hbox hb; have BK243 := Aside0.mk (hbox); have GE243 := bG hg; replace HB := BS hb; have NB237_243 := bN BK237 hg; have NB243_237 := bM BK237 hg; replace BK237 := KB BK237 hb; clear hb hbox hg; have hnb57 := NB243_237.out; have hnc57 := NB237_243.out; have hcz58 := cz4 BK243; have hcz59 := cz4 BK237))
                repeat (go_quiet (first | ((with_reducible refine gate_dst (N := 13) rfl ?_); refine bE 13 #[.string (⟨#[]⟩ : ByteArray), .int .i64 0, .int .i64 0, .string (⟨#[]⟩ : ByteArray)] 100 ?_; intro gb243 hg w56 hbox hb; have BK243 := Aside0.mk (hbox); have GE243 := bG hg; replace HB := BS hb; have NB237_243 := bN BK237 hg; have NB243_237 := bM BK237 hg; replace BK237 := KB BK237 hb; clear hb hbox hg; have hnb57 := NB243_237.out; have hnc57 := NB237_243.out; have hcz58 := cz4 BK243; have hcz59 := cz4 BK237)); try go_wp2_with (first | ((with_reducible refine gate_dst (N := 13) rfl ?_); refine bE 13 #[.string (⟨#[]⟩ : ByteArray), .int .i64 0, .int .i64 0, .string (⟨#[]⟩ : ByteArray)] 100 ?_; intro gb243 hg w56 hbox hb; have BK243 := Aside0.mk (hbox); have GE243 := bG hg; replace HB := BS hb; have NB237_243 := bN BK237 hg; have NB243_237 := bM BK237 hg; replace BK237 := KB BK237 hb; clear hb hbox hg; have hnb57 := NB243_237.out; have hnc57 := NB237_243.out; have hcz58 := cz4 BK243; have hcz59 := cz4 BK237)))
                go_ret
                exact ⟨TE, TB⟩
               ·rw [if_neg c55] at H
                have c55b0 : (((rd_TRecord y238 x108_4).f1) == 5) = false := beq_eq_false_iff_ne.mpr c55
                have c55b1 : (((rd_TRecord y238 x108_4).f1) != 5) = true := bne_iff_ne.mpr c55
                by_cases c60 : ((rd_TRecord l1 x99_3).f1) = 5
                ·rw [if_pos c60] at H
                 have c60b0 : (((rd_TRecord l1 x99_3).f1) == 5) = true := beq_iff_eq.mpr c60
                 have c60b1 : (((rd_TRecord l1 x99_3).f1) != 5) = false := bne_eq_false_iff_eq.mpr c60
                 clear c60
                 obtain rfl := Option.some.inj H
                 have p242 : 0 ≤ (x108_4 : Int) := TD
                 have q242 : x108_4 < (y238.length : Int) := TD
                 obtain ⟨ad242, e242, hx242_0, hx242_1, hx242_2, hx242_3⟩ := at_TRecord (Kd.C_below HR241.out HB.out) x108_4 p242 q242
                 obtain rfl : ad236 = ad242 := (by injection e242)
                 replace p242 := eq_true p242
                 replace q242 := eq_true q242
                 go_wp2_with (first | ((with_reducible refine gate_dst (N := 13) rfl ?_); refine bE 13 #[.string (⟨#[]⟩ : ByteArray), .int .i64 0, .int .i64 0, .string (⟨#[]⟩ : ByteArray)] 100 ?_; intro gb243 hg w61 hbox hb; have BK243 := Aside0.mk (hbox); have GE243 := bG hg; replace HB := BS hb; have NB237_243 := bN BK237 hg; have NB243_237 := bM BK237 hg; replace BK237 := KB BK237 hb; clear hb hbox hg; have hnb62 := NB243_237.out; have hnc62 := NB237_243.out; have hcz63 := cz4 BK243; have hcz64 := cz4 BK237))
                 repeat (go_quiet (first | ((with_reducible refine gate_dst (N := 13) rfl ?_); refine bE 13 #[.string (⟨#[]⟩ : ByteArray), .int .i64 0, .int .i64 0, .string (⟨#[]⟩ : ByteArray)] 100 ?_; intro gb243 hg w61 hbox hb; have BK243 := Aside0.mk (hbox); have GE243 := bG hg; replace HB := BS hb; have NB237_243 := bN BK237 hg; have NB243_237 := bM BK237 hg; replace BK237 := KB BK237 hb; clear hb hbox hg; have hnb62 := NB243_237.out; have hnc62 := NB237_243.out; have hcz63 := cz4 BK243; have hcz64 := cz4 BK237)); try go_wp2_with (first | ((with_reducible refine gate_dst (N := 13) rfl ?_); refine bE 13 #[.string (⟨#[]⟩ : ByteArray), .int .i64 0, .int .i64 0, .string (⟨#[]⟩ : ByteArray)] 100 ?_; intro gb243 hg w61 hbox hb; have BK243 := Aside0.mk (hbox); have GE243 := bG hg; replace HB := BS hb; have NB237_243 := bN BK237 hg; have NB243_237 := bM BK237 hg; replace BK237 := KB BK237 hb; clear hb hbox hg; have hnb62 := NB243_237.out; have hnc62 := NB237_243.out; have hcz63 := cz4 BK243; have hcz64 := cz4 BK237)))
                 go_ret
                 exact ⟨TE, TB⟩
                ·rw [if_neg c60] at H
                 have c60b0 : (((rd_TRecord l1 x99_3).f1) == 5) = false := beq_eq_false_iff_ne.mpr c60
                 have c60b1 : (((rd_TRecord l1 x99_3).f1) != 5) = true := bne_iff_ne.mpr c60
                 have H' := Aside0.mk H
                 clear H
                 have p242 : 0 ≤ (x108_4 : Int) := TD
                 have q242 : x108_4 < (y238.length : Int) := TD
                 obtain ⟨ad242, e242, hx242_0, hx242_1, hx242_2, hx242_3⟩ := at_TRecord (Kd.C_below HR241.out HB.out) x108_4 p242 q242
                 obtain rfl : ad236 = ad242 := (by injection e242)
                 replace p242 := eq_true p242
                 replace q242 := eq_true q242
                 go_wp2_with (first | ((with_reducible refine gate_dst (N := 13) rfl ?_); refine bE 13 #[.string (⟨#[]⟩ : ByteArray), .int .i64 0, .int .i64 0, .string (⟨#[]⟩ : ByteArray)] 100 ?_; intro gb243 hg w65 hbox hb; have BK243 := Aside0.mk (hbox); have GE243 := bG hg; replace HB := BS hb; have NB237_243 := bN BK237 hg; have NB243_237 := bM BK237 hg; replace BK237 := KB BK237 hb; clear hb hbox hg; have hnb66 := NB243_237.out; have hnc66 := NB237_243.out; have hcz67 := cz4 BK243; have hcz68 := cz4 BK237))
                 repeat (go_quiet (first | ((with_reducible refine gate_dst (N := 13) rfl ?_); refine bE 13 #[.string (⟨#[]⟩ : ByteArray), .int .i64 0, .int .i64 0, .string (⟨#[]⟩ : ByteArray)] 100 ?_; intro gb243 hg w65 hbox hb; have BK243 := Aside0.mk (hbox); have GE243 := bG hg; replace HB := BS hb; have NB237_243 := bN BK237 hg; have NB243_237 := bM BK237 hg; replace BK237 := KB BK237 hb; clear hb hbox hg; have hnb66 := NB243_237.out; have hnc66 := NB237_243.out; have hcz67 := cz4 BK243; have hcz68 := cz4 BK237)); try go_wp2_with (first | ((with_reducible refine gate_dst (N := 13) rfl ?_); refine bE 13 #[.string (⟨#[]⟩ : ByteArray), .int .i64 0, .int .i64 0, .string (⟨#[]⟩ : ByteArray)] 100 ?_; intro gb243 hg w65 hbox hb; have BK243 := Aside0.mk (hbox); have GE243 := bG hg; replace HB := BS hb; have NB237_243 := bN BK237 hg; have NB243_237 := bM BK237 hg; replace BK237 := KB BK237 hb; clear hb hbox hg; have hnb66 := NB243_237.out; have hnc66 := NB237_243.out; have hcz67 := cz4 BK243; have hcz68 := cz4 BK237)))
                 go_roundg k4
                 case measure => have := HK1.out; have := HK2.out; have := HK3.out; have := HK4.out; omega
                 case rel => exact ⟨(wrap64 (x108_4 + 1)), TF, H', ⟨by have := HK1.out; have := HK2.out; have := HK3.out; have := HK4.out; omega⟩, ⟨TS⟩, ⟨TB⟩⟩
              ·rw [if_neg c54] at H
               have c54b0 : (((rd_TRecord y238 x108_4).f0).toList == ((rd_TRecord l1 x99_3).f0).toList) = false := beq_eq_false_iff_ne.mpr c54
               have c54b1 : (((rd_TRecord y238 x108_4).f0).toList != ((rd_TRecord l1 x99_3).f0).toList) = true := bne_iff_ne.mpr c54
               have H' := Aside0.mk H
               clear H
               have p242 : 0 ≤ (x108_4 : Int) := TD
               have q242 : x108_4 < (y238.length : Int) := TD
               obtain ⟨ad242, e242, hx242_0, hx242_1, hx242_2, hx242_3⟩ := at_TRecord (Kd.C_below HR241.out HB.out) x108_4 p242 q242
               obtain rfl : ad236 = ad242 := (by injection e242)
               replace p242 := eq_true p242
               replace q242 := eq_true q242
               go_wp2_with (first | ((with_reducible refine gate_dst (N := 13) rfl ?_); refine bE 13 #[.string (⟨#[]⟩ : ByteArray), .int .i64 0, .int .i64 0, .string (⟨#[]⟩ : ByteArray)] 100 ?_; intro gb243 hg w69 hbox hb; have BK243 := Aside0.mk (hbox); have GE243 := bG hg; replace HB := BS hb; have NB237_243 := bN BK237 hg; have NB243_237 := bM BK237 hg; replace BK237 := KB BK237 hb; clear hb hbox hg; have hnb70 := NB243_237.out; have hnc70 := NB237_243.out; have hcz71 := cz4 BK243; have hcz72 := cz4 BK237))
               repeat (go_quiet (first | ((with_reducible refine gate_dst (N := 13) rfl ?_); refine bE 13 #[.string (⟨#[]⟩ : ByteArray), .int .i64 0, .int .i64 0, .string (⟨#[]⟩ : ByteArray)] 100 ?_; intro gb243 hg w69 hbox hb; have BK243 := Aside0.mk (hbox); have GE243 := bG hg; replace HB := BS hb; have NB237_243 := bN BK237 hg; have NB243_237 := bM BK237 hg; replace BK237 := KB BK237 hb; clear hb hbox hg; have hnb70 := NB243_237.out; have hnc70 := NB237_243.out; have hcz71 := cz4 BK243; have hcz72 := cz4 BK237)); try go_wp2_with (first | ((with_reducible refine gate_dst (N := 13) rfl ?_); refine bE 13 #[.string (⟨#[]⟩ : ByteArray), .int .i64 0, .int .i64 0, .string (⟨#[]⟩ : ByteArray)] 100 ?_; intro gb243 hg w69 hbox hb; have BK243 := Aside0.mk (hbox); have GE243 := bG hg; replace HB := BS hb; have NB237_243 := bN BK237 hg; have NB243_237 := bM BK237 hg; replace BK237 := KB BK237 hb; clear hb hbox hg; have hnb70 := NB243_237.out; have hnc70 := NB237_243.out; have hcz71 := cz4 BK243; have hcz72 := cz4 BK237)))
               go_roundg k4
               case measure => have := HK1.out; have := HK2.out; have := HK3.out; have := HK4.out; omega
               case rel => exact ⟨(wrap64 (x108_4 + 1)), TF, H', ⟨by have := HK1.out; have := HK2.out; have := HK3.out; have := HK4.out; omega⟩, ⟨TS⟩, ⟨TB⟩⟩
             ·rw [if_neg c51] at H
              have c51b0 : decide (x108_4 < (y238.length : Int)) = false := decide_eq_false c51
              clear c51
              have H' := Aside0.mk H
              clear H
              go_wp2
              repeat (go_quiet (fail); try go_wp2)
              go_roundg k4
              case measure => have := HK1.out; have := HK2.out; have := HK3.out; have := HK4.out; omega
              case rel => exact ⟨(wrap64 (x99_3 + 1)), TF, H', ⟨by have := HK1.out; have := HK2.out; have := HK3.out; have := HK4.out; omega⟩, ⟨TB⟩⟩
          ·rw [if_neg c42] at H
           have c42b0 : decide (x99_3 < (l1.length : Int)) = false := decide_eq_false c42
           clear c42
           obtain ⟨t244, A73, H⟩ := bnd H
           by_cases c74 : t244 = true
           ·subst c74
            replace H := ift H
            obtain rfl := Option.some.inj H
            go_wp2_with (first | (go_at_call 172; (with_reducible refine (spec_l6Has.calls k3 _ _ l1 a0 5 true _ ?side1 ?side2 A73.out).mono ?_); (case side1 => exact CW ((Kd.C_below HR1.out HB.out))); (case side2 => exact HC1.out); rintro e w75 ⟨rfl, hb⟩; replace HB := BS hb; (try clear hb); (try clear hb2); (try clear hk); (try clear hi)))
            repeat (go_quiet (first | (go_at_call 172; (with_reducible refine (spec_l6Has.calls k3 _ _ l1 a0 5 true _ ?side1 ?side2 A73.out).mono ?_); (case side1 => exact CW ((Kd.C_below HR1.out HB.out))); (case side2 => exact HC1.out); rintro e w75 ⟨rfl, hb⟩; replace HB := BS hb; (try clear hb); (try clear hb2); (try clear hk); (try clear hi))); try go_wp2_with (first | (go_at_call 172; (with_reducible refine (spec_l6Has.calls k3 _ _ l1 a0 5 true _ ?side1 ?side2 A73.out).mono ?_); (case side1 => exact CW ((Kd.C_below HR1.out HB.out))); (case side2 => exact HC1.out); rintro e w75 ⟨rfl, hb⟩; replace HB := BS hb; (try clear hb); (try clear hb2); (try clear hk); (try clear hi))))
            go_ret
            exact ⟨TE, TB⟩
           ·replace c74 := Bool.eq_false_iff.mpr c74
            subst c74
            replace H := iff' H
            have H' := Aside0.mk H
            clear H
            go_wp2_with (first | (go_at_call 172; (with_reducible refine (spec_l6Has.calls k3 _ _ l1 a0 5 false _ ?side1 ?side2 A73.out).mono ?_); (case side1 => exact CW ((Kd.C_below HR1.out HB.out))); (case side2 => exact HC1.out); rintro e w76 ⟨rfl, hb⟩; replace HB := BS hb; (try clear hb); (try clear hb2); (try clear hk); (try clear hi)))
            repeat (go_quiet (first | (go_at_call 172; (with_reducible refine (spec_l6Has.calls k3 _ _ l1 a0 5 false _ ?side1 ?side2 A73.out).mono ?_); (case side1 => exact CW ((Kd.C_below HR1.out HB.out))); (case side2 => exact HC1.out); rintro e w76 ⟨rfl, hb⟩; replace HB := BS hb; (try clear hb); (try clear hb2); (try clear hk); (try clear hi))); try go_wp2_with (first | (go_at_call 172; (with_reducible refine (spec_l6Has.calls k3 _ _ l1 a0 5 false _ ?side1 ?side2 A73.out).mono ?_); (case side1 => exact CW ((Kd.C_below HR1.out HB.out))); (case side2 => exact HC1.out); rintro e w76 ⟨rfl, hb⟩; replace HB := BS hb; (try clear hb); (try clear hb2); (try clear hk); (try clear hi))))
            go_loopg [134] k3 (fun kq v134 w' => ∃ (x134_4 : Int), v134 = .int .i64 x134_4 ∧ Aside0 (spec_l6Rule.l4 kq a0 l1 l1 (l1.length : Int) x134_4 = some r) ∧ Aside0 (kq ≤ k3) ∧ Aside0 (Below w.heap.size w w'))
            case atStart => exact ⟨(0), TF, H', ⟨Nat.le_refl _⟩, ⟨TB⟩⟩
            case round =>
             clear H'
             try clear c1
             try clear c2
             try clear p2
             try clear q2
             try clear hx2
             try clear c3
             try clear c3b0
             try clear c4
             try clear c4b0
             try clear c5
             try clear c5b0
             try clear q5
             try clear c6
             try clear p6
             try clear c7
             try clear c8
             try clear c8b0
             try clear c8b1
             try clear c9
             try clear c9b0
             try clear c9b1
             try clear c14
             try clear c18
             try clear c18b0
             try clear c18b1
             try clear c19
             try clear c19b0
             try clear c20
             try clear c20b0
             try clear c21
             try clear c21b0
             try clear c22
             try clear c22b0
             try clear p22
             try clear q22
             try clear hx22
             try clear p23
             try clear q23
             try clear hx23
             try clear c24
             try clear c24b0
             try clear p24
             try clear q24
             try clear hx24
             try clear c25
             try clear c25b0
             try clear c26
             try clear c26b0
             try clear c26b1
             try clear c27
             try clear c27b0
             try clear c27b1
             try clear c28
             try clear c28b0
             try clear c28b1
             try clear c29
             try clear c29b0
             try clear c29b1
             try clear c42
             try clear c42b0
             try clear c43
             try clear c43b0
             try clear c44
             try clear c44b0
             try clear c45
             try clear c45b0
             try clear c46
             try clear c46b0
             try clear c46b1
             try clear q50
             try clear c51
             try clear c51b0
             try clear c52
             try clear c52b0
             try clear c53
             try clear c53b0
             try clear c54
             try clear c54b0
             try clear c54b1
             try clear c55
             try clear c55b0
             try clear c55b1
             try clear c57
             try clear c60
             try clear c60b0
             try clear c60b1
             try clear c62
             try clear p64
             try clear c66
             try clear c70
             try clear c74
             try clear hcz11
             try clear hcz13
             try clear hcz15
             try clear hcz17
             try clear hcz31
             try clear hcz33
             try clear hcz35
             try clear hcz37
             try clear hcz39
             try clear hcz41
             try clear hcz48
             try clear hcz58
             try clear hcz59
             try clear hcz63
             try clear hcz64
             try clear hcz67
             try clear hcz68
             try clear hcz71
             try clear hcz72
             try clear hfz11_0
             try clear hfz11_1
             try clear hfz11_2
             try clear hfz11_3
             try clear hfz13_0
             try clear hfz13_1
             try clear hfz13_2
             try clear hfz13_3
             try clear hfz15_0
             try clear hfz15_1
             try clear hfz15_2
             try clear hfz15_3
             try clear hfz17_0
             try clear hfz17_1
             try clear hfz17_2
             try clear hfz17_3
             try clear hfz31_0
             try clear hfz31_1
             try clear hfz31_2
             try clear hfz31_3
             try clear hfz33_0
             try clear hfz33_1
             try clear hfz33_2
             try clear hfz33_3
             try clear hfz35_0
             try clear hfz35_1
             try clear hfz35_2
             try clear hfz35_3
             try clear hfz37_0
             try clear hfz37_1
             try clear hfz37_2
             try clear hfz37_3
             try clear hfz39_0
             try clear hfz39_1
             try clear hfz39_2
             try clear hfz39_3
             try clear hfz41_0
             try clear hfz41_1
             try clear hfz41_2
             try clear hfz41_3
             try clear hfz48_0
             try clear hfz48_1
             try clear hfz48_2
             try clear hfz48_3
             try clear hfz58_0
             try clear hfz58_1
             try clear hfz58_2
             try clear hfz58_3
             try clear hfz59_0
             try clear hfz59_1
             try clear hfz59_2
             try clear hfz59_3
             try clear hfz63_0
             try clear hfz63_1
             try clear hfz63_2
             try clear hfz63_3
             try clear hfz64_0
             try clear hfz64_1
             try clear hfz64_2
             try clear hfz64_3
             try clear hfz67_0
             try clear hfz67_1
             try clear hfz67_2
             try clear hfz67_3
             try clear hfz68_0
             try clear hfz68_1
             try clear hfz68_2
             try clear hfz68_3
             try clear hfz71_0
             try clear hfz71_1
             try clear hfz71_2
             try clear hfz71_3
             try clear hfz72_0
             try clear hfz72_1
             try clear hfz72_2
             try clear hfz72_3
             try clear hx227_0
             try clear hx227_1
             try clear hx227_2
             try clear hx227_3
             try clear hx230_0
             try clear hx230_1
             try clear hx230_2
             try clear hx230_3
             try clear hx232_0
             try clear hx232_1
             try clear hx232_2
             try clear hx232_3
             try clear hx233_0
             try clear hx233_1
             try clear hx233_2
             try clear hx233_3
             try clear hx234_0
             try clear hx234_1
             try clear hx234_2
             try clear hx234_3
             try clear hx235_0
             try clear hx235_1
             try clear hx235_2
             try clear hx235_3
             try clear hx236_0
             try clear hx236_1
             try clear hx236_2
             try clear hx236_3
             try clear hx242_0
             try clear hx242_1
             try clear hx242_2
             try clear hx242_3
             try clear p2
             try clear p22
             try clear p227
             try clear p23
             try clear p230
             try clear p232
             try clear p233
             try clear p234
             try clear p235
             try clear p236
             try clear p242
             try clear p6
             try clear q2
             try clear q22
             try clear q227
             try clear q23
             try clear q230
             try clear q232
             try clear q233
             try clear q234
             try clear q235
             try clear q236
             try clear q242
             try clear q5
             try clear q50
             obtain ⟨x134_4, rfl, HA, HK4, HB⟩ := hrel
             cases gk with
             | zero => exact absurd HA.out (by simp [spec_l6Rule.l4])
             | succ k4 =>
              have H := HA.out
              clear HA
              simp only [spec_l6Rule.l4] at H
              by_cases c77 : x134_4 < (l1.length : Int)
              ·rw [if_pos c77] at H
               have c77b0 : decide (x134_4 < (l1.length : Int)) = true := decide_eq_true c77
               clear c77
               obtain ⟨c78, H⟩ := ifn H
               have c78b0 : decide (0 ≤ x134_4) = true := decide_eq_true c78
               clear c78
               obtain ⟨c79, H⟩ := ifn H
               have c79b0 : decide (x134_4 < (l1.length : Int)) = true := decide_eq_true c79
               clear c79
               obtain ⟨⟨t247, t248⟩, A80, H⟩ := bnd H
               try dsimp only at H
               by_cases c81 : t248 = true
               ·subst c81
                replace H := ift H
                by_cases c82 : ((rd_TRecord l1 x134_4).f1) = 1
                ·rw [if_pos c82] at H
                 have c82b0 : (((rd_TRecord l1 x134_4).f1) == 1) = true := beq_iff_eq.mpr c82
                 have c82b1 : (((rd_TRecord l1 x134_4).f1) != 1) = false := bne_eq_false_iff_eq.mpr c82
                 clear c82
                 have H' := Aside0.mk H
                 clear H
                 have p245 : 0 ≤ (x134_4 : Int) := TD
                 have q245 : x134_4 < (l1.length : Int) := TD
                 obtain ⟨ad245, e245, hx245_0, hx245_1, hx245_2, hx245_3⟩ := at_TRecord (Kd.C_below HR1.out HB.out) x134_4 p245 q245
                 cases e245
                 replace p245 := eq_true p245
                 replace q245 := eq_true q245
                 go_wp2_with (first | ((with_reducible refine gate_dst (N := 15) rfl ?_); refine bE 15 #[.string (⟨#[]⟩ : ByteArray), .int .i64 0, .int .i64 0, .string (⟨#[]⟩ : ByteArray)] 100 ?_; intro gb246 hg w83 hbox hb; have BK246 := Aside0.mk (hbox); have GE246 := bG hg; replace HB := BS hb; clear hb hbox hg; have hcz84 := cz4 BK246) | (go_at_call 138; (with_reducible refine (spec_l6Cut.calls k4 a0 _ _ l1 ((rd_TRecord l1 x134_4).f0) t247 true _ ?side1 ?side2 A80.out).mono ?_); (case side1 => exact Kd.C_below HR1.out TB); (case side2 => exact HC1.out); rintro e w85 ⟨rfl, hb⟩; replace BK246 := Aside0.mk (blk_below (g := gb246) (o := .cells #[.string ((rd_TRecord l1 x134_4).f0), .int .i64 ((rd_TRecord l1 x134_4).f1), .int .i64 ((rd_TRecord l1 x134_4).f2), .string ((rd_TRecord l1 x134_4).f3)] 100 (0, 0)) (by (with_reducible repeat (first | refine blk_drewN ?_ _ | refine blk_drew ?_ | refine blk_alloc ?_ _)); refine blk_put (cs := #[.string ((rd_TRecord l1 x134_4).f0), .int .i64 ((rd_TRecord l1 x134_4).f1), .int .i64 ((rd_TRecord l1 x134_4).f2), .string (⟨#[]⟩ : ByteArray)]) ?_ 3 _ rfl; (with_reducible repeat (first | refine blk_drewN ?_ _ | refine blk_drew ?_ | refine blk_alloc ?_ _)); refine blk_put (cs := #[.string ((rd_TRecord l1 x134_4).f0), .int .i64 ((rd_TRecord l1 x134_4).f1), .int .i64 0, .string (⟨#[]⟩ : ByteArray)]) ?_ 2 _ rfl; (with_reducible repeat (first | refine blk_drewN ?_ _ | refine blk_drew ?_ | refine blk_alloc ?_ _)); refine blk_put (cs := #[.string ((rd_TRecord l1 x134_4).f0), .int .i64 0, .int .i64 0, .string (⟨#[]⟩ : ByteArray)]) ?_ 1 _ rfl; (with_reducible repeat (first | refine blk_drewN ?_ _ | refine blk_drew ?_ | refine blk_alloc ?_ _)); refine blk_put (cs := #[.string (⟨#[]⟩ : ByteArray), .int .i64 0, .int .i64 0, .string (⟨#[]⟩ : ByteArray)]) ?_ 0 _ rfl; (with_reducible repeat (first | refine blk_drewN ?_ _ | refine blk_drew ?_ | refine blk_alloc ?_ _)); exact BK246.out) hb); replace HB := BS hb; (try clear hb); (try clear hb2); (try clear hk); (try clear hi); have hcz86 := cz4 BK246))
                 repeat (go_quiet (first | ((with_reducible refine gate_dst (N := 15) rfl ?_); refine bE 15 #[.string (⟨#[]⟩ : ByteArray), .int .i64 0, .int .i64 0, .string (⟨#[]⟩ : ByteArray)] 100 ?_; intro gb246 hg w83 hbox hb; have BK246 := Aside0.mk (hbox); have GE246 := bG hg; replace HB := BS hb; clear hb hbox hg; have hcz84 := cz4 BK246) | (go_at_call 138; (with_reducible refine (spec_l6Cut.calls k4 a0 _ _ l1 ((rd_TRecord l1 x134_4).f0) t247 true _ ?side1 ?side2 A80.out).mono ?_); (case side1 => exact Kd.C_below HR1.out TB); (case side2 => exact HC1.out); rintro e w85 ⟨rfl, hb⟩; replace BK246 := Aside0.mk (blk_below (g := gb246) (o := .cells #[.string ((rd_TRecord l1 x134_4).f0), .int .i64 ((rd_TRecord l1 x134_4).f1), .int .i64 ((rd_TRecord l1 x134_4).f2), .string ((rd_TRecord l1 x134_4).f3)] 100 (0, 0)) (by (with_reducible repeat (first | refine blk_drewN ?_ _ | refine blk_drew ?_ | refine blk_alloc ?_ _)); refine blk_put (cs := #[.string ((rd_TRecord l1 x134_4).f0), .int .i64 ((rd_TRecord l1 x134_4).f1), .int .i64 ((rd_TRecord l1 x134_4).f2), .string (⟨#[]⟩ : ByteArray)]) ?_ 3 _ rfl; (with_reducible repeat (first | refine blk_drewN ?_ _ | refine blk_drew ?_ | refine blk_alloc ?_ _)); refine blk_put (cs := #[.string ((rd_TRecord l1 x134_4).f0), .int .i64 ((rd_TRecord l1 x134_4).f1), .int .i64 0, .string (⟨#[]⟩ : ByteArray)]) ?_ 2 _ rfl; (with_reducible repeat (first | refine blk_drewN ?_ _ | refine blk_drew ?_ | refine blk_alloc ?_ _)); refine blk_put (cs := #[.string ((rd_TRecord l1 x134_4).f0), .int .i64 0, .int .i64 0, .string (⟨#[]⟩ : ByteArray)]) ?_ 1 _ rfl; (with_reducible repeat (first | refine blk_drewN ?_ _ | refine blk_drew ?_ | refine blk_alloc ?_ _)); refine blk_put (cs := #[.string (⟨#[]⟩ : ByteArray), .int .i64 0, .int .i64 0, .string (⟨#[]⟩ : ByteArray)]) ?_ 0 _ rfl; (with_reducible repeat (first | refine blk_drewN ?_ _ | refine blk_drew ?_ | refine blk_alloc ?_ _)); exact BK246.out) hb); replace HB := BS hb; (try clear hb); (try clear hb2); (try clear hk); (try clear hi); have hcz86 := cz4 BK246)); try go_wp2_with (first | ((with_reducible refine gate_dst (N := 15) rfl ?_); refine bE 15 #[.string (⟨#[]⟩ : ByteArray), .int .i64 0, .int .i64 0, .string (⟨#[]⟩ : ByteArray)] 100 ?_; intro gb246 hg w83 hbox hb; have BK246 := Aside0.mk (hbox); have GE246 := bG hg; replace HB := BS hb; clear hb hbox hg; have hcz84 := cz4 BK246) | (go_at_call 138; (with_reducible refine (spec_l6Cut.calls k4 a0 _ _ l1 ((rd_TRecord l1 x134_4).f0) t247 true _ ?side1 ?side2 A80.out).mono ?_); (case side1 => exact Kd.C_below HR1.out TB); (case side2 => exact HC1.out); rintro e w85 ⟨rfl, hb⟩; replace BK246 := Aside0.mk (blk_below (g := gb246) (o := .cells #[.string ((rd_TRecord l1 x134_4).f0), .int .i64 ((rd_TRecord l1 x134_4).f1), .int .i64 ((rd_TRecord l1 x134_4).f2), .string ((rd_TRecord l1 x134_4).f3)] 100 (0, 0)) (by (with_reducible repeat (first | refine blk_drewN ?_ _ | refine blk_drew ?_ | refine blk_alloc ?_ _)); refine blk_put (cs := #[.string ((rd_TRecord l1 x134_4).f0), .int .i64 ((rd_TRecord l1 x134_4).f1), .int .i64 ((rd_TRecord l1 x134_4).f2), .string (⟨#[]⟩ : ByteArray)]) ?_ 3 _ rfl; (with_reducible repeat (first | refine blk_drewN ?_ _ | refine blk_drew ?_ | refine blk_alloc ?_ _)); refine blk_put (cs := #[.string ((rd_TRecord l1 x134_4).f0), .int .i64 ((rd_TRecord l1 x134_4).f1), .int .i64 0, .string (⟨#[]⟩ : ByteArray)]) ?_ 2 _ rfl; (with_reducible repeat (first | refine blk_drewN ?_ _ | refine blk_drew ?_ | refine blk_alloc ?_ _)); refine blk_put (cs := #[.string ((rd_TRecord l1 x134_4).f0), .int .i64 0, .int .i64 0, .string (⟨#[]⟩ : ByteArray)]) ?_ 1 _ rfl; (with_reducible repeat (first | refine blk_drewN ?_ _ | refine blk_drew ?_ | refine blk_alloc ?_ _)); refine blk_put (cs := #[.string (⟨#[]⟩ : ByteArray), .int .i64 0, .int .i64 0, .string (⟨#[]⟩ : ByteArray)]) ?_ 0 _ rfl; (with_reducible repeat (first | refine blk_drewN ?_ _ | refine blk_drew ?_ | refine blk_alloc ?_ _)); exact BK246.out) hb); replace HB := BS hb; (try clear hb); (try clear hb2); (try clear hk); (try clear hi); have hcz86 := cz4 BK246)))
                 go_roundg k4
                 case measure => have := HK1.out; have := HK2.out; have := HK3.out; have := HK4.out; omega
                 case rel => exact ⟨(wrap64 (x134_4 + 1)), TF, H', ⟨by have := HK1.out; have := HK2.out; have := HK3.out; have := HK4.out; omega⟩, ⟨TB⟩⟩
                ·rw [if_neg c82] at H
                 have c82b0 : (((rd_TRecord l1 x134_4).f1) == 1) = false := beq_eq_false_iff_ne.mpr c82
                 have c82b1 : (((rd_TRecord l1 x134_4).f1) != 1) = true := bne_iff_ne.mpr c82
                 by_cases c87 : ((rd_TRecord l1 x134_4).f1) = 2
                 ·rw [if_pos c87] at H
                  have c87b0 : (((rd_TRecord l1 x134_4).f1) == 2) = true := beq_iff_eq.mpr c87
                  have c87b1 : (((rd_TRecord l1 x134_4).f1) != 2) = false := bne_eq_false_iff_eq.mpr c87
                  clear c87
                  by_cases c88 : ((rd_TRecord l1 x134_4).f0).toList = t247.toList
                  ·rw [if_pos c88] at H
                   have c88b0 : (((rd_TRecord l1 x134_4).f0).toList == t247.toList) = true := beq_iff_eq.mpr c88
                   have c88b1 : (((rd_TRecord l1 x134_4).f0).toList != t247.toList) = false := bne_eq_false_iff_eq.mpr c88
                   clear c88
                   have H' := Aside0.mk H
                   clear H
                   have p245 : 0 ≤ (x134_4 : Int) := TD
                   have q245 : x134_4 < (l1.length : Int) := TD
                   obtain ⟨ad245, e245, hx245_0, hx245_1, hx245_2, hx245_3⟩ := at_TRecord (Kd.C_below HR1.out HB.out) x134_4 p245 q245
                   cases e245
                   replace p245 := eq_true p245
                   replace q245 := eq_true q245
                   go_wp2_with (first | ((with_reducible refine gate_dst (N := 15) rfl ?_); refine bE 15 #[.string (⟨#[]⟩ : ByteArray), .int .i64 0, .int .i64 0, .string (⟨#[]⟩ : ByteArray)] 100 ?_; intro gb246 hg w89 hbox hb; have BK246 := Aside0.mk (hbox); have GE246 := bG hg; replace HB := BS hb; clear hb hbox hg; have hcz90 := cz4 BK246) | (go_at_call 138; (with_reducible refine (spec_l6Cut.calls k4 a0 _ _ l1 ((rd_TRecord l1 x134_4).f0) t247 true _ ?side1 ?side2 A80.out).mono ?_); (case side1 => exact Kd.C_below HR1.out TB); (case side2 => exact HC1.out); rintro e w91 ⟨rfl, hb⟩; replace BK246 := Aside0.mk (blk_below (g := gb246) (o := .cells #[.string ((rd_TRecord l1 x134_4).f0), .int .i64 ((rd_TRecord l1 x134_4).f1), .int .i64 ((rd_TRecord l1 x134_4).f2), .string ((rd_TRecord l1 x134_4).f3)] 100 (0, 0)) (by (with_reducible repeat (first | refine blk_drewN ?_ _ | refine blk_drew ?_ | refine blk_alloc ?_ _)); refine blk_put (cs := #[.string ((rd_TRecord l1 x134_4).f0), .int .i64 ((rd_TRecord l1 x134_4).f1), .int .i64 ((rd_TRecord l1 x134_4).f2), .string (⟨#[]⟩ : ByteArray)]) ?_ 3 _ rfl; (with_reducible repeat (first | refine blk_drewN ?_ _ | refine blk_drew ?_ | refine blk_alloc ?_ _)); refine blk_put (cs := #[.string ((rd_TRecord l1 x134_4).f0), .int .i64 ((rd_TRecord l1 x134_4).f1), .int .i64 0, .string (⟨#[]⟩ : ByteArray)]) ?_ 2 _ rfl; (with_reducible repeat (first | refine blk_drewN ?_ _ | refine blk_drew ?_ | refine blk_alloc ?_ _)); refine blk_put (cs := #[.string ((rd_TRecord l1 x134_4).f0), .int .i64 0, .int .i64 0, .string (⟨#[]⟩ : ByteArray)]) ?_ 1 _ rfl; (with_reducible repeat (first | refine blk_drewN ?_ _ | refine blk_drew ?_ | refine blk_alloc ?_ _)); refine blk_put (cs := #[.string (⟨#[]⟩ : ByteArray), .int .i64 0, .int .i64 0, .string (⟨#[]⟩ : ByteArray)]) ?_ 0 _ rfl; (with_reducible repeat (first | refine blk_drewN ?_ _ | refine blk_drew ?_ | refine blk_alloc ?_ _)); exact BK246.out) hb); replace HB := BS hb; (try clear hb); (try clear hb2); (try clear hk); (try clear hi); have hcz92 := cz4 BK246))
                   repeat (go_quiet (first | ((with_reducible refine gate_dst (N := 15) rfl ?_); refine bE 15 #[.string (⟨#[]⟩ : ByteArray), .int .i64 0, .int .i64 0, .string (⟨#[]⟩ : ByteArray)] 100 ?_; intro gb246 hg w89 hbox hb; have BK246 := Aside0.mk (hbox); have GE246 := bG hg; replace HB := BS hb; clear hb hbox hg; have hcz90 := cz4 BK246) | (go_at_call 138; (with_reducible refine (spec_l6Cut.calls k4 a0 _ _ l1 ((rd_TRecord l1 x134_4).f0) t247 true _ ?side1 ?side2 A80.out).mono ?_); (case side1 => exact Kd.C_below HR1.out TB); (case side2 => exact HC1.out); rintro e w91 ⟨rfl, hb⟩; replace BK246 := Aside0.mk (blk_below (g := gb246) (o := .cells #[.string ((rd_TRecord l1 x134_4).f0), .int .i64 ((rd_TRecord l1 x134_4).f1), .int .i64 ((rd_TRecord l1 x134_4).f2), .string ((rd_TRecord l1 x134_4).f3)] 100 (0, 0)) (by (with_reducible repeat (first | refine blk_drewN ?_ _ | refine blk_drew ?_ | refine blk_alloc ?_ _)); refine blk_put (cs := #[.string ((rd_TRecord l1 x134_4).f0), .int .i64 ((rd_TRecord l1 x134_4).f1), .int .i64 ((rd_TRecord l1 x134_4).f2), .string (⟨#[]⟩ : ByteArray)]) ?_ 3 _ rfl; (with_reducible repeat (first | refine blk_drewN ?_ _ | refine blk_drew ?_ | refine blk_alloc ?_ _)); refine blk_put (cs := #[.string ((rd_TRecord l1 x134_4).f0), .int .i64 ((rd_TRecord l1 x134_4).f1), .int .i64 0, .string (⟨#[]⟩ : ByteArray)]) ?_ 2 _ rfl; (with_reducible repeat (first | refine blk_drewN ?_ _ | refine blk_drew ?_ | refine blk_alloc ?_ _)); refine blk_put (cs := #[.string ((rd_TRecord l1 x134_4).f0), .int .i64 0, .int .i64 0, .string (⟨#[]⟩ : ByteArray)]) ?_ 1 _ rfl; (with_reducible repeat (first | refine blk_drewN ?_ _ | refine blk_drew ?_ | refine blk_alloc ?_ _)); refine blk_put (cs := #[.string (⟨#[]⟩ : ByteArray), .int .i64 0, .int .i64 0, .string (⟨#[]⟩ : ByteArray)]) ?_ 0 _ rfl; (with_reducible repeat (first | refine blk_drewN ?_ _ | refine blk_drew ?_ | refine blk_alloc ?_ _)); exact BK246.out) hb); replace HB := BS hb; (try clear hb); (try clear hb2); (try clear hk); (try clear hi); have hcz92 := cz4 BK246)); try go_wp2_with (first | ((with_reducible refine gate_dst (N := 15) rfl ?_); refine bE 15 #[.string (⟨#[]⟩ : ByteArray), .int .i64 0, .int .i64 0, .string (⟨#[]⟩ : ByteArray)] 100 ?_; intro gb246 hg w89 hbox hb; have BK246 := Aside0.mk (hbox); have GE246 := bG hg; replace HB := BS hb; clear hb hbox hg; have hcz90 := cz4 BK246) | (go_at_call 138; (with_reducible refine (spec_l6Cut.calls k4 a0 _ _ l1 ((rd_TRecord l1 x134_4).f0) t247 true _ ?side1 ?side2 A80.out).mono ?_); (case side1 => exact Kd.C_below HR1.out TB); (case side2 => exact HC1.out); rintro e w91 ⟨rfl, hb⟩; replace BK246 := Aside0.mk (blk_below (g := gb246) (o := .cells #[.string ((rd_TRecord l1 x134_4).f0), .int .i64 ((rd_TRecord l1 x134_4).f1), .int .i64 ((rd_TRecord l1 x134_4).f2), .string ((rd_TRecord l1 x134_4).f3)] 100 (0, 0)) (by (with_reducible repeat (first | refine blk_drewN ?_ _ | refine blk_drew ?_ | refine blk_alloc ?_ _)); refine blk_put (cs := #[.string ((rd_TRecord l1 x134_4).f0), .int .i64 ((rd_TRecord l1 x134_4).f1), .int .i64 ((rd_TRecord l1 x134_4).f2), .string (⟨#[]⟩ : ByteArray)]) ?_ 3 _ rfl; (with_reducible repeat (first | refine blk_drewN ?_ _ | refine blk_drew ?_ | refine blk_alloc ?_ _)); refine blk_put (cs := #[.string ((rd_TRecord l1 x134_4).f0), .int .i64 ((rd_TRecord l1 x134_4).f1), .int .i64 0, .string (⟨#[]⟩ : ByteArray)]) ?_ 2 _ rfl; (with_reducible repeat (first | refine blk_drewN ?_ _ | refine blk_drew ?_ | refine blk_alloc ?_ _)); refine blk_put (cs := #[.string ((rd_TRecord l1 x134_4).f0), .int .i64 0, .int .i64 0, .string (⟨#[]⟩ : ByteArray)]) ?_ 1 _ rfl; (with_reducible repeat (first | refine blk_drewN ?_ _ | refine blk_drew ?_ | refine blk_alloc ?_ _)); refine blk_put (cs := #[.string (⟨#[]⟩ : ByteArray), .int .i64 0, .int .i64 0, .string (⟨#[]⟩ : ByteArray)]) ?_ 0 _ rfl; (with_reducible repeat (first | refine blk_drewN ?_ _ | refine blk_drew ?_ | refine blk_alloc ?_ _)); exact BK246.out) hb); replace HB := BS hb; (try clear hb); (try clear hb2); (try clear hk); (try clear hi); have hcz92 := cz4 BK246)))
                   go_roundg k4
                   case measure => have := HK1.out; have := HK2.out; have := HK3.out; have := HK4.out; omega
                   case rel => exact ⟨(wrap64 (x134_4 + 1)), TF, H', ⟨by have := HK1.out; have := HK2.out; have := HK3.out; have := HK4.out; omega⟩, ⟨TB⟩⟩
                  ·rw [if_neg c88] at H
                   have c88b0 : (((rd_TRecord l1 x134_4).f0).toList == t247.toList) = false := beq_eq_false_iff_ne.mpr c88
                   have c88b1 : (((rd_TRecord l1 x134_4).f0).toList != t247.toList) = true := bne_iff_ne.mpr c88
                   obtain rfl := Option.some.inj H
                   have p245 : 0 ≤ (x134_4 : Int) := TD
                   have q245 : x134_4 < (l1.length : Int) := TD
                   obtain ⟨ad245, e245, hx245_0, hx245_1, hx245_2, hx245_3⟩ := at_TRecord (Kd.C_below HR1.out HB.out) x134_4 p245 q245
                   cases e245
                   replace p245 := eq_true p245
                   replace q245 := eq_true q245
                   go_wp2_with (first | ((with_reducible refine gate_dst (N := 15) rfl ?_); refine bE 15 #[.string (⟨#[]⟩ : ByteArray), .int .i64 0, .int .i64 0, .string (⟨#[]⟩ : ByteArray)] 100 ?_; intro gb246 hg w93 hbox hb; have BK246 := Aside0.mk (hbox); have GE246 := bG hg; replace HB := BS hb; clear hb hbox hg; have hcz94 := cz4 BK246) | (go_at_call 138; (with_reducible refine (spec_l6Cut.calls k4 a0 _ _ l1 ((rd_TRecord l1 x134_4).f0) t247 true _ ?side1 ?side2 A80.out).mono ?_); (case side1 => exact Kd.C_below HR1.out TB); (case side2 => exact HC1.out); rintro e w95 ⟨rfl, hb⟩; replace BK246 := Aside0.mk (blk_below (g := gb246) (o := .cells #[.string ((rd_TRecord l1 x134_4).f0), .int .i64 ((rd_TRecord l1 x134_4).f1), .int .i64 ((rd_TRecord l1 x134_4).f2), .string ((rd_TRecord l1 x134_4).f3)] 100 (0, 0)) (by (with_reducible repeat (first | refine blk_drewN ?_ _ | refine blk_drew ?_ | refine blk_alloc ?_ _)); refine blk_put (cs := #[.string ((rd_TRecord l1 x134_4).f0), .int .i64 ((rd_TRecord l1 x134_4).f1), .int .i64 ((rd_TRecord l1 x134_4).f2), .string (⟨#[]⟩ : ByteArray)]) ?_ 3 _ rfl; (with_reducible repeat (first | refine blk_drewN ?_ _ | refine blk_drew ?_ | refine blk_alloc ?_ _)); refine blk_put (cs := #[.string ((rd_TRecord l1 x134_4).f0), .int .i64 ((rd_TRecord l1 x134_4).f1), .int .i64 0, .string (⟨#[]⟩ : ByteArray)]) ?_ 2 _ rfl; (with_reducible repeat (first | refine blk_drewN ?_ _ | refine blk_drew ?_ | refine blk_alloc ?_ _)); refine blk_put (cs := #[.string ((rd_TRecord l1 x134_4).f0), .int .i64 0, .int .i64 0, .string (⟨#[]⟩ : ByteArray)]) ?_ 1 _ rfl; (with_reducible repeat (first | refine blk_drewN ?_ _ | refine blk_drew ?_ | refine blk_alloc ?_ _)); refine blk_put (cs := #[.string (⟨#[]⟩ : ByteArray), .int .i64 0, .int .i64 0, .string (⟨#[]⟩ : ByteArray)]) ?_ 0 _ rfl; (with_reducible repeat (first | refine blk_drewN ?_ _ | refine blk_drew ?_ | refine blk_alloc ?_ _)); exact BK246.out) hb); replace HB := BS hb; (try clear hb); (try clear hb2); (try clear hk); (try clear hi); have hcz96 := cz4 BK246))
                   repeat (go_quiet (first | ((with_reducible refine gate_dst (N := 15) rfl ?_); refine bE 15 #[.string (⟨#[]⟩ : ByteArray), .int .i64 0, .int .i64 0, .string (⟨#[]⟩ : ByteArray)] 100 ?_; intro gb246 hg w93 hbox hb; have BK246 := Aside0.mk (hbox); have GE246 := bG hg; replace HB := BS hb; clear hb hbox hg; have hcz94 := cz4 BK246) | (go_at_call 138; (with_reducible refine (spec_l6Cut.calls k4 a0 _ _ l1 ((rd_TRecord l1 x134_4).f0) t247 true _ ?side1 ?side2 A80.out).mono ?_); (case side1 => exact Kd.C_below HR1.out TB); (case side2 => exact HC1.out); rintro e w95 ⟨rfl, hb⟩; replace BK246 := Aside0.mk (blk_below (g := gb246) (o := .cells #[.string ((rd_TRecord l1 x134_4).f0), .int .i64 ((rd_TRecord l1 x134_4).f1), .int .i64 ((rd_TRecord l1 x134_4).f2), .string ((rd_TRecord l1 x134_4).f3)] 100 (0, 0)) (by (with_reducible repeat (first | refine blk_drewN ?_ _ | refine blk_drew ?_ | refine blk_alloc ?_ _)); refine blk_put (cs := #[.string ((rd_TRecord l1 x134_4).f0), .int .i64 ((rd_TRecord l1 x134_4).f1), .int .i64 ((rd_TRecord l1 x134_4).f2), .string (⟨#[]⟩ : ByteArray)]) ?_ 3 _ rfl; (with_reducible repeat (first | refine blk_drewN ?_ _ | refine blk_drew ?_ | refine blk_alloc ?_ _)); refine blk_put (cs := #[.string ((rd_TRecord l1 x134_4).f0), .int .i64 ((rd_TRecord l1 x134_4).f1), .int .i64 0, .string (⟨#[]⟩ : ByteArray)]) ?_ 2 _ rfl; (with_reducible repeat (first | refine blk_drewN ?_ _ | refine blk_drew ?_ | refine blk_alloc ?_ _)); refine blk_put (cs := #[.string ((rd_TRecord l1 x134_4).f0), .int .i64 0, .int .i64 0, .string (⟨#[]⟩ : ByteArray)]) ?_ 1 _ rfl; (with_reducible repeat (first | refine blk_drewN ?_ _ | refine blk_drew ?_ | refine blk_alloc ?_ _)); refine blk_put (cs := #[.string (⟨#[]⟩ : ByteArray), .int .i64 0, .int .i64 0, .string (⟨#[]⟩ : ByteArray)]) ?_ 0 _ rfl; (with_reducible repeat (first | refine blk_drewN ?_ _ | refine blk_drew ?_ | refine blk_alloc ?_ _)); exact BK246.out) hb); replace HB := BS hb; (try clear hb); (try clear hb2); (try clear hk); (try clear hi); have hcz96 := cz4 BK246)); try go_wp2_with (first | ((with_reducible refine gate_dst (N := 15) rfl ?_); refine bE 15 #[.string (⟨#[]⟩ : ByteArray), .int .i64 0, .int .i64 0, .string (⟨#[]⟩ : ByteArray)] 100 ?_; intro gb246 hg w93 hbox hb; have BK246 := Aside0.mk (hbox); have GE246 := bG hg; replace HB := BS hb; clear hb hbox hg; have hcz94 := cz4 BK246) | (go_at_call 138; (with_reducible refine (spec_l6Cut.calls k4 a0 _ _ l1 ((rd_TRecord l1 x134_4).f0) t247 true _ ?side1 ?side2 A80.out).mono ?_); (case side1 => exact Kd.C_below HR1.out TB); (case side2 => exact HC1.out); rintro e w95 ⟨rfl, hb⟩; replace BK246 := Aside0.mk (blk_below (g := gb246) (o := .cells #[.string ((rd_TRecord l1 x134_4).f0), .int .i64 ((rd_TRecord l1 x134_4).f1), .int .i64 ((rd_TRecord l1 x134_4).f2), .string ((rd_TRecord l1 x134_4).f3)] 100 (0, 0)) (by (with_reducible repeat (first | refine blk_drewN ?_ _ | refine blk_drew ?_ | refine blk_alloc ?_ _)); refine blk_put (cs := #[.string ((rd_TRecord l1 x134_4).f0), .int .i64 ((rd_TRecord l1 x134_4).f1), .int .i64 ((rd_TRecord l1 x134_4).f2), .string (⟨#[]⟩ : ByteArray)]) ?_ 3 _ rfl; (with_reducible repeat (first | refine blk_drewN ?_ _ | refine blk_drew ?_ | refine blk_alloc ?_ _)); refine blk_put (cs := #[.string ((rd_TRecord l1 x134_4).f0), .int .i64 ((rd_TRecord l1 x134_4).f1), .int .i64 0, .string (⟨#[]⟩ : ByteArray)]) ?_ 2 _ rfl; (with_reducible repeat (first | refine blk_drewN ?_ _ | refine blk_drew ?_ | refine blk_alloc ?_ _)); refine blk_put (cs := #[.string ((rd_TRecord l1 x134_4).f0), .int .i64 0, .int .i64 0, .string (⟨#[]⟩ : ByteArray)]) ?_ 1 _ rfl; (with_reducible repeat (first | refine blk_drewN ?_ _ | refine blk_drew ?_ | refine blk_alloc ?_ _)); refine blk_put (cs := #[.string (⟨#[]⟩ : ByteArray), .int .i64 0, .int .i64 0, .string (⟨#[]⟩ : ByteArray)]) ?_ 0 _ rfl; (with_reducible repeat (first | refine blk_drewN ?_ _ | refine blk_drew ?_ | refine blk_alloc ?_ _)); exact BK246.out) hb); replace HB := BS hb; (try clear hb); (try clear hb2); (try clear hk); (try clear hi); have hcz96 := cz4 BK246)))
                   go_ret
                   exact ⟨TE, TB⟩
                 ·rw [if_neg c87] at H
                  have c87b0 : (((rd_TRecord l1 x134_4).f1) == 2) = false := beq_eq_false_iff_ne.mpr c87
                  have c87b1 : (((rd_TRecord l1 x134_4).f1) != 2) = true := bne_iff_ne.mpr c87
                  obtain rfl := Option.some.inj H
                  have p245 : 0 ≤ (x134_4 : Int) := TD
                  have q245 : x134_4 < (l1.length : Int) := TD
                  obtain ⟨ad245, e245, hx245_0, hx245_1, hx245_2, hx245_3⟩ := at_TRecord (Kd.C_below HR1.out HB.out) x134_4 p245 q245
                  cases e245
                  replace p245 := eq_true p245
                  replace q245 := eq_true q245
                  go_wp2_with (first | ((with_reducible refine gate_dst (N := 15) rfl ?_); refine bE 15 #[.string (⟨#[]⟩ : ByteArray), .int .i64 0, .int .i64 0, .string (⟨#[]⟩ : ByteArray)] 100 ?_; intro gb246 hg w97 hbox hb; have BK246 := Aside0.mk (hbox); have GE246 := bG hg; replace HB := BS hb; clear hb hbox hg; have hcz98 := cz4 BK246) | (go_at_call 138; (with_reducible refine (spec_l6Cut.calls k4 a0 _ _ l1 ((rd_TRecord l1 x134_4).f0) t247 true _ ?side1 ?side2 A80.out).mono ?_); (case side1 => exact Kd.C_below HR1.out TB); (case side2 => exact HC1.out); rintro e w99 ⟨rfl, hb⟩; replace BK246 := Aside0.mk (blk_below (g := gb246) (o := .cells #[.string ((rd_TRecord l1 x134_4).f0), .int .i64 ((rd_TRecord l1 x134_4).f1), .int .i64 ((rd_TRecord l1 x134_4).f2), .string ((rd_TRecord l1 x134_4).f3)] 100 (0, 0)) (by (with_reducible repeat (first | refine blk_drewN ?_ _ | refine blk_drew ?_ | refine blk_alloc ?_ _)); refine blk_put (cs := #[.string ((rd_TRecord l1 x134_4).f0), .int .i64 ((rd_TRecord l1 x134_4).f1), .int .i64 ((rd_TRecord l1 x134_4).f2), .string (⟨#[]⟩ : ByteArray)]) ?_ 3 _ rfl; (with_reducible repeat (first | refine blk_drewN ?_ _ | refine blk_drew ?_ | refine blk_alloc ?_ _)); refine blk_put (cs := #[.string ((rd_TRecord l1 x134_4).f0), .int .i64 ((rd_TRecord l1 x134_4).f1), .int .i64 0, .string (⟨#[]⟩ : ByteArray)]) ?_ 2 _ rfl; (with_reducible repeat (first | refine blk_drewN ?_ _ | refine blk_drew ?_ | refine blk_alloc ?_ _)); refine blk_put (cs := #[.string ((rd_TRecord l1 x134_4).f0), .int .i64 0, .int .i64 0, .string (⟨#[]⟩ : ByteArray)]) ?_ 1 _ rfl; (with_reducible repeat (first | refine blk_drewN ?_ _ | refine blk_drew ?_ | refine blk_alloc ?_ _)); refine blk_put (cs := #[.string (⟨#[]⟩ : ByteArray), .int .i64 0, .int .i64 0, .string (⟨#[]⟩ : ByteArray)]) ?_ 0 _ rfl; (with_reducible repeat (first | refine blk_drewN ?_ _ | refine blk_drew ?_ | refine blk_alloc ?_ _)); exact BK246.out) hb); replace HB := BS hb; (try clear hb); (try clear hb2); (try clear hk); (try clear hi); have hcz100 := cz4 BK246))
                  repeat (go_quiet (first | ((with_reducible refine gate_dst (N := 15) rfl ?_); refine bE 15 #[.string (⟨#[]⟩ : ByteArray), .int .i64 0, .int .i64 0, .string (⟨#[]⟩ : ByteArray)] 100 ?_; intro gb246 hg w97 hbox hb; have BK246 := Aside0.mk (hbox); have GE246 := bG hg; replace HB := BS hb; clear hb hbox hg; have hcz98 := cz4 BK246) | (go_at_call 138; (with_reducible refine (spec_l6Cut.calls k4 a0 _ _ l1 ((rd_TRecord l1 x134_4).f0) t247 true _ ?side1 ?side2 A80.out).mono ?_); (case side1 => exact Kd.C_below HR1.out TB); (case side2 => exact HC1.out); rintro e w99 ⟨rfl, hb⟩; replace BK246 := Aside0.mk (blk_below (g := gb246) (o := .cells #[.string ((rd_TRecord l1 x134_4).f0), .int .i64 ((rd_TRecord l1 x134_4).f1), .int .i64 ((rd_TRecord l1 x134_4).f2), .string ((rd_TRecord l1 x134_4).f3)] 100 (0, 0)) (by (with_reducible repeat (first | refine blk_drewN ?_ _ | refine blk_drew ?_ | refine blk_alloc ?_ _)); refine blk_put (cs := #[.string ((rd_TRecord l1 x134_4).f0), .int .i64 ((rd_TRecord l1 x134_4).f1), .int .i64 ((rd_TRecord l1 x134_4).f2), .string (⟨#[]⟩ : ByteArray)]) ?_ 3 _ rfl; (with_reducible repeat (first | refine blk_drewN ?_ _ | refine blk_drew ?_ | refine blk_alloc ?_ _)); refine blk_put (cs := #[.string ((rd_TRecord l1 x134_4).f0), .int .i64 ((rd_TRecord l1 x134_4).f1), .int .i64 0, .string (⟨#[]⟩ : ByteArray)]) ?_ 2 _ rfl; (with_reducible repeat (first | refine blk_drewN ?_ _ | refine blk_drew ?_ | refine blk_alloc ?_ _)); refine blk_put (cs := #[.string ((rd_TRecord l1 x134_4).f0), .int .i64 0, .int .i64 0, .string (⟨#[]⟩ : ByteArray)]) ?_ 1 _ rfl; (with_reducible repeat (first | refine blk_drewN ?_ _ | refine blk_drew ?_ | refine blk_alloc ?_ _)); refine blk_put (cs := #[.string (⟨#[]⟩ : ByteArray), .int .i64 0, .int .i64 0, .string (⟨#[]⟩ : ByteArray)]) ?_ 0 _ rfl; (with_reducible repeat (first | refine blk_drewN ?_ _ | refine blk_drew ?_ | refine blk_alloc ?_ _)); exact BK246.out) hb); replace HB := BS hb; (try clear hb); (try clear hb2); (try clear hk); (try clear hi); have hcz100 := cz4 BK246)); try go_wp2_with (first | ((with_reducible refine gate_dst (N := 15) rfl ?_); refine bE 15 #[.string (⟨#[]⟩ : ByteArray), .int .i64 0, .int .i64 0, .string (⟨#[]⟩ : ByteArray)] 100 ?_; intro gb246 hg w97 hbox hb; have BK246 := Aside0.mk (hbox); have GE246 := bG hg; replace HB := BS hb; clear hb hbox hg; have hcz98 := cz4 BK246) | (go_at_call 138; (with_reducible refine (spec_l6Cut.calls k4 a0 _ _ l1 ((rd_TRecord l1 x134_4).f0) t247 true _ ?side1 ?side2 A80.out).mono ?_); (case side1 => exact Kd.C_below HR1.out TB); (case side2 => exact HC1.out); rintro e w99 ⟨rfl, hb⟩; replace BK246 := Aside0.mk (blk_below (g := gb246) (o := .cells #[.string ((rd_TRecord l1 x134_4).f0), .int .i64 ((rd_TRecord l1 x134_4).f1), .int .i64 ((rd_TRecord l1 x134_4).f2), .string ((rd_TRecord l1 x134_4).f3)] 100 (0, 0)) (by (with_reducible repeat (first | refine blk_drewN ?_ _ | refine blk_drew ?_ | refine blk_alloc ?_ _)); refine blk_put (cs := #[.string ((rd_TRecord l1 x134_4).f0), .int .i64 ((rd_TRecord l1 x134_4).f1), .int .i64 ((rd_TRecord l1 x134_4).f2), .string (⟨#[]⟩ : ByteArray)]) ?_ 3 _ rfl; (with_reducible repeat (first | refine blk_drewN ?_ _ | refine blk_drew ?_ | refine blk_alloc ?_ _)); refine blk_put (cs := #[.string ((rd_TRecord l1 x134_4).f0), .int .i64 ((rd_TRecord l1 x134_4).f1), .int .i64 0, .string (⟨#[]⟩ : ByteArray)]) ?_ 2 _ rfl; (with_reducible repeat (first | refine blk_drewN ?_ _ | refine blk_drew ?_ | refine blk_alloc ?_ _)); refine blk_put (cs := #[.string ((rd_TRecord l1 x134_4).f0), .int .i64 0, .int .i64 0, .string (⟨#[]⟩ : ByteArray)]) ?_ 1 _ rfl; (with_reducible repeat (first | refine blk_drewN ?_ _ | refine blk_drew ?_ | refine blk_alloc ?_ _)); refine blk_put (cs := #[.string (⟨#[]⟩ : ByteArray), .int .i64 0, .int .i64 0, .string (⟨#[]⟩ : ByteArray)]) ?_ 0 _ rfl; (with_reducible repeat (first | refine blk_drewN ?_ _ | refine blk_drew ?_ | refine blk_alloc ?_ _)); exact BK246.out) hb); replace HB := BS hb; (try clear hb); (try clear hb2); (try clear hk); (try clear hi); have hcz100 := cz4 BK246)))
                  go_ret
                  exact ⟨TE, TB⟩
               ·replace c81 := Bool.eq_false_iff.mpr c81
                subst c81
                replace H := iff' H
                have H' := Aside0.mk H
                clear H
                have p245 : 0 ≤ (x134_4 : Int) := TD
                have q245 : x134_4 < (l1.length : Int) := TD
                obtain ⟨ad245, e245, hx245_0, hx245_1, hx245_2, hx245_3⟩ := at_TRecord (Kd.C_below HR1.out HB.out) x134_4 p245 q245
                cases e245
                replace p245 := eq_true p245
                replace q245 := eq_true q245
                go_wp2_with (first | ((with_reducible refine gate_dst (N := 15) rfl ?_); refine bE 15 #[.string (⟨#[]⟩ : ByteArray), .int .i64 0, .int .i64 0, .string (⟨#[]⟩ : ByteArray)] 100 ?_; intro gb246 hg w101 hbox hb; have BK246 := Aside0.mk (hbox); have GE246 := bG hg; replace HB := BS hb; clear hb hbox hg; have hcz102 := cz4 BK246) | (go_at_call 138; (with_reducible refine (spec_l6Cut.calls k4 a0 _ _ l1 ((rd_TRecord l1 x134_4).f0) t247 false _ ?side1 ?side2 A80.out).mono ?_); (case side1 => exact Kd.C_below HR1.out TB); (case side2 => exact HC1.out); rintro e w103 ⟨rfl, hb⟩; replace BK246 := Aside0.mk (blk_below (g := gb246) (o := .cells #[.string ((rd_TRecord l1 x134_4).f0), .int .i64 ((rd_TRecord l1 x134_4).f1), .int .i64 ((rd_TRecord l1 x134_4).f2), .string ((rd_TRecord l1 x134_4).f3)] 100 (0, 0)) (by (with_reducible repeat (first | refine blk_drewN ?_ _ | refine blk_drew ?_ | refine blk_alloc ?_ _)); refine blk_put (cs := #[.string ((rd_TRecord l1 x134_4).f0), .int .i64 ((rd_TRecord l1 x134_4).f1), .int .i64 ((rd_TRecord l1 x134_4).f2), .string (⟨#[]⟩ : ByteArray)]) ?_ 3 _ rfl; (with_reducible repeat (first | refine blk_drewN ?_ _ | refine blk_drew ?_ | refine blk_alloc ?_ _)); refine blk_put (cs := #[.string ((rd_TRecord l1 x134_4).f0), .int .i64 ((rd_TRecord l1 x134_4).f1), .int .i64 0, .string (⟨#[]⟩ : ByteArray)]) ?_ 2 _ rfl; (with_reducible repeat (first | refine blk_drewN ?_ _ | refine blk_drew ?_ | refine blk_alloc ?_ _)); refine blk_put (cs := #[.string ((rd_TRecord l1 x134_4).f0), .int .i64 0, .int .i64 0, .string (⟨#[]⟩ : ByteArray)]) ?_ 1 _ rfl; (with_reducible repeat (first | refine blk_drewN ?_ _ | refine blk_drew ?_ | refine blk_alloc ?_ _)); refine blk_put (cs := #[.string (⟨#[]⟩ : ByteArray), .int .i64 0, .int .i64 0, .string (⟨#[]⟩ : ByteArray)]) ?_ 0 _ rfl; (with_reducible repeat (first | refine blk_drewN ?_ _ | refine blk_drew ?_ | refine blk_alloc ?_ _)); exact BK246.out) hb); replace HB := BS hb; (try clear hb); (try clear hb2); (try clear hk); (try clear hi)))
                repeat (go_quiet (first | ((with_reducible refine gate_dst (N := 15) rfl ?_); refine bE 15 #[.string (⟨#[]⟩ : ByteArray), .int .i64 0, .int .i64 0, .string (⟨#[]⟩ : ByteArray)] 100 ?_; intro gb246 hg w101 hbox hb; have BK246 := Aside0.mk (hbox); have GE246 := bG hg; replace HB := BS hb; clear hb hbox hg; have hcz102 := cz4 BK246) | (go_at_call 138; (with_reducible refine (spec_l6Cut.calls k4 a0 _ _ l1 ((rd_TRecord l1 x134_4).f0) t247 false _ ?side1 ?side2 A80.out).mono ?_); (case side1 => exact Kd.C_below HR1.out TB); (case side2 => exact HC1.out); rintro e w103 ⟨rfl, hb⟩; replace BK246 := Aside0.mk (blk_below (g := gb246) (o := .cells #[.string ((rd_TRecord l1 x134_4).f0), .int .i64 ((rd_TRecord l1 x134_4).f1), .int .i64 ((rd_TRecord l1 x134_4).f2), .string ((rd_TRecord l1 x134_4).f3)] 100 (0, 0)) (by (with_reducible repeat (first | refine blk_drewN ?_ _ | refine blk_drew ?_ | refine blk_alloc ?_ _)); refine blk_put (cs := #[.string ((rd_TRecord l1 x134_4).f0), .int .i64 ((rd_TRecord l1 x134_4).f1), .int .i64 ((rd_TRecord l1 x134_4).f2), .string (⟨#[]⟩ : ByteArray)]) ?_ 3 _ rfl; (with_reducible repeat (first | refine blk_drewN ?_ _ | refine blk_drew ?_ | refine blk_alloc ?_ _)); refine blk_put (cs := #[.string ((rd_TRecord l1 x134_4).f0), .int .i64 ((rd_TRecord l1 x134_4).f1), .int .i64 0, .string (⟨#[]⟩ : ByteArray)]) ?_ 2 _ rfl; (with_reducible repeat (first | refine blk_drewN ?_ _ | refine blk_drew ?_ | refine blk_alloc ?_ _)); refine blk_put (cs := #[.string ((rd_TRecord l1 x134_4).f0), .int .i64 0, .int .i64 0, .string (⟨#[]⟩ : ByteArray)]) ?_ 1 _ rfl; (with_reducible repeat (first | refine blk_drewN ?_ _ | refine blk_drew ?_ | refine blk_alloc ?_ _)); refine blk_put (cs := #[.string (⟨#[]⟩ : ByteArray), .int .i64 0, .int .i64 0, .string (⟨#[]⟩ : ByteArray)]) ?_ 0 _ rfl; (with_reducible repeat (first | refine blk_drewN ?_ _ | refine blk_drew ?_ | refine blk_alloc ?_ _)); exact BK246.out) hb); replace HB := BS hb; (try clear hb); (try clear hb2); (try clear hk); (try clear hi))); try go_wp2_with (first | ((with_reducible refine gate_dst (N := 15) rfl ?_); refine bE 15 #[.string (⟨#[]⟩ : ByteArray), .int .i64 0, .int .i64 0, .string (⟨#[]⟩ : ByteArray)] 100 ?_; intro gb246 hg w101 hbox hb; have BK246 := Aside0.mk (hbox); have GE246 := bG hg; replace HB := BS hb; clear hb hbox hg; have hcz102 := cz4 BK246) | (go_at_call 138; (with_reducible refine (spec_l6Cut.calls k4 a0 _ _ l1 ((rd_TRecord l1 x134_4).f0) t247 false _ ?side1 ?side2 A80.out).mono ?_); (case side1 => exact Kd.C_below HR1.out TB); (case side2 => exact HC1.out); rintro e w103 ⟨rfl, hb⟩; replace BK246 := Aside0.mk (blk_below (g := gb246) (o := .cells #[.string ((rd_TRecord l1 x134_4).f0), .int .i64 ((rd_TRecord l1 x134_4).f1), .int .i64 ((rd_TRecord l1 x134_4).f2), .string ((rd_TRecord l1 x134_4).f3)] 100 (0, 0)) (by (with_reducible repeat (first | refine blk_drewN ?_ _ | refine blk_drew ?_ | refine blk_alloc ?_ _)); refine blk_put (cs := #[.string ((rd_TRecord l1 x134_4).f0), .int .i64 ((rd_TRecord l1 x134_4).f1), .int .i64 ((rd_TRecord l1 x134_4).f2), .string (⟨#[]⟩ : ByteArray)]) ?_ 3 _ rfl; (with_reducible repeat (first | refine blk_drewN ?_ _ | refine blk_drew ?_ | refine blk_alloc ?_ _)); refine blk_put (cs := #[.string ((rd_TRecord l1 x134_4).f0), .int .i64 ((rd_TRecord l1 x134_4).f1), .int .i64 0, .string (⟨#[]⟩ : ByteArray)]) ?_ 2 _ rfl; (with_reducible repeat (first | refine blk_drewN ?_ _ | refine blk_drew ?_ | refine blk_alloc ?_ _)); refine blk_put (cs := #[.string ((rd_TRecord l1 x134_4).f0), .int .i64 0, .int .i64 0, .string (⟨#[]⟩ : ByteArray)]) ?_ 1 _ rfl; (with_reducible repeat (first | refine blk_drewN ?_ _ | refine blk_drew ?_ | refine blk_alloc ?_ _)); refine blk_put (cs := #[.string (⟨#[]⟩ : ByteArray), .int .i64 0, .int .i64 0, .string (⟨#[]⟩ : ByteArray)]) ?_ 0 _ rfl; (with_reducible repeat (first | refine blk_drewN ?_ _ | refine blk_drew ?_ | refine blk_alloc ?_ _)); exact BK246.out) hb); replace HB := BS hb; (try clear hb); (try clear hb2); (try clear hk); (try clear hi))))
                go_roundg k4
                case measure => have := HK1.out; have := HK2.out; have := HK3.out; have := HK4.out; omega
                case rel => exact ⟨(wrap64 (x134_4 + 1)), TF, H', ⟨by have := HK1.out; have := HK2.out; have := HK3.out; have := HK4.out; omega⟩, ⟨TB⟩⟩
              ·rw [if_neg c77] at H
               have c77b0 : decide (x134_4 < (l1.length : Int)) = false := decide_eq_false c77
               clear c77
               obtain rfl := Option.some.inj H
               go_wp2
               repeat (go_quiet (fail); try go_wp2)
               go_ret
               exact ⟨TE, TB⟩
    ·rw [if_neg c18] at H
     have c18b0 : (x5_1 == 1) = false := beq_eq_false_iff_ne.mpr c18
     have c18b1 : (x5_1 != 1) = true := bne_iff_ne.mpr c18
     obtain rfl := Option.some.inj H
     go_wp2
     repeat (go_quiet (fail); try go_wp2)
     go_ret
     exact ⟨TE, TB⟩
end
section
/-! ### spec_RuleOf: function 106 -/
def spec_RuleOf.f (k : Nat) (a0 : ByteArray) (l1 : List (S_Record)) : Option (Int) := (spec_l6Apex.f k a0).bind fun t249 => (if t249 = true then ((spec_l6List.f k l1).bind fun t250 => (if t250 = true then ((spec_l6Rule.f k a0 l1).bind fun t251 => (some t251)) else (some 9))) else (some 9))
theorem spec_RuleOf.calls (k : Nat) (a0 : ByteArray) (A1 : Option Addr) (c1 : Nat) (l1 : List (S_Record)) (r : Int) (w : World) (hr1 : Kd.C k_Record w A1 l1.length l1) (hc1 : l1.length ≤ c1) (h : spec_RuleOf.f k a0 l1 = some r) :
  Calls Tryz.prog 106 #[.string a0, .slice A1 l1.length c1] w fun e w' => e = .returned (.int .i64 r) ∧ Below w.heap.size w w' := by
 have HR1 := Aside0.mk hr1
 have HC1 := Aside0.mk hc1
 clear hr1 hc1
 have HB := Aside0.mk (Below.refl w.heap.size w)
 have H : ((spec_l6Apex.f k a0).bind fun t249 => (if t249 = true then ((spec_l6List.f k l1).bind fun t250 => (if t250 = true then ((spec_l6Rule.f k a0 l1).bind fun t251 => (some t251)) else (some 9))) else (some 9))) = some r := h
 clear h
 obtain ⟨t249, A3, H⟩ := bnd H
 by_cases c4 : t249 = true
 ·subst c4
  replace H := ift H
  obtain ⟨t250, A5, H⟩ := bnd H
  by_cases c6 : t250 = true
  ·subst c6
   replace H := ift H
   obtain ⟨t251, A7, H⟩ := bnd H
   obtain rfl := Option.some.inj H
   go_enter Tryz.func106, Tryz.ntmps106
   go_wp2_with (first | ((with_reducible refine gate_callee (f := 145) rfl ?_); refine goesL_ (some 6) rfl rfl Tryz.func145 KR rfl #[.string a0] rfl TA ?_; (with_reducible refine (spec_l6Apex.calls k a0 true _ A3.out).mono ?_); rintro e w8 ⟨rfl, hb⟩; refine ⟨_, rfl, ?_⟩; replace HB := BS hb; (try clear hb); (try clear hb2); (try clear hk); (try clear hi)) | (go_at_call 146; (with_reducible refine (spec_l6List.calls k _ _ l1 true _ ?side1 ?side2 A5.out).mono ?_); (case side1 => exact CW ((Kd.C_below HR1.out HB.out))); (case side2 => exact HC1.out); rintro e w9 ⟨rfl, hb⟩; replace HB := BS hb; (try clear hb); (try clear hb2); (try clear hk); (try clear hi)) | ((with_reducible refine gate_callee (f := 147) rfl ?_); refine goesL_ (some 15) rfl rfl Tryz.func147 KR rfl #[.string a0, .slice A1 l1.length c1] rfl TA ?_; (with_reducible refine (spec_l6Rule.calls k a0 _ _ l1 t251 _ ?side1 ?side2 A7.out).mono ?_); (case side1 => exact CW ((Kd.C_below HR1.out HB.out))); (case side2 => exact HC1.out); rintro e w10 ⟨rfl, hb⟩; refine ⟨_, rfl, ?_⟩; replace HB := BS hb; (try clear hb); (try clear hb2); (try clear hk); (try clear hi)))
   go_ret
   exact ⟨TE, TB⟩
  ·replace c6 := Bool.eq_false_iff.mpr c6
   subst c6
   replace H := iff' H
   obtain rfl := Option.some.inj H
   go_enter Tryz.func106, Tryz.ntmps106
   go_wp2_with (first | ((with_reducible refine gate_callee (f := 145) rfl ?_); refine goesL_ (some 6) rfl rfl Tryz.func145 KR rfl #[.string a0] rfl TA ?_; (with_reducible refine (spec_l6Apex.calls k a0 true _ A3.out).mono ?_); rintro e w11 ⟨rfl, hb⟩; refine ⟨_, rfl, ?_⟩; replace HB := BS hb; (try clear hb); (try clear hb2); (try clear hk); (try clear hi)) | (go_at_call 146; (with_reducible refine (spec_l6List.calls k _ _ l1 false _ ?side1 ?side2 A5.out).mono ?_); (case side1 => exact CW ((Kd.C_below HR1.out HB.out))); (case side2 => exact HC1.out); rintro e w12 ⟨rfl, hb⟩; replace HB := BS hb; (try clear hb); (try clear hb2); (try clear hk); (try clear hi)))
   go_ret
   exact ⟨TE, TB⟩
 ·replace c4 := Bool.eq_false_iff.mpr c4
  subst c4
  replace H := iff' H
  obtain rfl := Option.some.inj H
  go_enter Tryz.func106, Tryz.ntmps106
  go_wp2_with (first | ((with_reducible refine gate_callee (f := 145) rfl ?_); refine goesL_ (some 6) rfl rfl Tryz.func145 KR rfl #[.string a0] rfl TA ?_; (with_reducible refine (spec_l6Apex.calls k a0 false _ A3.out).mono ?_); rintro e w13 ⟨rfl, hb⟩; refine ⟨_, rfl, ?_⟩; replace HB := BS hb; (try clear hb); (try clear hb2); (try clear hk); (try clear hi)))
  go_ret
  exact ⟨TE, TB⟩
end
section
/-! ### spec_l1Num: function 148 -/
def spec_l1Num.f : Nat → Int → Option (ByteArray)
 | 0, _ => none
 | k + 1, a0 => if a0 < 10 then (some (strOfNums (([(wrap64 (48 + a0)) % 256] : List Int)))) else ((spec_l1Num.f k (wrap64 (Int.tdiv a0 10))).bind fun t255 => ((some (([(wrap64 (48 + (Int.tmod a0 10))) % 256] : List Int) : List Int)).bind fun y256 => (if t255.size + (strOfNums y256).size ≤ 9223372036854775807 then (some (t255 ++ (strOfNums y256))) else (none))))
def spec_l1Num.T3 : Bool × List (List Nat × List Nat) := (true, [([], []), ([0], [0]), ([1], [1]), ([], []), ([3], [3]), ([4], [4]), ([5], [5]), ([6], [6]), ([7], [7]), ([2, 8], [2, 8]), ([9, 2, 0, 1, 2, 3, 4, 5, 6, 7, 8, 9], [9])])
def spec_l1Num.B3 : List Nat := [0, 1, 3, 0, 8, 24, 56, 120, 248, 511, 1023]
theorem spec_l1Num.tab3 : rtab .any (opsOf Tryz.f148 3) = spec_l1Num.T3 := by kernel_rfl
theorem spec_l1Num.bits3 : waitsOk spec_l1Num.T3.2 spec_l1Num.B3 = true := by kernel_rfl
theorem spec_l1Num.calls (k : Nat) : ∀ (a0 : Int) (r : ByteArray) (w : World) (h : spec_l1Num.f k a0 = some r),
  Calls Tryz.prog 148 #[.int .i64 a0] w fun e w' => e = .returned (.string r) ∧ Below w.heap.size w w' := by
 induction k using Nat.strongRecOn with
 | _ k ih =>
 intro a0 r w h
 cases k with
 | zero => exact absurd h (by simp [spec_l1Num.f])
 | succ k =>
 simp only [spec_l1Num.f] at h
 have HB := Aside0.mk (Below.refl w.heap.size w)
 have H : (if a0 < 10 then (some (strOfNums (([(wrap64 (48 + a0)) % 256] : List Int)))) else ((spec_l1Num.f k (wrap64 (Int.tdiv a0 10))).bind fun t255 => ((some (([(wrap64 (48 + (Int.tmod a0 10))) % 256] : List Int) : List Int)).bind fun y256 => (if t255.size + (strOfNums y256).size ≤ 9223372036854775807 then (some (t255 ++ (strOfNums y256))) else (none))))) = some r := h
 clear h
 by_cases c2 : a0 < 10
 ·rw [if_pos c2] at H
  have c2b0 : decide (a0 < 10) = true := decide_eq_true c2
  clear c2
  obtain ⟨y252, hy252⟩ : ∃ y_ : List Int, y_ = (([(wrap64 (48 + a0)) % 256] : List Int)) := ⟨_, rfl⟩
  replace H : (some (strOfNums y252)) = some r := by first | (rw [hy252]; with_reducible exact H) | (have H2_ := (Option.bind_some _ _).symm.trans H; rw [hy252]; with_reducible exact H2_) | (have H2_ := (Option.bind_some _ _).symm.trans H; with_reducible exact H2_) | with_reducible exact H | (rw [hy252]; exact H) | exact H
  have Ny252 := Aside0.mk hy252
  clear hy252
  obtain rfl := Option.some.inj H
  go_enter Tryz.func148, Tryz.ntmps148
  go_wp2_with (first | ((with_reducible refine gate_dst (N := 8) rfl ?_); refine Kd.R_lit (Kd.int .u8) _ 5 ?hg (N := 8) ?hd (xs := ([(wrap64 (48 + a0)) % 256] : List Int)) (inner := [.int .u8 ((wrap64 (48 + a0)) % 256)]) (ok := fun _ => True) (okp := fun _ => True) ?hr ?hp (fun _ hk => hk) trivial (Below.refl _ _) (Nat.le_refl _) (by simp) ?_; (case hd => rfl); (case hg => rfl); (case hr => first | (go_simp; done) | (go_simp; rfl)); (case hp => exact (Reps.one (show Kd.M (Kd.int .u8) _ _ _ ((wrap64 (48 + a0)) % 256) [.int .u8 ((wrap64 (48 + a0)) % 256)] from rfl) (Reps.none _ _))); intro v253 w3 ho4 hb hg_ hnew_; clear hg_ hnew_; (first | rw [← Ny252.out] at ho4 | (simp only [Int.reduceToNat] at ho4; rw [← Ny252.out] at ho4)); have HO254 := RL ho4; replace HB := BS hb; clear hb ho4; have hcv5 := own_string (P := Tryz.prog) Tryz.underlying141 Tryz.underlying5 Tryz.underlying9 (Kd.own_of_R HO254.out)))
  go_ret
  exact ⟨TE, TB⟩
 ·rw [if_neg c2] at H
  have c2b0 : decide (a0 < 10) = false := decide_eq_false c2
  clear c2
  obtain ⟨t255, A6, H⟩ := bnd H
  obtain ⟨y256, hy256⟩ : ∃ y_ : List Int, y_ = (([(wrap64 (48 + (Int.tmod a0 10))) % 256] : List Int)) := ⟨_, rfl⟩
  replace H : (if t255.size + (strOfNums y256).size ≤ 9223372036854775807 then (some (t255 ++ (strOfNums y256))) else (none)) = some r := by first | (rw [hy256]; with_reducible exact H) | (have H2_ := (Option.bind_some _ _).symm.trans H; rw [hy256]; with_reducible exact H2_) | (have H2_ := (Option.bind_some _ _).symm.trans H; with_reducible exact H2_) | with_reducible exact H | (rw [hy256]; exact H) | exact H
  have Ny256 := Aside0.mk hy256
  clear hy256
  obtain ⟨c7, H⟩ := ifn H
  have c7b0 := eq_true c7
  have c7b1 : decide (t255.size + (strOfNums y256).size ≤ 9223372036854775807) = true := decide_eq_true c7
  try have c7b2 : (9223372036854775807 < t255.size + (strOfNums y256).size) = False := eq_false (Nat.not_lt.2 c7)
  obtain rfl := Option.some.inj H
  go_enter Tryz.func148, Tryz.ntmps148
  try go_wp2
  replace HB := Aside0.mk (below_drew1 HB.out)
  refine start_ (n := 11) (S := fun w' => True) (ds := []) #[false, false, false, false, false, false, false, false, false, false, false] KR rfl rfl trivial (fun hHeld => ?_); refine with_tabW spec_l1Num.tab3 spec_l1Num.bits3 (fun HT_ HW_ => ?_)
  generalize w.drew = w8 at HB hHeld ⊢
  refine pA 0 10 (mL 11 1) HT_ rfl rfl ?_
  refine pA 1 11 (mL 11 3) HT_ rfl rfl ?_
  refine pA 3 13 (mL 11 11) HT_ rfl rfl ?_
  refine pA 4 14 (mL 11 27) HT_ rfl rfl ?_
  refine pA 5 15 (mL 11 59) HT_ rfl rfl ?_
  refine pA 6 16 (mL 11 123) HT_ rfl rfl ?_
  refine join_ (σ := Value) 2 #[true, true, true, true, true, true, true, true, true, false, false] (fun s_ => [(12, .string t255), (17, s_), (18, .string (strOfNums y256))]) (fun s_ w' => (Kd.R (Kd.int .u8) 5 w' w.heap.size (fun _ => True) s_ y256) ∧ (Below w.heap.size w w')) ?_ ?_
  rotate_left
  ·intro hCont
   refine two_ (i := 2) (j := 7) (Ni := some 12) (Nj := some 17) #[true, true, true, true, true, true, true, false, false, false, false] #[true, true, false, true, true, true, true, true, false, false, false] rfl rfl rfl rfl (two_of HT_.out KR) (by decide) (by decide) (fun K hK => ?_) (fun K hK => ?_)
   ·skip
    refine goes_ Tryz.func148 KR rfl #[.int .i64 (wrap64 (Int.tdiv a0 10))] (by rfl) rfl rfl TA ?_
    with_reducible refine (ih k (by omega) (wrap64 (Int.tdiv a0 10)) t255 _ A6.out).mono ?_
    rintro e w9 ⟨rfl, hb⟩
    refine ⟨_, rfl, ?_⟩
    replace HB := BS hb
    (try clear hb)
    (try clear hb2)
    (try clear hk)
    (try clear hi)
    refine hK.out _ _ trivial (fun hHeld => ?_)
    clear hK K
    refine nA ?_
    refine one_ (i := 7) (N := some 17) (mL 11 255) rfl rfl (one_of HT_.out KR) (by decide) (fun K hK => ?_)
    refine Kd.R_lit_step (Kd.int .u8) _ 5 ?hg (N := 17) ?hd (xs := ([(wrap64 (48 + (Int.tmod a0 10))) % 256] : List Int)) (inner := [.int .u8 ((wrap64 (48 + (Int.tmod a0 10))) % 256)]) (ok := fun _ => True) (okp := fun _ => True) ?hr ?hp (fun _ hk => hk) trivial (Below.refl _ _) (Nat.le_refl _) (by simp) ?_; (case hd => rfl); (case hg => rfl); (case hr => first | (go_simp; done) | (go_simp; rfl)); (case hp => exact (Reps.one (show Kd.M (Kd.int .u8) _ _ _ ((wrap64 (48 + (Int.tmod a0 10))) % 256) [.int .u8 ((wrap64 (48 + (Int.tmod a0 10))) % 256)] from rfl) (Reps.none _ _)))
    intro v257 w10 ho11 hb hg_ hnew_
    clear hg_ hnew_
    (first | rw [← Ny256.out] at ho11 | (simp only [Int.reduceToNat] at ho11; rw [← Ny256.out] at ho11))
    have HO258 := RL ho11
    replace HB := BS hb
    clear hb ho11
    refine hK.out _ _ trivial (fun hHeld => ?_)
    clear hK K
    refine nA ?_
    refine one_ (i := 8) (N := some 18) (mL 11 511) rfl rfl (one_of HT_.out KR) (by decide) (fun K hK => ?_)
    have hcv12 := own_string (P := Tryz.prog) Tryz.underlying141 Tryz.underlying5 Tryz.underlying9 (Kd.own_of_R HO258.out)
    refine value_ (w1 := ?_) (v := ?_) (by rfl) rfl ?_ ?_
    rotate_left 2
    ·go_simp
     constructor
     ·rfl
     ·rfl
    clear hcv12
    refine hK.out _ _ trivial (fun hHeld => ?_)
    clear hK K
    refine nA ?_
    exact norm_ (by simp only [putAll, Act.put, List.setIfInBounds_toArray, List.set_cons_zero, List.set_cons_succ]) (hCont (v257) _ ⟨(RW HO258).out, TB⟩)
   ·skip
    refine Kd.R_lit_step (Kd.int .u8) _ 5 ?hg (N := 17) ?hd (xs := ([(wrap64 (48 + (Int.tmod a0 10))) % 256] : List Int)) (inner := [.int .u8 ((wrap64 (48 + (Int.tmod a0 10))) % 256)]) (ok := fun _ => True) (okp := fun _ => True) ?hr ?hp (fun _ hk => hk) trivial (Below.refl _ _) (Nat.le_refl _) (by simp) ?_; (case hd => rfl); (case hg => rfl); (case hr => first | (go_simp; done) | (go_simp; rfl)); (case hp => exact (Reps.one (show Kd.M (Kd.int .u8) _ _ _ ((wrap64 (48 + (Int.tmod a0 10))) % 256) [.int .u8 ((wrap64 (48 + (Int.tmod a0 10))) % 256)] from rfl) (Reps.none _ _)))
    intro v257 w9 ho10 hb hg_ hnew_
    clear hg_ hnew_
    (first | rw [← Ny256.out] at ho10 | (simp only [Int.reduceToNat] at ho10; rw [← Ny256.out] at ho10))
    have HO258 := RL ho10
    replace HB := BS hb
    clear hb ho10
    refine hK.out _ _ trivial (fun hHeld => ?_)
    clear hK K
    refine nA ?_
    refine two_ (i := 2) (j := 8) (Ni := some 12) (Nj := some 18) #[true, true, true, true, true, true, true, true, false, false, false] #[true, true, false, true, true, true, true, true, true, false, false] rfl rfl rfl rfl (two_of HT_.out KR) (by decide) (by decide) (fun K hK => ?_) (fun K hK => ?_)
    ·skip
     refine goes_ Tryz.func148 KR rfl #[.int .i64 (wrap64 (Int.tdiv a0 10))] (by rfl) rfl rfl TA ?_
     with_reducible refine (ih k (by omega) (wrap64 (Int.tdiv a0 10)) t255 _ A6.out).mono ?_
     rintro e w11 ⟨rfl, hb⟩
     refine ⟨_, rfl, ?_⟩
     replace HO258 := RB HO258 hb
     replace HB := BS hb
     (try clear hb)
     (try clear hb2)
     (try clear hk)
     (try clear hi)
     refine hK.out _ _ trivial (fun hHeld => ?_)
     clear hK K
     refine nA ?_
     refine one_ (i := 8) (N := some 18) (mL 11 511) rfl rfl (one_of HT_.out KR) (by decide) (fun K hK => ?_)
     have hcv12 := own_string (P := Tryz.prog) Tryz.underlying141 Tryz.underlying5 Tryz.underlying9 (Kd.own_of_R HO258.out)
     refine value_ (w1 := ?_) (v := ?_) (by rfl) rfl ?_ ?_
     rotate_left 2
     ·go_simp
      constructor
      ·rfl
      ·rfl
     clear hcv12
     refine hK.out _ _ trivial (fun hHeld => ?_)
     clear hK K
     refine nA ?_
     exact norm_ (by simp only [putAll, Act.put, List.setIfInBounds_toArray, List.set_cons_zero, List.set_cons_succ]) (hCont (v257) _ ⟨(RW HO258).out, TB⟩)
    ·skip
     have hcv11 := own_string (P := Tryz.prog) Tryz.underlying141 Tryz.underlying5 Tryz.underlying9 (Kd.own_of_R HO258.out)
     refine value_ (w1 := ?_) (v := ?_) (by rfl) rfl ?_ ?_
     rotate_left 2
     ·go_simp
      constructor
      ·rfl
      ·rfl
     clear hcv11
     refine hK.out _ _ trivial (fun hHeld => ?_)
     clear hK K
     refine nA ?_
     refine one_ (i := 2) (N := some 12) (mL 11 511) rfl rfl (one_of HT_.out KR) (by decide) (fun K hK => ?_)
     refine goes_ Tryz.func148 KR rfl #[.int .i64 (wrap64 (Int.tdiv a0 10))] (by rfl) rfl rfl TA ?_
     with_reducible refine (ih k (by omega) (wrap64 (Int.tdiv a0 10)) t255 _ A6.out).mono ?_
     rintro e w12 ⟨rfl, hb⟩
     refine ⟨_, rfl, ?_⟩
     replace HO258 := RB HO258 hb
     replace HB := BS hb
     (try clear hb)
     (try clear hb2)
     (try clear hk)
     (try clear hi)
     refine hK.out _ _ trivial (fun hHeld => ?_)
     clear hK K
     refine nA ?_
     exact norm_ (by simp only [putAll, Act.put, List.setIfInBounds_toArray, List.set_cons_zero, List.set_cons_succ]) (hCont (v257) _ ⟨(RW HO258).out, TB⟩)
  rintro v257 w13 ⟨h0_, h1_⟩
  have n0_ : Aside0 (Kd.R (Kd.int .u8) 5 w13 w.heap.size (fun _ => True) v257 y256) := ⟨h0_⟩
  have n1_ : Aside0 (Below w.heap.size w w13) := ⟨h1_⟩
  clear HB
  clear h0_ h1_
  have HO258 := n0_
  have HB := n1_
  clear n0_ n1_
  have hHeld := trivial
  refine norm_ (a' := ?_) ?_ ?_
  rotate_left
  ·simp only [putAll, Act.put, List.setIfInBounds_toArray, List.set_cons_zero, List.set_cons_succ]
   rfl
  refine pA 9 19 (mL 11 1023) HT_ rfl rfl ?_
  refine pA 10 2 (mL 11 2047) HT_ rfl rfl ?_
  refine done_ (done_of HT_.out KR) ?_
  try go_wp2
  go_ret
  exact ⟨TE, TB⟩
end
section
/-! ### spec_l6Soa: function 107 -/
def spec_l6Soa.f (k : Nat) (a0_0 : ByteArray) (a0_1 : Int) (l0_2 : List (S_Record)) : Option (ByteArray) := (spec_l1Num.f k (Int.tmod a0_1 4294967296)).bind fun t260 => (some t260)
theorem spec_l6Soa.calls (k : Nat) (a0_0 : ByteArray) (a0_1 : Int) (A0_2 : Option Addr) (c0_2 : Nat) (l0_2 : List (S_Record)) (r : ByteArray) (w : World) (hr0_2 : Kd.C k_Record w A0_2 l0_2.length l0_2) (hc0_2 : l0_2.length ≤ c0_2) (h : spec_l6Soa.f k a0_0 a0_1 l0_2 = some r) :
  Calls Tryz.prog 107 #[.agg #[.string a0_0, .int .i64 a0_1, .slice A0_2 l0_2.length c0_2]] w fun e w' => e = .returned (.string r) ∧ Below w.heap.size w w' := by
 have hu30 := Tryz.underlying30
 have HR0_2 := Aside0.mk hr0_2
 have HC0_2 := Aside0.mk hc0_2
 clear hr0_2 hc0_2
 have HB := Aside0.mk (Below.refl w.heap.size w)
 have H : ((spec_l1Num.f k (Int.tmod a0_1 4294967296)).bind fun t260 => (some t260)) = some r := h
 clear h
 obtain ⟨t260, A2, H⟩ := bnd H
 obtain rfl := Option.some.inj H
 go_enter Tryz.func107, Tryz.ntmps107
 go_wp2_with (first | ((with_reducible refine gate_dst (N := 1) rfl ?_); refine bE 1 #[.string a0_0, .int .i64 a0_1, .slice A0_2 l0_2.length c0_2] 30 ?_; intro gb259 hg w3 hbox hb; have BK259 := Aside0.mk (hbox); have GE259 := bG hg; replace HB := BS hb; clear hb hbox hg; have hcz4 := cz3 BK259) | ((with_reducible refine gate_callee (f := 148) rfl ?_); refine goesL_ (some 6) rfl rfl Tryz.func148 KR rfl #[.int .i64 (Int.tmod a0_1 4294967296)] rfl TA ?_; (with_reducible refine (spec_l1Num.calls k (Int.tmod a0_1 4294967296) t260 _ A2.out).mono ?_); rintro e w5 ⟨rfl, hb⟩; refine ⟨_, rfl, ?_⟩; replace BK259 := KB BK259 hb; replace HB := BS hb; (try clear hb); (try clear hb2); (try clear hk); (try clear hi)))
 go_ret
 exact ⟨TE, TB⟩
end
section
/-! ### spec_GoodZone: function 57 -/
mutual
def spec_GoodZone.j0 : Nat → Bool → ByteArray → Int → List (S_Record) → Option (Bool)
 | 0, _, _, _, _ => none
 | k + 1, x16, x262000, x262001, x262002 => if x16 = true then (some false) else (spec_GoodZone.l0 k x262002 (x262002.length : Int) 0 x262000 x262001 x262002)
def spec_GoodZone.l0 : Nat → List (S_Record) → Int → Int → ByteArray → Int → List (S_Record) → Option (Bool)
 | 0, _, _, _, _, _, _ => none
 | k + 1, x18, x19, x20, x262000, x262001, x262002 => if x20 < x19 then (if 0 ≤ x20 then (if x20 < (x18.length : Int) then (if ((rd_TRecord x18 x20).f1) = 6 then ((spec_l6Soa.f k x262000 x262001 x262002).bind fun t266 => (if ((rd_TRecord x18 x20).f3).toList = t266.toList then (spec_GoodZone.l0 k x18 x19 (wrap64 (x20 + 1)) x262000 x262001 x262002) else (some false))) else (spec_GoodZone.l0 k x18 x19 (wrap64 (x20 + 1)) x262000 x262001 x262002)) else (none)) else (none)) else (some true)
end
def spec_GoodZone.f (k : Nat) (a0_0 : ByteArray) (a0_1 : Int) (l0_2 : List (S_Record)) : Option (Bool) := (spec_l1In.f a0_1 0 1152921504606846976).bind fun t262 => (if t262 = true then ((spec_RuleOf.f k a0_0 l0_2).bind fun t263 => (spec_GoodZone.j0 k (t263 != 0) a0_0 a0_1 l0_2)) else (spec_GoodZone.j0 k true a0_0 a0_1 l0_2))
def spec_GoodZone.T6 : Bool × List (List Nat × List Nat) := (true, [([], []), ([0], [0]), ([1], [1]), ([2], [2]), ([3], [3]), ([4, 3], [3, 4]), ([3], [3]), ([6, 3, 3], [3, 6]), ([5, 7, 3], [3, 5, 7]), ([3, 8], [3, 8])])
def spec_GoodZone.B6 : List Nat := [0, 1, 3, 7, 15, 31, 15, 79, 255, 511]
theorem spec_GoodZone.tab6 : rtab .any (opsOf Tryz.f57 6) = spec_GoodZone.T6 := by kernel_rfl
theorem spec_GoodZone.bits6 : waitsOk spec_GoodZone.T6.2 spec_GoodZone.B6 = true := by kernel_rfl
theorem spec_GoodZone.calls (k : Nat) (a0_0 : ByteArray) (a0_1 : Int) (A0_2 : Option Addr) (c0_2 : Nat) (l0_2 : List (S_Record)) (r : Bool) (w : World) (hr0_2 : Kd.C k_Record w A0_2 l0_2.length l0_2) (hc0_2 : l0_2.length ≤ c0_2) (h : spec_GoodZone.f k a0_0 a0_1 l0_2 = some r) :
  Calls Tryz.prog 57 #[.agg #[.string a0_0, .int .i64 a0_1, .slice A0_2 l0_2.length c0_2]] w fun e w' => e = .returned (.bool r) ∧ Below w.heap.size w w' := by
 have hu30 := Tryz.underlying30
 have hu100 := Tryz.underlying100
 have HR0_2 := Aside0.mk hr0_2
 have HC0_2 := Aside0.mk hc0_2
 clear hr0_2 hc0_2
 have HB := Aside0.mk (Below.refl w.heap.size w)
 have H : ((spec_l1In.f a0_1 0 1152921504606846976).bind fun t262 => (if t262 = true then ((spec_RuleOf.f k a0_0 l0_2).bind fun t263 => (spec_GoodZone.j0 k (t263 != 0) a0_0 a0_1 l0_2)) else (spec_GoodZone.j0 k true a0_0 a0_1 l0_2))) = some r := h
 clear h
 have HC2 := Aside0.mk H
 clear H
 go_enter Tryz.func57, Tryz.ntmps57
 go_upto_region 1 with (first | ((with_reducible refine gate_dst (N := 1) rfl ?_); refine bE 1 #[.string a0_0, .int .i64 a0_1, .slice A0_2 l0_2.length c0_2] 30 ?_; intro gb261 hg w3 hbox hb; have BK261 := Aside0.mk (hbox); have GE261 := bG hg; replace HB := BS hb; clear hb hbox hg))
 (try simp only [Act.put, List.setIfInBounds_toArray, List.set_cons_zero, List.set_cons_succ])
 go_cut [16] (fun v16 wc => ∃ (kq : Nat) (x16_1 : Bool), v16 = .bool x16_1 ∧ Aside0 (spec_GoodZone.j0 kq x16_1 a0_0 a0_1 l0_2 = some r) ∧ Aside0 (kq ≤ k) ∧ Aside0 (wc.heap[gb261]? = some (.cells #[.string a0_0, .int .i64 a0_1, (.slice A0_2 l0_2.length c0_2)] 30 (0, 0))) ∧ Aside0 (Below w.heap.size w wc))
 case first =>
  have H := HC2.out
  clear HC2
  obtain ⟨t262, A4, H⟩ := bnd H
  by_cases c5 : t262 = true
  ·subst c5
   replace H := ift H
   obtain ⟨t263, A6, H⟩ := bnd H
   have H' := Aside0.mk H
   clear H
   have hcz7 := cz3 BK261
   go_wp2_with (first | ((with_reducible refine gate_callee (f := 66) rfl ?_); refine goesL_ (some 7) rfl rfl Tryz.func66 KR rfl #[.int .i64 a0_1, .int .i64 0, .int .i64 1152921504606846976] rfl TA ?_; (with_reducible refine (spec_l1In.calls a0_1 0 1152921504606846976 true _ A4.out).mono ?_); rintro e w' ⟨rfl, ⟨nd, rfl⟩⟩; refine ⟨_, rfl, ?_⟩) | (go_at_call 106; (with_reducible refine (spec_RuleOf.calls k a0_0 _ _ l0_2 t263 _ ?side1 ?side2 A6.out).mono ?_); (case side1 => exact CW ((Kd.C_below HR0_2.out TB))); (case side2 => exact HC0_2.out); rintro e w8 ⟨rfl, hb⟩; replace BK261 := KB BK261 hb; replace HB := BS hb; (try clear hb); (try clear hb2); (try clear hk); (try clear hi)))
   go_meet
   case rel => exact ⟨_, ((t263 != 0)), TF, H', ⟨by first | omega | exact Nat.le_refl _⟩, KW BK261, ⟨TB⟩⟩
  ·replace c5 := Bool.eq_false_iff.mpr c5
   subst c5
   replace H := iff' H
   have H' := Aside0.mk H
   clear H
   have hcz9 := cz3 BK261
   go_wp2_with (first | ((with_reducible refine gate_callee (f := 66) rfl ?_); refine goesL_ (some 7) rfl rfl Tryz.func66 KR rfl #[.int .i64 a0_1, .int .i64 0, .int .i64 1152921504606846976] rfl TA ?_; (with_reducible refine (spec_l1In.calls a0_1 0 1152921504606846976 false _ A4.out).mono ?_); rintro e w' ⟨rfl, ⟨nd, rfl⟩⟩; refine ⟨_, rfl, ?_⟩))
   go_meet
   case rel => exact ⟨_, (true), TF, H', ⟨by first | omega | exact Nat.le_refl _⟩, KW BK261, ⟨TB⟩⟩
 case rest =>
  clear HC2
  try clear p2
  try clear c5
  try clear c6
  try clear hcz7
  try clear hcz9
  try clear hfz7_0
  try clear hfz7_1
  try clear hfz7_2
  try clear hfz9_0
  try clear hfz9_1
  try clear hfz9_2
  obtain ⟨kq, x16_1, rfl, HA, HJ1, BK261, HB⟩ := hcut
  cases kq with
  | zero => exact absurd HA.out (by simp [spec_GoodZone.j0])
  | succ kj1 =>
   have H := HA.out
   clear HA
   simp only [spec_GoodZone.j0] at H
   by_cases c10 : x16_1 = true
   ·subst c10
    replace H := ift H
    obtain rfl := Option.some.inj H
    go_wp2
    go_ret
    exact ⟨TE, TB⟩
   ·replace c10 := Bool.eq_false_iff.mpr c10
    subst c10
    replace H := iff' H
    have H' := Aside0.mk H
    clear H
    have hcz11 := cz3 BK261
    go_wp2
    go_loopg [20] kj1 (fun kq v20 w' => ∃ (x20_2 : Int), v20 = .int .i64 x20_2 ∧ Aside0 (spec_GoodZone.l0 kq l0_2 (l0_2.length : Int) x20_2 a0_0 a0_1 l0_2 = some r) ∧ Aside0 (kq ≤ kj1) ∧ Aside0 (w'.heap[gb261]? = some (.cells #[.string a0_0, .int .i64 a0_1, (.slice A0_2 l0_2.length c0_2)] 30 (0, 0))) ∧ Aside0 (Below w.heap.size w w'))
    case atStart => exact ⟨(0), TF, H', ⟨Nat.le_refl _⟩, KW BK261, ⟨TB⟩⟩
    case round =>
     clear H'
     try clear c1
     try clear p2
     try clear c5
     try clear c6
     try clear c10
     try clear hcz11
     try clear hcz7
     try clear hcz9
     try clear hfz11_0
     try clear hfz11_1
     try clear hfz11_2
     try clear hfz7_0
     try clear hfz7_1
     try clear hfz7_2
     try clear hfz9_0
     try clear hfz9_1
     try clear hfz9_2
     try clear p2
     obtain ⟨x20_2, rfl, HA, HK2, BK261, HB⟩ := hrel
     cases gk with
     | zero => exact absurd HA.out (by simp [spec_GoodZone.l0])
     | succ k2 =>
      have H := HA.out
      clear HA
      simp only [spec_GoodZone.l0] at H
      by_cases c12 : x20_2 < (l0_2.length : Int)
      ·rw [if_pos c12] at H
       have c12b0 : decide (x20_2 < (l0_2.length : Int)) = true := decide_eq_true c12
       clear c12
       obtain ⟨c13, H⟩ := ifn H
       have c13b0 : decide (0 ≤ x20_2) = true := decide_eq_true c13
       clear c13
       obtain ⟨c14, H⟩ := ifn H
       have c14b0 : decide (x20_2 < (l0_2.length : Int)) = true := decide_eq_true c14
       clear c14
       by_cases c15 : ((rd_TRecord l0_2 x20_2).f1) = 6
       ·rw [if_pos c15] at H
        have c15b0 : (((rd_TRecord l0_2 x20_2).f1) == 6) = true := beq_iff_eq.mpr c15
        have c15b1 : (((rd_TRecord l0_2 x20_2).f1) != 6) = false := bne_eq_false_iff_eq.mpr c15
        clear c15
        obtain ⟨t266, A16, H⟩ := bnd H
        by_cases c17 : ((rd_TRecord l0_2 x20_2).f3).toList = t266.toList
        ·rw [if_pos c17] at H
         have c17b0 : (((rd_TRecord l0_2 x20_2).f3).toList == t266.toList) = true := beq_iff_eq.mpr c17
         have c17b1 : (((rd_TRecord l0_2 x20_2).f3).toList != t266.toList) = false := bne_eq_false_iff_eq.mpr c17
         clear c17
         have H' := Aside0.mk H
         clear H
         have p264 : 0 ≤ (x20_2 : Int) := TD
         have q264 : x20_2 < (l0_2.length : Int) := TD
         obtain ⟨ad264, e264, hx264_0, hx264_1, hx264_2, hx264_3⟩ := at_TRecord (Kd.C_below HR0_2.out HB.out) x20_2 p264 q264
         cases e264
         replace p264 := eq_true p264
         replace q264 := eq_true q264
         try go_wp2_with (first | ((with_reducible refine gate_dst (N := 4) rfl ?_); refine bE 4 #[.string (⟨#[]⟩ : ByteArray), .int .i64 0, .int .i64 0, .string (⟨#[]⟩ : ByteArray)] 100 ?_; intro gb265 hg w18 hbox hb; have BK265 := Aside0.mk (hbox); have GE265 := bG hg; replace HB := BS hb; have NB261_265 := bN BK261 hg; have NB265_261 := bM BK261 hg; replace BK261 := KB BK261 hb; clear hb hbox hg; have hnb19 := NB265_261.out; have hnc19 := NB261_265.out; have hcz20 := cz4 BK265))
         have n0_ : Aside0 (((((w18.setCell ⟨gb265, 0, none⟩ (.string ((rd_TRecord l0_2 x20_2).f0))).setCell ⟨gb265, 1, none⟩ (.int .i64 ((rd_TRecord l0_2 x20_2).f1))).setCell ⟨gb265, 2, none⟩ (.int .i64 ((rd_TRecord l0_2 x20_2).f2))).setCell ⟨gb265, 3, none⟩ (.string ((rd_TRecord l0_2 x20_2).f3))).heap[gb261]? = some (.cells #[.string a0_0, .int .i64 a0_1, .slice (some ad264) l0_2.length c0_2] 30 (0, 0))) := ⟨TS⟩
         have n1_ : Aside0 (((((w18.setCell ⟨gb265, 0, none⟩ (.string ((rd_TRecord l0_2 x20_2).f0))).setCell ⟨gb265, 1, none⟩ (.int .i64 ((rd_TRecord l0_2 x20_2).f1))).setCell ⟨gb265, 2, none⟩ (.int .i64 ((rd_TRecord l0_2 x20_2).f2))).setCell ⟨gb265, 3, none⟩ (.string ((rd_TRecord l0_2 x20_2).f3))).heap[gb265]? = some (.cells #[.string ((rd_TRecord l0_2 x20_2).f0), .int .i64 ((rd_TRecord l0_2 x20_2).f1), .int .i64 ((rd_TRecord l0_2 x20_2).f2), .string ((rd_TRecord l0_2 x20_2).f3)] 100 (0, 0))) := ⟨TS⟩
         have n2_ : Aside0 (Below w.heap.size w ((((w18.setCell ⟨gb265, 0, none⟩ (.string ((rd_TRecord l0_2 x20_2).f0))).setCell ⟨gb265, 1, none⟩ (.int .i64 ((rd_TRecord l0_2 x20_2).f1))).setCell ⟨gb265, 2, none⟩ (.int .i64 ((rd_TRecord l0_2 x20_2).f2))).setCell ⟨gb265, 3, none⟩ (.string ((rd_TRecord l0_2 x20_2).f3)))) := ⟨TB⟩
         (try clear BK261)
         (try clear BK265)
         (try clear HB)
         generalize ((((w18.setCell ⟨gb265, 0, none⟩ (.string ((rd_TRecord l0_2 x20_2).f0))).setCell ⟨gb265, 1, none⟩ (.int .i64 ((rd_TRecord l0_2 x20_2).f1))).setCell ⟨gb265, 2, none⟩ (.int .i64 ((rd_TRecord l0_2 x20_2).f2))).setCell ⟨gb265, 3, none⟩ (.string ((rd_TRecord l0_2 x20_2).f3))) = w21 at n0_ n1_ n2_ ⊢
         have BK261 := n0_
         have BK265 := n1_
         have HB := n2_
         clear n0_ n1_ n2_
         replace BK261 := Aside0.mk (blk_drew BK261.out)
         replace BK265 := Aside0.mk (blk_drew BK265.out)
         replace HB := Aside0.mk (below_drew1 HB.out)
         refine start_ (n := 10) (S := fun w' => w'.cell? ⟨gb265, 0, none⟩ = some (.string ((rd_TRecord l0_2 x20_2).f0)) ∧ w'.cell? ⟨gb265, 1, none⟩ = some (.int .i64 ((rd_TRecord l0_2 x20_2).f1)) ∧ w'.cell? ⟨gb265, 2, none⟩ = some (.int .i64 ((rd_TRecord l0_2 x20_2).f2)) ∧ w'.cell? ⟨gb265, 3, none⟩ = some (.string ((rd_TRecord l0_2 x20_2).f3)) ∧ w'.cell? ⟨gb261, 0, none⟩ = some (.string a0_0) ∧ w'.cell? ⟨gb261, 1, none⟩ = some (.int .i64 a0_1) ∧ w'.cell? ⟨gb261, 2, none⟩ = some (.slice (some ad264) l0_2.length c0_2)) (ds := []) #[false, false, false, false, false, false, false, false, false, false] KR rfl rfl ⟨bc 0 BK265, bc 1 BK265, bc 2 BK265, bc 3 BK265, bc 0 BK261, bc 1 BK261, bc 2 BK261⟩ (fun hHeld => ?_); refine with_tabW spec_GoodZone.tab6 spec_GoodZone.bits6 (fun HT_ HW_ => ?_)
         generalize w21.drew = w22 at BK261 BK265 HB hHeld ⊢
         refine pA 0 24 (mL 10 1) HT_ rfl rfl ?_
         refine tA 1 25 (mL 10 3) HT_ HW_ hHeld rfl rfl (by rintro w' ⟨s0, s1, s2, s3, s4, s5, s6⟩; go_simp; with_reducible rfl) ?_
         refine pA 2 26 (mL 10 7) HT_ rfl rfl ?_
         refine pA 3 27 (mL 10 15) HT_ rfl rfl ?_
         refine pA 4 28 (mL 10 31) HT_ rfl rfl ?_
         refine tA 5 29 (mL 10 63) HT_ HW_ hHeld rfl rfl (by rintro w' ⟨s0, s1, s2, s3, s4, s5, s6⟩; go_simp; with_reducible rfl) ?_
         refine tA 6 30 (mL 10 127) HT_ HW_ hHeld rfl rfl (by rintro w' ⟨s0, s1, s2, s3, s4, s5, s6⟩; go_simp; with_reducible rfl) ?_
         refine one_ (i := 7) (N := some 31) (mL 10 255) rfl rfl (one_of HT_.out KR) (by decide) (fun K hK => ?_)
         refine goes_ Tryz.func107 KR rfl #[.agg #[.string a0_0, .int .i64 a0_1, .slice (some ad264) l0_2.length c0_2]] (by rfl) rfl rfl TA ?_
         with_reducible refine (spec_l6Soa.calls k2 a0_0 a0_1 _ _ l0_2 t266 _ ?side1 ?side2 A16.out).mono ?_
         (case side1 => exact CW ((Kd.C_below HR0_2.out HB.out)))
         (case side2 => exact HC0_2.out)
         rintro e w23 ⟨rfl, hb⟩
         refine ⟨_, rfl, ?_⟩
         replace BK261 := KB BK261 hb
         replace BK265 := KB BK265 hb
         replace HB := BS hb
         (try clear hb)
         (try clear hb2)
         (try clear hk)
         (try clear hi)
         refine hK.out _ _ ⟨bc 0 BK265, bc 1 BK265, bc 2 BK265, bc 3 BK265, bc 0 BK261, bc 1 BK261, bc 2 BK261⟩ (fun hHeld => ?_)
         clear hK K
         refine nA ?_
         refine pA 8 32 (mL 10 511) HT_ rfl rfl ?_
         refine pA 9 33 (mL 10 1023) HT_ rfl rfl ?_
         refine done_ (done_of HT_.out KR) ?_
         try go_wp2
         go_roundg k2
         case measure => have := HJ1.out; have := HK2.out; omega
         case rel => exact ⟨(wrap64 (x20_2 + 1)), TF, H', ⟨by have := HJ1.out; have := HK2.out; omega⟩, KW BK261, ⟨TB⟩⟩
        ·rw [if_neg c17] at H
         have c17b0 : (((rd_TRecord l0_2 x20_2).f3).toList == t266.toList) = false := beq_eq_false_iff_ne.mpr c17
         have c17b1 : (((rd_TRecord l0_2 x20_2).f3).toList != t266.toList) = true := bne_iff_ne.mpr c17
         obtain rfl := Option.some.inj H
         have p264 : 0 ≤ (x20_2 : Int) := TD
         have q264 : x20_2 < (l0_2.length : Int) := TD
         obtain ⟨ad264, e264, hx264_0, hx264_1, hx264_2, hx264_3⟩ := at_TRecord (Kd.C_below HR0_2.out HB.out) x20_2 p264 q264
         cases e264
         replace p264 := eq_true p264
         replace q264 := eq_true q264
         try go_wp2_with (first | ((with_reducible refine gate_dst (N := 4) rfl ?_); refine bE 4 #[.string (⟨#[]⟩ : ByteArray), .int .i64 0, .int .i64 0, .string (⟨#[]⟩ : ByteArray)] 100 ?_; intro gb265 hg w24 hbox hb; have BK265 := Aside0.mk (hbox); have GE265 := bG hg; replace HB := BS hb; have NB261_265 := bN BK261 hg; have NB265_261 := bM BK261 hg; replace BK261 := KB BK261 hb; clear hb hbox hg; have hnb25 := NB265_261.out; have hnc25 := NB261_265.out; have hcz26 := cz4 BK265))
         have n0_ : Aside0 (((((w24.setCell ⟨gb265, 0, none⟩ (.string ((rd_TRecord l0_2 x20_2).f0))).setCell ⟨gb265, 1, none⟩ (.int .i64 ((rd_TRecord l0_2 x20_2).f1))).setCell ⟨gb265, 2, none⟩ (.int .i64 ((rd_TRecord l0_2 x20_2).f2))).setCell ⟨gb265, 3, none⟩ (.string ((rd_TRecord l0_2 x20_2).f3))).heap[gb261]? = some (.cells #[.string a0_0, .int .i64 a0_1, .slice (some ad264) l0_2.length c0_2] 30 (0, 0))) := ⟨TS⟩
         have n1_ : Aside0 (((((w24.setCell ⟨gb265, 0, none⟩ (.string ((rd_TRecord l0_2 x20_2).f0))).setCell ⟨gb265, 1, none⟩ (.int .i64 ((rd_TRecord l0_2 x20_2).f1))).setCell ⟨gb265, 2, none⟩ (.int .i64 ((rd_TRecord l0_2 x20_2).f2))).setCell ⟨gb265, 3, none⟩ (.string ((rd_TRecord l0_2 x20_2).f3))).heap[gb265]? = some (.cells #[.string ((rd_TRecord l0_2 x20_2).f0), .int .i64 ((rd_TRecord l0_2 x20_2).f1), .int .i64 ((rd_TRecord l0_2 x20_2).f2), .string ((rd_TRecord l0_2 x20_2).f3)] 100 (0, 0))) := ⟨TS⟩
         have n2_ : Aside0 (Below w.heap.size w ((((w24.setCell ⟨gb265, 0, none⟩ (.string ((rd_TRecord l0_2 x20_2).f0))).setCell ⟨gb265, 1, none⟩ (.int .i64 ((rd_TRecord l0_2 x20_2).f1))).setCell ⟨gb265, 2, none⟩ (.int .i64 ((rd_TRecord l0_2 x20_2).f2))).setCell ⟨gb265, 3, none⟩ (.string ((rd_TRecord l0_2 x20_2).f3)))) := ⟨TB⟩
         (try clear BK261)
         (try clear BK265)
         (try clear HB)
         generalize ((((w24.setCell ⟨gb265, 0, none⟩ (.string ((rd_TRecord l0_2 x20_2).f0))).setCell ⟨gb265, 1, none⟩ (.int .i64 ((rd_TRecord l0_2 x20_2).f1))).setCell ⟨gb265, 2, none⟩ (.int .i64 ((rd_TRecord l0_2 x20_2).f2))).setCell ⟨gb265, 3, none⟩ (.string ((rd_TRecord l0_2 x20_2).f3))) = w27 at n0_ n1_ n2_ ⊢
         have BK261 := n0_
         have BK265 := n1_
         have HB := n2_
         clear n0_ n1_ n2_
         replace BK261 := Aside0.mk (blk_drew BK261.out)
         replace BK265 := Aside0.mk (blk_drew BK265.out)
         replace HB := Aside0.mk (below_drew1 HB.out)
         refine start_ (n := 10) (S := fun w' => w'.cell? ⟨gb265, 0, none⟩ = some (.string ((rd_TRecord l0_2 x20_2).f0)) ∧ w'.cell? ⟨gb265, 1, none⟩ = some (.int .i64 ((rd_TRecord l0_2 x20_2).f1)) ∧ w'.cell? ⟨gb265, 2, none⟩ = some (.int .i64 ((rd_TRecord l0_2 x20_2).f2)) ∧ w'.cell? ⟨gb265, 3, none⟩ = some (.string ((rd_TRecord l0_2 x20_2).f3)) ∧ w'.cell? ⟨gb261, 0, none⟩ = some (.string a0_0) ∧ w'.cell? ⟨gb261, 1, none⟩ = some (.int .i64 a0_1) ∧ w'.cell? ⟨gb261, 2, none⟩ = some (.slice (some ad264) l0_2.length c0_2)) (ds := []) #[false, false, false, false, false, false, false, false, false, false] KR rfl rfl ⟨bc 0 BK265, bc 1 BK265, bc 2 BK265, bc 3 BK265, bc 0 BK261, bc 1 BK261, bc 2 BK261⟩ (fun hHeld => ?_); refine with_tabW spec_GoodZone.tab6 spec_GoodZone.bits6 (fun HT_ HW_ => ?_)
         generalize w27.drew = w28 at BK261 BK265 HB hHeld ⊢
         refine pA 0 24 (mL 10 1) HT_ rfl rfl ?_
         refine tA 1 25 (mL 10 3) HT_ HW_ hHeld rfl rfl (by rintro w' ⟨s0, s1, s2, s3, s4, s5, s6⟩; go_simp; with_reducible rfl) ?_
         refine pA 2 26 (mL 10 7) HT_ rfl rfl ?_
         refine pA 3 27 (mL 10 15) HT_ rfl rfl ?_
         refine pA 4 28 (mL 10 31) HT_ rfl rfl ?_
         refine tA 5 29 (mL 10 63) HT_ HW_ hHeld rfl rfl (by rintro w' ⟨s0, s1, s2, s3, s4, s5, s6⟩; go_simp; with_reducible rfl) ?_
         refine tA 6 30 (mL 10 127) HT_ HW_ hHeld rfl rfl (by rintro w' ⟨s0, s1, s2, s3, s4, s5, s6⟩; go_simp; with_reducible rfl) ?_
         refine one_ (i := 7) (N := some 31) (mL 10 255) rfl rfl (one_of HT_.out KR) (by decide) (fun K hK => ?_)
         refine goes_ Tryz.func107 KR rfl #[.agg #[.string a0_0, .int .i64 a0_1, .slice (some ad264) l0_2.length c0_2]] (by rfl) rfl rfl TA ?_
         with_reducible refine (spec_l6Soa.calls k2 a0_0 a0_1 _ _ l0_2 t266 _ ?side1 ?side2 A16.out).mono ?_
         (case side1 => exact CW ((Kd.C_below HR0_2.out HB.out)))
         (case side2 => exact HC0_2.out)
         rintro e w29 ⟨rfl, hb⟩
         refine ⟨_, rfl, ?_⟩
         replace BK261 := KB BK261 hb
         replace BK265 := KB BK265 hb
         replace HB := BS hb
         (try clear hb)
         (try clear hb2)
         (try clear hk)
         (try clear hi)
         refine hK.out _ _ ⟨bc 0 BK265, bc 1 BK265, bc 2 BK265, bc 3 BK265, bc 0 BK261, bc 1 BK261, bc 2 BK261⟩ (fun hHeld => ?_)
         clear hK K
         refine nA ?_
         refine pA 8 32 (mL 10 511) HT_ rfl rfl ?_
         refine pA 9 33 (mL 10 1023) HT_ rfl rfl ?_
         refine done_ (done_of HT_.out KR) ?_
         try go_wp2
         go_ret
         exact ⟨TE, TB⟩
       ·rw [if_neg c15] at H
        have c15b0 : (((rd_TRecord l0_2 x20_2).f1) == 6) = false := beq_eq_false_iff_ne.mpr c15
        have c15b1 : (((rd_TRecord l0_2 x20_2).f1) != 6) = true := bne_iff_ne.mpr c15
        have H' := Aside0.mk H
        clear H
        have p264 : 0 ≤ (x20_2 : Int) := TD
        have q264 : x20_2 < (l0_2.length : Int) := TD
        obtain ⟨ad264, e264, hx264_0, hx264_1, hx264_2, hx264_3⟩ := at_TRecord (Kd.C_below HR0_2.out HB.out) x20_2 p264 q264
        cases e264
        replace p264 := eq_true p264
        replace q264 := eq_true q264
        try go_wp2_with (first | ((with_reducible refine gate_dst (N := 4) rfl ?_); refine bE 4 #[.string (⟨#[]⟩ : ByteArray), .int .i64 0, .int .i64 0, .string (⟨#[]⟩ : ByteArray)] 100 ?_; intro gb265 hg w30 hbox hb; have BK265 := Aside0.mk (hbox); have GE265 := bG hg; replace HB := BS hb; have NB261_265 := bN BK261 hg; have NB265_261 := bM BK261 hg; replace BK261 := KB BK261 hb; clear hb hbox hg; have hnb31 := NB265_261.out; have hnc31 := NB261_265.out; have hcz32 := cz4 BK265))
        have n0_ : Aside0 (((((w30.setCell ⟨gb265, 0, none⟩ (.string ((rd_TRecord l0_2 x20_2).f0))).setCell ⟨gb265, 1, none⟩ (.int .i64 ((rd_TRecord l0_2 x20_2).f1))).setCell ⟨gb265, 2, none⟩ (.int .i64 ((rd_TRecord l0_2 x20_2).f2))).setCell ⟨gb265, 3, none⟩ (.string ((rd_TRecord l0_2 x20_2).f3))).heap[gb261]? = some (.cells #[.string a0_0, .int .i64 a0_1, .slice (some ad264) l0_2.length c0_2] 30 (0, 0))) := ⟨TS⟩
        have n1_ : Aside0 (((((w30.setCell ⟨gb265, 0, none⟩ (.string ((rd_TRecord l0_2 x20_2).f0))).setCell ⟨gb265, 1, none⟩ (.int .i64 ((rd_TRecord l0_2 x20_2).f1))).setCell ⟨gb265, 2, none⟩ (.int .i64 ((rd_TRecord l0_2 x20_2).f2))).setCell ⟨gb265, 3, none⟩ (.string ((rd_TRecord l0_2 x20_2).f3))).heap[gb265]? = some (.cells #[.string ((rd_TRecord l0_2 x20_2).f0), .int .i64 ((rd_TRecord l0_2 x20_2).f1), .int .i64 ((rd_TRecord l0_2 x20_2).f2), .string ((rd_TRecord l0_2 x20_2).f3)] 100 (0, 0))) := ⟨TS⟩
        have n2_ : Aside0 (Below w.heap.size w ((((w30.setCell ⟨gb265, 0, none⟩ (.string ((rd_TRecord l0_2 x20_2).f0))).setCell ⟨gb265, 1, none⟩ (.int .i64 ((rd_TRecord l0_2 x20_2).f1))).setCell ⟨gb265, 2, none⟩ (.int .i64 ((rd_TRecord l0_2 x20_2).f2))).setCell ⟨gb265, 3, none⟩ (.string ((rd_TRecord l0_2 x20_2).f3)))) := ⟨TB⟩
        (try clear BK261)
        (try clear BK265)
        (try clear HB)
        generalize ((((w30.setCell ⟨gb265, 0, none⟩ (.string ((rd_TRecord l0_2 x20_2).f0))).setCell ⟨gb265, 1, none⟩ (.int .i64 ((rd_TRecord l0_2 x20_2).f1))).setCell ⟨gb265, 2, none⟩ (.int .i64 ((rd_TRecord l0_2 x20_2).f2))).setCell ⟨gb265, 3, none⟩ (.string ((rd_TRecord l0_2 x20_2).f3))) = w33 at n0_ n1_ n2_ ⊢
        have BK261 := n0_
        have BK265 := n1_
        have HB := n2_
        clear n0_ n1_ n2_
        replace BK261 := Aside0.mk (blk_drew BK261.out)
        replace BK265 := Aside0.mk (blk_drew BK265.out)
        replace HB := Aside0.mk (below_drew1 HB.out)
        refine start_ (n := 10) (S := fun w' => w'.cell? ⟨gb265, 0, none⟩ = some (.string ((rd_TRecord l0_2 x20_2).f0)) ∧ w'.cell? ⟨gb265, 1, none⟩ = some (.int .i64 ((rd_TRecord l0_2 x20_2).f1)) ∧ w'.cell? ⟨gb265, 2, none⟩ = some (.int .i64 ((rd_TRecord l0_2 x20_2).f2)) ∧ w'.cell? ⟨gb265, 3, none⟩ = some (.string ((rd_TRecord l0_2 x20_2).f3))) (ds := []) #[false, false, false, false, false, false, false, false, false, false] KR rfl rfl ⟨bc 0 BK265, bc 1 BK265, bc 2 BK265, bc 3 BK265⟩ (fun hHeld => ?_); refine with_tabW spec_GoodZone.tab6 spec_GoodZone.bits6 (fun HT_ HW_ => ?_)
        generalize w33.drew = w34 at BK261 BK265 HB hHeld ⊢
        refine pA 0 24 (mL 10 1) HT_ rfl rfl ?_
        refine tA 1 25 (mL 10 3) HT_ HW_ hHeld rfl rfl (by rintro w' ⟨s0, s1, s2, s3⟩; go_simp; with_reducible rfl) ?_
        refine pA 2 26 (mL 10 7) HT_ rfl rfl ?_
        refine pA 3 27 (mL 10 15) HT_ rfl rfl ?_
        refine pU 4 28 (mL 10 31) HT_ rfl rfl ?_
        refine pU 5 29 (mL 10 63) HT_ rfl rfl ?_
        refine pU 6 30 (mL 10 127) HT_ rfl rfl ?_
        refine pU 7 31 (mL 10 255) HT_ rfl rfl ?_
        refine pU 8 32 (mL 10 511) HT_ rfl rfl ?_
        refine pA 9 33 (mL 10 1023) HT_ rfl rfl ?_
        refine done_ (done_of HT_.out KR) ?_
        try go_wp2
        go_roundg k2
        case measure => have := HJ1.out; have := HK2.out; omega
        case rel => exact ⟨(wrap64 (x20_2 + 1)), TF, H', ⟨by have := HJ1.out; have := HK2.out; omega⟩, KW BK261, ⟨TB⟩⟩
      ·rw [if_neg c12] at H
       have c12b0 : decide (x20_2 < (l0_2.length : Int)) = false := decide_eq_false c12
       clear c12
       obtain rfl := Option.some.inj H
       go_wp2
       go_ret
       exact ⟨TE, TB⟩
end
section
/-! ### spec_l7There: function 109 -/
def spec_l7There.l0 : Nat → ByteArray → List (S_Record) → Int → Int → Option (Bool)
 | 0, _, _, _, _ => none
 | k + 1, x1, x8, x9, x10 => if x10 < x9 then (if 0 ≤ x10 then (if x10 < (x8.length : Int) then ((spec_l1Below.f ((rd_TRecord x8 x10).f0) x1).bind fun t284 => (if t284 = true then (some true) else (spec_l7There.l0 k x1 x8 x9 (wrap64 (x10 + 1))))) else (none)) else (none)) else (some false)
def spec_l7There.f (k : Nat) (a0_0 : ByteArray) (a0_1 : Int) (l0_2 : List (S_Record)) (a1 : ByteArray) : Option (Bool) := spec_l7There.l0 k a1 l0_2 (l0_2.length : Int) 0
theorem spec_l7There.calls (k : Nat) (a0_0 : ByteArray) (a0_1 : Int) (A0_2 : Option Addr) (c0_2 : Nat) (l0_2 : List (S_Record)) (a1 : ByteArray) (r : Bool) (w : World) (hr0_2 : Kd.C k_Record w A0_2 l0_2.length l0_2) (hc0_2 : l0_2.length ≤ c0_2) (h : spec_l7There.f k a0_0 a0_1 l0_2 a1 = some r) :
  Calls Tryz.prog 109 #[.agg #[.string a0_0, .int .i64 a0_1, .slice A0_2 l0_2.length c0_2], .string a1] w fun e w' => e = .returned (.bool r) ∧ Below w.heap.size w w' := by
 have hu30 := Tryz.underlying30
 have hu100 := Tryz.underlying100
 have HR0_2 := Aside0.mk hr0_2
 have HC0_2 := Aside0.mk hc0_2
 clear hr0_2 hc0_2
 have HB := Aside0.mk (Below.refl w.heap.size w)
 have H : (spec_l7There.l0 k a1 l0_2 (l0_2.length : Int) 0) = some r := h
 clear h
 have H' := Aside0.mk H
 clear H
 go_enter Tryz.func109, Tryz.ntmps109
 go_wp2_with (first | ((with_reducible refine gate_dst (N := 2) rfl ?_); refine bE 2 #[.string a0_0, .int .i64 a0_1, .slice A0_2 l0_2.length c0_2] 30 ?_; intro gb281 hg w3 hbox hb; have BK281 := Aside0.mk (hbox); have GE281 := bG hg; replace HB := BS hb; clear hb hbox hg; have hcz4 := cz3 BK281))
 go_loopg [10] k (fun kq v10 w' => ∃ (x10_1 : Int), v10 = .int .i64 x10_1 ∧ Aside0 (spec_l7There.l0 kq a1 l0_2 (l0_2.length : Int) x10_1 = some r) ∧ Aside0 (kq ≤ k) ∧ Aside0 (w'.heap[gb281]? = some (.cells #[.string a0_0, .int .i64 a0_1, (.slice A0_2 l0_2.length c0_2)] 30 (0, 0))) ∧ Aside0 (Below w.heap.size w w'))
 case atStart => exact ⟨(0), TF, H', ⟨Nat.le_refl _⟩, KW BK281, ⟨TB⟩⟩
 case round =>
  clear H'
  try clear c1
  try clear p2
  try clear hcz4
  obtain ⟨x10_1, rfl, HA, HK1, BK281, HB⟩ := hrel
  cases gk with
  | zero => exact absurd HA.out (by simp [spec_l7There.l0])
  | succ k1 =>
   have H := HA.out
   clear HA
   simp only [spec_l7There.l0] at H
   by_cases c5 : x10_1 < (l0_2.length : Int)
   ·rw [if_pos c5] at H
    have c5b0 : decide (x10_1 < (l0_2.length : Int)) = true := decide_eq_true c5
    clear c5
    obtain ⟨c6, H⟩ := ifn H
    have c6b0 : decide (0 ≤ x10_1) = true := decide_eq_true c6
    clear c6
    obtain ⟨c7, H⟩ := ifn H
    have c7b0 : decide (x10_1 < (l0_2.length : Int)) = true := decide_eq_true c7
    clear c7
    obtain ⟨t284, A8, H⟩ := bnd H
    by_cases c9 : t284 = true
    ·subst c9
     replace H := ift H
     obtain rfl := Option.some.inj H
     have p282 : 0 ≤ (x10_1 : Int) := TD
     have q282 : x10_1 < (l0_2.length : Int) := TD
     obtain ⟨ad282, e282, hx282_0, hx282_1, hx282_2, hx282_3⟩ := at_TRecord (Kd.C_below HR0_2.out HB.out) x10_1 p282 q282
     cases e282
     replace p282 := eq_true p282
     replace q282 := eq_true q282
     go_wp2_with (first | ((with_reducible refine gate_dst (N := 6) rfl ?_); refine bE 6 #[.string (⟨#[]⟩ : ByteArray), .int .i64 0, .int .i64 0, .string (⟨#[]⟩ : ByteArray)] 100 ?_; intro gb283 hg w10 hbox hb; have BK283 := Aside0.mk (hbox); have GE283 := bG hg; replace HB := BS hb; have NB281_283 := bN BK281 hg; have NB283_281 := bM BK281 hg; replace BK281 := KB BK281 hb; clear hb hbox hg; have hnb11 := NB283_281.out; have hnc11 := NB281_283.out; have hcz12 := cz4 BK283) | ((with_reducible refine gate_callee (f := 59) rfl ?_); refine goesL_ (some 17) rfl rfl Tryz.func59 KR rfl #[.string ((rd_TRecord l0_2 x10_1).f0), .string a1] rfl TA ?_; (with_reducible refine (spec_l1Below.calls ((rd_TRecord l0_2 x10_1).f0) a1 true _ A8.out).mono ?_); rintro e w' ⟨rfl, ⟨nd, rfl⟩⟩; refine ⟨_, rfl, ?_⟩))
     go_ret
     exact ⟨TE, TB⟩
    ·replace c9 := Bool.eq_false_iff.mpr c9
     subst c9
     replace H := iff' H
     have H' := Aside0.mk H
     clear H
     have p282 : 0 ≤ (x10_1 : Int) := TD
     have q282 : x10_1 < (l0_2.length : Int) := TD
     obtain ⟨ad282, e282, hx282_0, hx282_1, hx282_2, hx282_3⟩ := at_TRecord (Kd.C_below HR0_2.out HB.out) x10_1 p282 q282
     cases e282
     replace p282 := eq_true p282
     replace q282 := eq_true q282
     go_wp2_with (first | ((with_reducible refine gate_dst (N := 6) rfl ?_); refine bE 6 #[.string (⟨#[]⟩ : ByteArray), .int .i64 0, .int .i64 0, .string (⟨#[]⟩ : ByteArray)] 100 ?_; intro gb283 hg w13 hbox hb; have BK283 := Aside0.mk (hbox); have GE283 := bG hg; replace HB := BS hb; have NB281_283 := bN BK281 hg; have NB283_281 := bM BK281 hg; replace BK281 := KB BK281 hb; clear hb hbox hg; have hnb14 := NB283_281.out; have hnc14 := NB281_283.out; have hcz15 := cz4 BK283) | ((with_reducible refine gate_callee (f := 59) rfl ?_); refine goesL_ (some 17) rfl rfl Tryz.func59 KR rfl #[.string ((rd_TRecord l0_2 x10_1).f0), .string a1] rfl TA ?_; (with_reducible refine (spec_l1Below.calls ((rd_TRecord l0_2 x10_1).f0) a1 false _ A8.out).mono ?_); rintro e w' ⟨rfl, ⟨nd, rfl⟩⟩; refine ⟨_, rfl, ?_⟩))
     go_roundg k1
     case measure => have := HK1.out; omega
     case rel => exact ⟨(wrap64 (x10_1 + 1)), TF, H', ⟨TM⟩, ⟨TS⟩, ⟨TB⟩⟩
   ·rw [if_neg c5] at H
    have c5b0 : decide (x10_1 < (l0_2.length : Int)) = false := decide_eq_false c5
    clear c5
    obtain rfl := Option.some.inj H
    go_wp2
    go_ret
    exact ⟨TE, TB⟩
end
section
/-! ### spec_l7Encloser: function 60 -/
def spec_l7Encloser.l0 : Nat → ByteArray → ByteArray → Int → List (S_Record) → Option (ByteArray)
 | 0, _, _, _, _ => none
 | k + 1, x1, x300000, x300001, x300002 => if x1.toList = x300000.toList then (some x1) else ((spec_l7There.f k x300000 x300001 x300002 x1).bind fun t300 => (if t300 = true then (some x1) else ((spec_l1Parent.f k x1).bind fun t301 => (spec_l7Encloser.l0 k t301 x300000 x300001 x300002))))
def spec_l7Encloser.f (k : Nat) (a0_0 : ByteArray) (a0_1 : Int) (l0_2 : List (S_Record)) (a1 : ByteArray) : Option (ByteArray) := spec_l7Encloser.l0 k a1 a0_0 a0_1 l0_2
theorem spec_l7Encloser.calls (k : Nat) (a0_0 : ByteArray) (a0_1 : Int) (A0_2 : Option Addr) (c0_2 : Nat) (l0_2 : List (S_Record)) (a1 : ByteArray) (r : ByteArray) (w : World) (hr0_2 : Kd.C k_Record w A0_2 l0_2.length l0_2) (hc0_2 : l0_2.length ≤ c0_2) (h : spec_l7Encloser.f k a0_0 a0_1 l0_2 a1 = some r) :
  Calls Tryz.prog 60 #[.agg #[.string a0_0, .int .i64 a0_1, .slice A0_2 l0_2.length c0_2], .string a1] w fun e w' => e = .returned (.string r) ∧ Below w.heap.size w w' := by
 have hu30 := Tryz.underlying30
 have HR0_2 := Aside0.mk hr0_2
 have HC0_2 := Aside0.mk hc0_2
 clear hr0_2 hc0_2
 have HB := Aside0.mk (Below.refl w.heap.size w)
 have H : (spec_l7Encloser.l0 k a1 a0_0 a0_1 l0_2) = some r := h
 clear h
 have H' := Aside0.mk H
 clear H
 go_enter Tryz.func60, Tryz.ntmps60
 go_wp2_with (first | ((with_reducible refine gate_dst (N := 2) rfl ?_); refine bE 2 #[.string a0_0, .int .i64 a0_1, .slice A0_2 l0_2.length c0_2] 30 ?_; intro gb299 hg w3 hbox hb; have BK299 := Aside0.mk (hbox); have GE299 := bG hg; replace HB := BS hb; clear hb hbox hg))
 go_loopg [1] k (fun kq v1 w' => ∃ (x1_1 : ByteArray), v1 = .string x1_1 ∧ Aside0 (spec_l7Encloser.l0 kq x1_1 a0_0 a0_1 l0_2 = some r) ∧ Aside0 (kq ≤ k) ∧ Aside0 (w'.heap[gb299]? = some (.cells #[.string a0_0, .int .i64 a0_1, (.slice A0_2 l0_2.length c0_2)] 30 (0, 0))) ∧ Aside0 (Below w.heap.size w w'))
 case atStart => exact ⟨(a1), TF, H', ⟨Nat.le_refl _⟩, KW BK299, ⟨TB⟩⟩
 case round =>
  clear H'
  try clear p2
  obtain ⟨x1_1, rfl, HA, HK1, BK299, HB⟩ := hrel
  cases gk with
  | zero => exact absurd HA.out (by simp [spec_l7Encloser.l0])
  | succ k1 =>
   have H := HA.out
   clear HA
   simp only [spec_l7Encloser.l0] at H
   by_cases c4 : x1_1.toList = a0_0.toList
   ·rw [if_pos c4] at H
    have c4b0 : (x1_1.toList == a0_0.toList) = true := beq_iff_eq.mpr c4
    have c4b1 : (x1_1.toList != a0_0.toList) = false := bne_eq_false_iff_eq.mpr c4
    clear c4
    obtain rfl := Option.some.inj H
    have hcz5 := cz3 BK299
    go_wp2
    go_ret
    exact ⟨TE, TB⟩
   ·rw [if_neg c4] at H
    have c4b0 : (x1_1.toList == a0_0.toList) = false := beq_eq_false_iff_ne.mpr c4
    have c4b1 : (x1_1.toList != a0_0.toList) = true := bne_iff_ne.mpr c4
    obtain ⟨t300, A6, H⟩ := bnd H
    by_cases c7 : t300 = true
    ·subst c7
     replace H := ift H
     obtain rfl := Option.some.inj H
     have hcz8 := cz3 BK299
     go_wp2_with (first | (go_at_call 109; (with_reducible refine (spec_l7There.calls k1 a0_0 a0_1 _ _ l0_2 x1_1 true _ ?side1 ?side2 A6.out).mono ?_); (case side1 => exact CW ((Kd.C_below HR0_2.out HB.out))); (case side2 => exact HC0_2.out); rintro e w9 ⟨rfl, hb⟩; replace BK299 := KB BK299 hb; replace HB := BS hb; (try clear hb); (try clear hb2); (try clear hk); (try clear hi)))
     go_ret
     exact ⟨TE, TB⟩
    ·replace c7 := Bool.eq_false_iff.mpr c7
     subst c7
     replace H := iff' H
     obtain ⟨t301, A10, H⟩ := bnd H
     have H' := Aside0.mk H
     clear H
     have hcz11 := cz3 BK299
     go_wp2_with (first | (go_at_call 109; (with_reducible refine (spec_l7There.calls k1 a0_0 a0_1 _ _ l0_2 x1_1 false _ ?side1 ?side2 A6.out).mono ?_); (case side1 => exact CW ((Kd.C_below HR0_2.out HB.out))); (case side2 => exact HC0_2.out); rintro e w12 ⟨rfl, hb⟩; replace BK299 := KB BK299 hb; replace HB := BS hb; (try clear hb); (try clear hb2); (try clear hk); (try clear hi)) | ((with_reducible refine gate_callee (f := 110) rfl ?_); refine goesL_ (some 16) rfl rfl Tryz.func110 KR rfl #[.string x1_1] rfl TA ?_; (with_reducible refine (spec_l1Parent.calls k1 x1_1 t301 _ A10.out).mono ?_); rintro e w' ⟨rfl, ⟨nd, rfl⟩⟩; refine ⟨_, rfl, ?_⟩))
     go_roundg k1
     case measure => have := HK1.out; omega
     case rel => exact ⟨(t301), TF, H', ⟨TM⟩, KW BK299, ⟨TB⟩⟩
end
section
/-! ### spec_EncloserOf: function 14 -/
def spec_EncloserOf.f (k : Nat) (a0_0 : ByteArray) (a0_1 : Int) (l0_2 : List (S_Record)) (a1 : ByteArray) : Option (ByteArray × Bool) := (spec_GoodZone.f k a0_0 a0_1 l0_2).bind fun t903 => (if t903 = true then ((spec_GoodName.f k a1).bind fun t904 => (if t904 = true then ((spec_l1Below.f a1 a0_0).bind fun t905 => (if t905 = true then ((spec_l7Encloser.f k a0_0 a0_1 l0_2 a1).bind fun t906 => (some (t906, true))) else (some ((⟨#[]⟩ : ByteArray), false)))) else (some ((⟨#[]⟩ : ByteArray), false)))) else (some ((⟨#[]⟩ : ByteArray), false)))
theorem spec_EncloserOf.calls (k : Nat) (a0_0 : ByteArray) (a0_1 : Int) (A0_2 : Option Addr) (c0_2 : Nat) (l0_2 : List (S_Record)) (a1 : ByteArray) (r1 : ByteArray) (r2 : Bool) (w : World) (hr0_2 : Kd.C k_Record w A0_2 l0_2.length l0_2) (hc0_2 : l0_2.length ≤ c0_2) (h : spec_EncloserOf.f k a0_0 a0_1 l0_2 a1 = some (r1, r2)) :
  Calls Tryz.prog 14 #[.agg #[.string a0_0, .int .i64 a0_1, .slice A0_2 l0_2.length c0_2], .string a1] w fun e w' => e = .returned (.tuple #[.string r1, .bool r2]) ∧ Below w.heap.size w w' := by
 have hu30 := Tryz.underlying30
 have HR0_2 := Aside0.mk hr0_2
 have HC0_2 := Aside0.mk hc0_2
 clear hr0_2 hc0_2
 have HB := Aside0.mk (Below.refl w.heap.size w)
 have H : ((spec_GoodZone.f k a0_0 a0_1 l0_2).bind fun t903 => (if t903 = true then ((spec_GoodName.f k a1).bind fun t904 => (if t904 = true then ((spec_l1Below.f a1 a0_0).bind fun t905 => (if t905 = true then ((spec_l7Encloser.f k a0_0 a0_1 l0_2 a1).bind fun t906 => (some (t906, true))) else (some ((⟨#[]⟩ : ByteArray), false)))) else (some ((⟨#[]⟩ : ByteArray), false)))) else (some ((⟨#[]⟩ : ByteArray), false)))) = some (r1, r2) := h
 clear h
 obtain ⟨t903, A3, H⟩ := bnd H
 by_cases c4 : t903 = true
 ·subst c4
  replace H := ift H
  obtain ⟨t904, A5, H⟩ := bnd H
  by_cases c6 : t904 = true
  ·subst c6
   replace H := ift H
   obtain ⟨t905, A7, H⟩ := bnd H
   by_cases c8 : t905 = true
   ·subst c8
    replace H := ift H
    obtain ⟨t906, A9, H⟩ := bnd H
    simp only [Option.some.injEq, Prod.mk.injEq] at H
    obtain ⟨rfl, rfl⟩ := H
    go_enter Tryz.func14, Tryz.ntmps14
    go_wp2_with (first | ((with_reducible refine gate_dst (N := 2) rfl ?_); refine bE 2 #[.string a0_0, .int .i64 a0_1, .slice A0_2 l0_2.length c0_2] 30 ?_; intro gb902 hg w10 hbox hb; have BK902 := Aside0.mk (hbox); have GE902 := bG hg; replace HB := BS hb; clear hb hbox hg; have hcz11 := cz3 BK902) | ((with_reducible refine gate_callee (f := 57) rfl ?_); refine goesL_ (some 7) rfl rfl Tryz.func57 KR rfl #[.agg #[.string a0_0, .int .i64 a0_1, .slice A0_2 l0_2.length c0_2]] rfl TA ?_; (with_reducible refine (spec_GoodZone.calls k a0_0 a0_1 _ _ l0_2 true _ ?side1 ?side2 A3.out).mono ?_); (case side1 => exact CW ((Kd.C_below HR0_2.out HB.out))); (case side2 => exact HC0_2.out); rintro e w12 ⟨rfl, hb⟩; refine ⟨_, rfl, ?_⟩; replace BK902 := KB BK902 hb; replace HB := BS hb; (try clear hb); (try clear hb2); (try clear hk); (try clear hi)) | (go_at_call 58; (with_reducible refine (spec_GoodName.calls k a1 true _ A5.out).mono ?_); rintro e w13 ⟨rfl, hb⟩; replace BK902 := KB BK902 hb; replace HB := BS hb; (try clear hb); (try clear hb2); (try clear hk); (try clear hi); have hcz14 := cz3 BK902) | (go_at_call 59; (with_reducible refine (spec_l1Below.calls a1 a0_0 true _ A7.out).mono ?_); rintro e w' ⟨rfl, ⟨nd, rfl⟩⟩) | ((with_reducible refine gate_callee (f := 60) rfl ?_); refine goesL_ (some 23) rfl rfl Tryz.func60 KR rfl #[.agg #[.string a0_0, .int .i64 a0_1, .slice A0_2 l0_2.length c0_2], .string a1] rfl TA ?_; (with_reducible refine (spec_l7Encloser.calls k a0_0 a0_1 _ _ l0_2 a1 t906 _ ?side1 ?side2 A9.out).mono ?_); (case side1 => exact CW ((Kd.C_below HR0_2.out TB))); (case side2 => exact HC0_2.out); rintro e w15 ⟨rfl, hb⟩; refine ⟨_, rfl, ?_⟩; replace BK902 := KB BK902 hb; replace HB := BS hb; (try clear hb); (try clear hb2); (try clear hk); (try clear hi)))
    go_ret2
    exact ⟨TE, TB⟩
   ·replace c8 := Bool.eq_false_iff.mpr c8
    subst c8
    replace H := iff' H
    simp only [Option.some.injEq, Prod.mk.injEq] at H
    obtain ⟨rfl, rfl⟩ := H
    go_enter Tryz.func14, Tryz.ntmps14
    go_wp2_with (first | ((with_reducible refine gate_dst (N := 2) rfl ?_); refine bE 2 #[.string a0_0, .int .i64 a0_1, .slice A0_2 l0_2.length c0_2] 30 ?_; intro gb902 hg w16 hbox hb; have BK902 := Aside0.mk (hbox); have GE902 := bG hg; replace HB := BS hb; clear hb hbox hg; have hcz17 := cz3 BK902) | ((with_reducible refine gate_callee (f := 57) rfl ?_); refine goesL_ (some 7) rfl rfl Tryz.func57 KR rfl #[.agg #[.string a0_0, .int .i64 a0_1, .slice A0_2 l0_2.length c0_2]] rfl TA ?_; (with_reducible refine (spec_GoodZone.calls k a0_0 a0_1 _ _ l0_2 true _ ?side1 ?side2 A3.out).mono ?_); (case side1 => exact CW ((Kd.C_below HR0_2.out HB.out))); (case side2 => exact HC0_2.out); rintro e w18 ⟨rfl, hb⟩; refine ⟨_, rfl, ?_⟩; replace BK902 := KB BK902 hb; replace HB := BS hb; (try clear hb); (try clear hb2); (try clear hk); (try clear hi)) | (go_at_call 58; (with_reducible refine (spec_GoodName.calls k a1 true _ A5.out).mono ?_); rintro e w19 ⟨rfl, hb⟩; replace BK902 := KB BK902 hb; replace HB := BS hb; (try clear hb); (try clear hb2); (try clear hk); (try clear hi); have hcz20 := cz3 BK902) | (go_at_call 59; (with_reducible refine (spec_l1Below.calls a1 a0_0 false _ A7.out).mono ?_); rintro e w' ⟨rfl, ⟨nd, rfl⟩⟩))
    go_ret2
    exact ⟨TE, TB⟩
  ·replace c6 := Bool.eq_false_iff.mpr c6
   subst c6
   replace H := iff' H
   simp only [Option.some.injEq, Prod.mk.injEq] at H
   obtain ⟨rfl, rfl⟩ := H
   go_enter Tryz.func14, Tryz.ntmps14
   go_wp2_with (first | ((with_reducible refine gate_dst (N := 2) rfl ?_); refine bE 2 #[.string a0_0, .int .i64 a0_1, .slice A0_2 l0_2.length c0_2] 30 ?_; intro gb902 hg w21 hbox hb; have BK902 := Aside0.mk (hbox); have GE902 := bG hg; replace HB := BS hb; clear hb hbox hg; have hcz22 := cz3 BK902) | ((with_reducible refine gate_callee (f := 57) rfl ?_); refine goesL_ (some 7) rfl rfl Tryz.func57 KR rfl #[.agg #[.string a0_0, .int .i64 a0_1, .slice A0_2 l0_2.length c0_2]] rfl TA ?_; (with_reducible refine (spec_GoodZone.calls k a0_0 a0_1 _ _ l0_2 true _ ?side1 ?side2 A3.out).mono ?_); (case side1 => exact CW ((Kd.C_below HR0_2.out HB.out))); (case side2 => exact HC0_2.out); rintro e w23 ⟨rfl, hb⟩; refine ⟨_, rfl, ?_⟩; replace BK902 := KB BK902 hb; replace HB := BS hb; (try clear hb); (try clear hb2); (try clear hk); (try clear hi)) | (go_at_call 58; (with_reducible refine (spec_GoodName.calls k a1 false _ A5.out).mono ?_); rintro e w24 ⟨rfl, hb⟩; replace BK902 := KB BK902 hb; replace HB := BS hb; (try clear hb); (try clear hb2); (try clear hk); (try clear hi)))
   go_ret2
   exact ⟨TE, TB⟩
 ·replace c4 := Bool.eq_false_iff.mpr c4
  subst c4
  replace H := iff' H
  simp only [Option.some.injEq, Prod.mk.injEq] at H
  obtain ⟨rfl, rfl⟩ := H
  go_enter Tryz.func14, Tryz.ntmps14
  go_wp2_with (first | ((with_reducible refine gate_dst (N := 2) rfl ?_); refine bE 2 #[.string a0_0, .int .i64 a0_1, .slice A0_2 l0_2.length c0_2] 30 ?_; intro gb902 hg w25 hbox hb; have BK902 := Aside0.mk (hbox); have GE902 := bG hg; replace HB := BS hb; clear hb hbox hg; have hcz26 := cz3 BK902) | ((with_reducible refine gate_callee (f := 57) rfl ?_); refine goesL_ (some 7) rfl rfl Tryz.func57 KR rfl #[.agg #[.string a0_0, .int .i64 a0_1, .slice A0_2 l0_2.length c0_2]] rfl TA ?_; (with_reducible refine (spec_GoodZone.calls k a0_0 a0_1 _ _ l0_2 false _ ?side1 ?side2 A3.out).mono ?_); (case side1 => exact CW ((Kd.C_below HR0_2.out HB.out))); (case side2 => exact HC0_2.out); rintro e w27 ⟨rfl, hb⟩; refine ⟨_, rfl, ?_⟩; replace BK902 := KB BK902 hb; replace HB := BS hb; (try clear hb); (try clear hb2); (try clear hk); (try clear hi)))
  go_ret2
  exact ⟨TE, TB⟩
end
section
/-! ### strings_explode: function 201 -/
def strings_explode.f (a0 : ByteArray) (a1 : Int) : Option ((List ByteArray)) := none
theorem strings_explode.calls (a0 : ByteArray) (a1 : Int) (r : (List ByteArray)) (w : World) (h : strings_explode.f a0 a1 = some r) :
  Calls Tryz.prog 201 #[.string a0, .int .i64 a1] w fun e w' => ∃ v0_ : Value, e = .returned (v0_) ∧ Kd.R Kd.string 9 w' w.heap.size (fun _ => True) v0_ r ∧ Below w.heap.size w w' := by
 cases h
end
section
/-! ### strings_Count: function 202 -/
def strings_Count.f (a0 : ByteArray) (a1 : ByteArray) : Option (Int) := if a1.size = 1 then some (Go.Lib.countByte a0.data.toList (a1.data.toList.headD 0)) else none
theorem strings_Count.calls (a0 : ByteArray) (a1 : ByteArray) (r : Int) (w : World) (h : strings_Count.f a0 a1 = some r) :
  Calls Tryz.prog 202 #[.string a0, .string a1] w fun e w' => e = .returned (.int .i64 r) ∧ Drawn0 w w' := by
 unfold strings_Count.f at h
 by_cases h1 : a1.size = 1
 ·rw [if_pos h1] at h
  obtain rfl := Option.some.inj h
  obtain ⟨⟨l⟩⟩ := a1
  match l, h1 with
  | [c], _ => exact (Go.Proofs.Any.strings_Count_one Go.Proofs.Tryz.lays138 a0 c w).mono fun e w' hh => ⟨hh.1, hh.2 ▸ Drawn0.refl _⟩
 ·rw [if_neg h1] at h
  cases h
end
section
/-! ### strings_Index: function 203 -/
def strings_Index.f (a0 : ByteArray) (a1 : ByteArray) : Option (Int) := if a1.size = 1 then some (Go.Lib.indexByte a0.data.toList (a1.data.toList.headD 0)) else none
theorem strings_Index.calls (a0 : ByteArray) (a1 : ByteArray) (r : Int) (w : World) (h : strings_Index.f a0 a1 = some r) :
  Calls Tryz.prog 203 #[.string a0, .string a1] w fun e w' => e = .returned (.int .i64 r) ∧ Drawn0 w w' := by
 unfold strings_Index.f at h
 by_cases h1 : a1.size = 1
 ·rw [if_pos h1] at h
  obtain rfl := Option.some.inj h
  obtain ⟨⟨l⟩⟩ := a1
  match l, h1 with
  | [c], _ => exact (Go.Proofs.Any.strings_Index_one Go.Proofs.Tryz.lays143 a0 c w).mono fun e w' hh => ⟨hh.1, hh.2 ▸ Drawn0.refl _⟩
 ·rw [if_neg h1] at h
  cases h
end
section
/-! ### strings_genSplit: function 180 -/
mutual
def strings_genSplit.j0 : Nat → ByteArray → ByteArray → Int → Int → Option (List ByteArray)
 | 0, _, _, _, _ => none
 | k + 1, x0, x1, x2, x3 => if 0 ≤ (mn x3 (wrap64 ((x0.size : Int) + 1))) then (if (mn x3 (wrap64 ((x0.size : Int) + 1)) : Int).toNat ≤ 17592186044416 then (strings_genSplit.l0 k x0 x1 x2 (wrap64 ((mn x3 (wrap64 ((x0.size : Int) + 1))) - 1)) (List.replicate (mn x3 (wrap64 ((x0.size : Int) + 1)) : Int).toNat (⟨#[]⟩ : ByteArray)) 0) else (none)) else (none)
def strings_genSplit.l0 : Nat → ByteArray → ByteArray → Int → Int → List ByteArray → Int → Option (List ByteArray)
 | 0, _, _, _, _, _, _ => none
 | k + 1, x0, x1, x2, x3, x9, x10 => if x10 < x3 then ((strings_Index.f x0 x1).bind fun t372 => (if t372 < 0 then (if 0 ≤ x10 then (if x10 < (x9.length : Int) then (if 0 ≤ (wrap64 (x10 + 1)) then (if (wrap64 (x10 + 1)) ≤ (x9.length : Int) then (some ((x9.set (x10 : Int).toNat x0).take ((wrap64 (x10 + 1)) : Int).toNat)) else (none)) else (none)) else (none)) else (none)) else (if 0 ≤ (wrap64 (t372 + x2)) then (if (wrap64 (t372 + x2)) ≤ (x0.size : Int) then (if 0 ≤ x10 then (if x10 < (x9.length : Int) then (if 0 ≤ (wrap64 (t372 + (x1.size : Int))) then (if (wrap64 (t372 + (x1.size : Int))) ≤ (x0.size : Int) then (strings_genSplit.l0 k (x0.extract ((wrap64 (t372 + (x1.size : Int))) : Int).toNat x0.size) x1 x2 x3 (x9.set (x10 : Int).toNat (x0.extract 0 ((wrap64 (t372 + x2)) : Int).toNat)) (wrap64 (x10 + 1))) else (none)) else (none)) else (none)) else (none)) else (none)) else (none)))) else (if 0 ≤ x10 then (if x10 < (x9.length : Int) then (if 0 ≤ (wrap64 (x10 + 1)) then (if (wrap64 (x10 + 1)) ≤ (x9.length : Int) then (some ((x9.set (x10 : Int).toNat x0).take ((wrap64 (x10 + 1)) : Int).toNat)) else (none)) else (none)) else (none)) else (none))
end
def strings_genSplit.f (k : Nat) (a0 : ByteArray) (a1 : ByteArray) (a2 : Int) (a3 : Int) : Option (List ByteArray) := if a3 = 0 then (some ([] : List ByteArray)) else (if a1.toList = ([] : List UInt8) then ((strings_explode.f a0 a3).bind fun t365 => (some t365)) else (if a3 < 0 then ((strings_Count.f a0 a1).bind fun t368 => (strings_genSplit.j0 k a0 a1 a2 (wrap64 (t368 + 1)))) else (strings_genSplit.j0 k a0 a1 a2 a3)))
theorem strings_genSplit.calls (k : Nat) (a0 : ByteArray) (a1 : ByteArray) (a2 : Int) (a3 : Int) (r : List ByteArray) (w : World) (h : strings_genSplit.f k a0 a1 a2 a3 = some r) :
  Calls Tryz.prog 180 #[.string a0, .string a1, .int .i64 a2, .int .i64 a3] w fun e w' => ∃ v0_ : Value, e = .returned (v0_) ∧ Kd.R Kd.string 9 w' w.heap.size (fun _ => True) v0_ r ∧ Below w.heap.size w w' := by
 have HB := Aside0.mk (Below.refl w.heap.size w)
 have H : (if a3 = 0 then (some ([] : List ByteArray)) else (if a1.toList = ([] : List UInt8) then ((strings_explode.f a0 a3).bind fun t365 => (some t365)) else (if a3 < 0 then ((strings_Count.f a0 a1).bind fun t368 => (strings_genSplit.j0 k a0 a1 a2 (wrap64 (t368 + 1)))) else (strings_genSplit.j0 k a0 a1 a2 a3)))) = some r := h
 clear h
 by_cases c5 : a3 = 0
 ·rw [if_pos c5] at H
  have c5b0 : (a3 == 0) = true := beq_iff_eq.mpr c5
  have c5b1 : (a3 != 0) = false := bne_eq_false_iff_eq.mpr c5
  clear c5
  obtain rfl := Option.some.inj H
  go_enter Tryz.func180, Tryz.ntmps180
  go_wp2
  go_ret
  exact ⟨_, by first | rfl | (simp [errW_none, errW_some] <;> rfl) | (simp [*, errW_none, errW_some] <;> rfl) | (simp [errW_none, errW_some]; rw [Bool.eq_iff_iff]; simp), TZ, TB⟩
 ·rw [if_neg c5] at H
  have c5b0 : (a3 == 0) = false := beq_eq_false_iff_ne.mpr c5
  have c5b1 : (a3 != 0) = true := bne_iff_ne.mpr c5
  by_cases c6 : a1.toList = ([] : List UInt8)
  ·rw [if_pos c6] at H
   have c6b0 : (a1.toList == ([] : List UInt8)) = true := beq_iff_eq.mpr c6
   have c6b1 : (a1.toList != ([] : List UInt8)) = false := bne_eq_false_iff_eq.mpr c6
   clear c6
   obtain ⟨t365, A7, H⟩ := bnd H
   obtain rfl := Option.some.inj H
   go_enter Tryz.func180, Tryz.ntmps180
   go_wp2_with (first | ((with_reducible refine gate_callee (f := 201) rfl ?_); refine goesL_ (some 18) rfl rfl Tryz.func201 KR rfl #[.string a0, .int .i64 a3] rfl TA ?_; (with_reducible refine (strings_explode.calls a0 a3 t365 _ A7.out).mono ?_); rintro e w8 ⟨v366, rfl, ho0, hb⟩; refine ⟨_, rfl, ?_⟩; have HO367 := RL ho0; replace HB := BS hb; (try clear hb); (try clear hb2); (try clear hk); (try clear hi); (try clear ho0)))
   go_ret
   exact ⟨_, by first | rfl | (simp [errW_none, errW_some] <;> rfl) | (simp [*, errW_none, errW_some] <;> rfl) | (simp [errW_none, errW_some]; rw [Bool.eq_iff_iff]; simp), (RW HO367).out, TB⟩
  ·rw [if_neg c6] at H
   have c6b0 : (a1.toList == ([] : List UInt8)) = false := beq_eq_false_iff_ne.mpr c6
   have c6b1 : (a1.toList != ([] : List UInt8)) = true := bne_iff_ne.mpr c6
   have HC9 := Aside0.mk H
   clear H
   go_enter Tryz.func180, Tryz.ntmps180
   go_upto_if 20 with (fail)
   go_cut [3] (fun v3 wc => ∃ (kq : Nat) (x3_8 : Int), v3 = .int .i64 x3_8 ∧ Aside0 (strings_genSplit.j0 kq a0 a1 a2 x3_8 = some r) ∧ Aside0 (kq ≤ k) ∧ Aside0 (Below w.heap.size w wc))
   case first =>
    have H := HC9.out
    clear HC9
    by_cases c10 : a3 < 0
    ·rw [if_pos c10] at H
     have c10b0 : decide (a3 < 0) = true := decide_eq_true c10
     clear c10
     (first | rw [c10b0] | (simp only [i64_w, i32_w]; rw [c10b0]) | skip)
     obtain ⟨t368, A11, H⟩ := bnd H
     have H' := Aside0.mk H
     clear H
     go_wp2_with (first | ((with_reducible refine gate_callee (f := 202) rfl ?_); refine goesL_ (some 23) rfl rfl Tryz.func202 KR rfl #[.string a0, .string a1] rfl TA ?_; (with_reducible refine (strings_Count.calls a0 a1 t368 _ A11.out).mono ?_); rintro e w' ⟨rfl, ⟨nd, rfl⟩⟩; refine ⟨_, rfl, ?_⟩))
     go_meet
     case rel => exact ⟨_, (wrap64 (t368 + 1)), TF, H', ⟨by first | omega | exact Nat.le_refl _⟩, ⟨TB⟩⟩
    ·rw [if_neg c10] at H
     have c10b0 : decide (a3 < 0) = false := decide_eq_false c10
     clear c10
     (first | rw [c10b0] | (simp only [i64_w, i32_w]; rw [c10b0]) | skip)
     have H' := Aside0.mk H
     clear H
     go_wp2
     go_meet
     case rel => exact ⟨_, (a3), TF, H', ⟨by first | omega | exact Nat.le_refl _⟩, ⟨TB⟩⟩
   case rest =>
    clear HC9
    try clear c1
    try clear c2
    try clear p2
    try clear c5
    try clear c5b0
    try clear c5b1
    try clear c6
    try clear c6b0
    try clear c6b1
    try clear p6
    try clear c10
    try clear c10b0
    obtain ⟨kq, x3_8, rfl, HA, HJ8, HB⟩ := hcut
    cases kq with
    | zero => exact absurd HA.out (by simp [strings_genSplit.j0])
    | succ kj8 =>
     have H := HA.out
     clear HA
     simp only [strings_genSplit.j0] at H
     obtain ⟨ji12, hji12⟩ : ∃ j_ : Int, (mn x3_8 (wrap64 ((a0.size : Int) + 1))) = j_ := ⟨_, rfl⟩
     replace H : (if 0 ≤ (ji12) then (if (ji12 : Int).toNat ≤ 17592186044416 then (strings_genSplit.l0 kj8 a0 a1 a2 (wrap64 ((ji12) - 1)) (List.replicate (ji12 : Int).toNat (⟨#[]⟩ : ByteArray)) 0) else (none)) else (none)) = some r := by first | (rw [hji12] at H; exact H) | (simp only [hji12] at H ⊢; exact H)
     have hji12_ : (if (wrap64 ((a0.size : Int) + 1)) < x3_8 then (wrap64 ((a0.size : Int) + 1)) else x3_8) = ji12 := hji12
     obtain ⟨c13, H⟩ := ifn H
     have c13b0 := eq_true c13
     have c13b1 : decide (0 ≤ (ji12)) = true := decide_eq_true c13
     clear c13
     obtain ⟨c14, H⟩ := ifn H
     have c14b0 := eq_true c14
     have c14b1 : decide ((ji12 : Int).toNat ≤ 17592186044416) = true := decide_eq_true c14
     clear c14
     obtain ⟨y369, hy369⟩ : ∃ y_ : List ByteArray, y_ = (List.replicate (ji12 : Int).toNat (⟨#[]⟩ : ByteArray)) := ⟨_, rfl⟩
     replace H : (strings_genSplit.l0 kj8 a0 a1 a2 (wrap64 ((ji12) - 1)) y369 0) = some r := by first | (rw [hy369]; with_reducible exact H) | (have H2_ := (Option.bind_some _ _).symm.trans H; rw [hy369]; with_reducible exact H2_) | (have H2_ := (Option.bind_some _ _).symm.trans H; with_reducible exact H2_) | with_reducible exact H | (rw [hy369]; exact H) | exact H
     have Ny369 := Aside0.mk hy369
     clear hy369
     have H' := Aside0.mk H
     clear H
     go_wp2_with (first | ((with_reducible refine gate_dst (N := 31) rfl ?_); refine Kd.R_make Kd.string _ 9 rfl (N := 31) rfl 104 _ _ rfl ji12 rfl rfl Tryz.underlying104 (.string ⟨#[]⟩) 16 info9 rfl (by decide) (by omega) (⟨#[]⟩ : ByteArray) (ok := fun _ => True) (okp := fun _ => True) rfl (fun _ hk => hk) trivial TD (Nat.le_trans (Nat.mul_le_mul_right _ (TD : ji12.toNat ≤ 17592186044416)) (by omega)) (Below.refl _ _) (Nat.le_refl _) ?_; intro v370 w15 ho16 hb hg_ hnew_; clear hg_ hnew_; (first | rw [← Ny369.out] at ho16 | (simp only [Int.reduceToNat] at ho16; rw [← Ny369.out] at ho16)); have HO371 := RL ho16; replace HB := BS hb; clear hb ho16))
     go_loopg [0, 10] kj8 (fun kq v0 v10 w' => ∃ (x0_2 : ByteArray) (x9_2 : List ByteArray) (x10_2 : Int), v0 = .string x0_2 ∧ v10 = .int .i64 x10_2 ∧ Aside0 (strings_genSplit.l0 kq x0_2 a1 a2 (wrap64 ((ji12) - 1)) x9_2 x10_2 = some r) ∧ Aside0 (kq ≤ kj8) ∧ Aside0 (Kd.R Kd.string 9 w' w.heap.size (fun _ => True) v370 x9_2) ∧ Aside0 (Below w.heap.size w w'))
     case atStart => exact ⟨(a0), (y369), (0), TF, TF, H', ⟨Nat.le_refl _⟩, RW HO371, ⟨TB⟩⟩
     case round =>
      clear H'
      try clear c1
      try clear c2
      try clear p2
      try clear c5
      try clear c5b0
      try clear c5b1
      try clear c6
      try clear c6b0
      try clear c6b1
      try clear p6
      try clear c10
      try clear c10b0
      try clear c13
      try clear c13b0
      try clear c13b1
      try clear c14
      try clear c14b0
      try clear c14b1
      try clear p2
      try clear p6
      obtain ⟨x0_2, x9_2, x10_2, rfl, rfl, HA, HK2, HO_9, HB⟩ := hrel
      cases gk with
      | zero => exact absurd HA.out (by simp [strings_genSplit.l0])
      | succ k2 =>
       have H := HA.out
       clear HA
       simp only [strings_genSplit.l0] at H
       by_cases c17 : x10_2 < (wrap64 ((ji12) - 1))
       ·rw [if_pos c17] at H
        have c17b0 : decide (x10_2 < (wrap64 ((ji12) - 1))) = true := decide_eq_true c17
        clear c17
        obtain ⟨t372, A18, H⟩ := bnd H
        by_cases c19 : t372 < 0
        ·rw [if_pos c19] at H
         have c19b0 : decide (t372 < 0) = true := decide_eq_true c19
         clear c19
         obtain ⟨c20, H⟩ := ifn H
         have c20b0 : decide (0 ≤ x10_2) = true := decide_eq_true c20
         clear c20
         obtain ⟨c21, H⟩ := ifn H
         have c21b0 : decide (x10_2 < (x9_2.length : Int)) = true := decide_eq_true c21
         clear c21
         obtain ⟨y373, hy373⟩ : ∃ y_ : List ByteArray, y_ = (x9_2.set (x10_2 : Int).toNat x0_2) := ⟨_, rfl⟩
         replace H : (if 0 ≤ (wrap64 (x10_2 + 1)) then (if (wrap64 (x10_2 + 1)) ≤ (x9_2.length : Int) then (some (y373.take ((wrap64 (x10_2 + 1)) : Int).toNat)) else (none)) else (none)) = some r := by first | (rw [hy373]; with_reducible exact H) | (have H2_ := (Option.bind_some _ _).symm.trans H; rw [hy373]; with_reducible exact H2_) | (have H2_ := (Option.bind_some _ _).symm.trans H; with_reducible exact H2_) | with_reducible exact H | (rw [hy373]; exact H) | exact H
         have Ny373 := Aside0.mk hy373
         clear hy373
         obtain ⟨ji23, hji23⟩ : ∃ j_ : Int, (wrap64 (x10_2 + 1)) = j_ := ⟨_, rfl⟩
         replace H : (if 0 ≤ (ji23) then (if (ji23) ≤ (x9_2.length : Int) then (some (y373.take ((ji23) : Int).toNat)) else (none)) else (none)) = some r := by first | (rw [hji23] at H; exact H) | (simp only [hji23] at H ⊢; exact H)
         (try rw [hji23] at A18)
         have hji23w : (IntKind.i64.wrap (x10_2 + 1)) = ji23 := (i64_w _).trans hji23
         obtain ⟨c24, H⟩ := ifn H
         have c24b0 := eq_true c24
         have c24b1 : decide (0 ≤ (ji23)) = true := decide_eq_true c24
         clear c24
         obtain ⟨c25, H⟩ := ifn H
         have c25b0 := eq_true c25
         have c25b1 : decide ((ji23) ≤ (x9_2.length : Int)) = true := decide_eq_true c25
         clear c25
         obtain ⟨y374, hy374⟩ : ∃ y_ : List ByteArray, y_ = (y373.take ((ji23) : Int).toNat) := ⟨_, rfl⟩
         replace H : (some y374) = some r := by first | (rw [hy374]; with_reducible exact H) | (have H2_ := (Option.bind_some _ _).symm.trans H; rw [hy374]; with_reducible exact H2_) | (have H2_ := (Option.bind_some _ _).symm.trans H; with_reducible exact H2_) | with_reducible exact H | (rw [hy374]; exact H) | exact H
         have Ny374 := Aside0.mk hy374
         clear hy374
         obtain rfl := Option.some.inj H
         go_wp2_with (first | ((with_reducible refine gate_callee (f := 203) rfl ?_); refine goesL_ (some 39) rfl rfl Tryz.func203 KR rfl #[.string x0_2, .string a1] rfl TA ?_; (with_reducible refine (strings_Index.calls x0_2 a1 t372 _ A18.out).mono ?_); rintro e w' ⟨rfl, ⟨nd, rfl⟩⟩; refine ⟨_, rfl, ?_⟩; (try (rw [drewN_self wr]; generalize hq_ : World.drewN wr _ = wr; have n0_ : Aside0 (Kd.R Kd.string 9 wr w.heap.size (fun _ => True) v370 x9_2) := ⟨by rw [← hq_]; exact (RW HO_9).out⟩; have n1_ : Aside0 (Below w.heap.size w wr) := ⟨by rw [← hq_]; exact TB⟩; clear HO_9 HB hq_; have HO_9 := n0_; have HB := n1_; clear n0_ n1_)); have p22 : 0 ≤ (x10_2 : Int) := TD; have q22 : (x10_2 : Int) < ((x9_2.length : Int) : Int) := TD; obtain ⟨go22, co22, eo22, gb22, gl22, cl22, HG22⟩ := Kd.R_form HO_9.out (by omega); (first | cases eo22 | (injection eo22 with ea_ en_ ec_; (first | subst ea_ | (injection ea_ with ea_; subst ea_)); subst ec_; clear en_)); have GB22 := Aside0.mk gb22; have GG22 := Aside0.mk HG22; clear gb22 gl22 HG22; obtain ⟨hx22_0, hf22_0⟩ := Kd.R_celln (⟨#[]⟩ : ByteArray) HO_9.out (x10_2 : Int) p22 q22; replace p22 := eq_true p22; replace q22 := eq_true q22; obtain ⟨hy26_, hz26_⟩ := Kd.R_celln (⟨#[]⟩ : ByteArray) HO_9.out (x10_2 : Int) TD TD; have HP26 := Kd.R_putg HO_9.out (x10_2 : Int) x0_2) | ((with_reducible refine gate_store (t := 9) (p := 61) rfl ?_); refine store_event (t := 9) (p := 61) (v := ?vo_w27) (w1 := (wr.setCell ⟨go22, (x10_2 : Int).toNat, none⟩ (.string x0_2))) ?hg ?ho ?hn ?hr ?_; (case ho => rfl); (case hg => rfl); (case hn => rfl); (case hr => first | (go_simp; done) | (go_simp; rfl)); intro w27 hw; have hg : wr.grownBy w27 (some go22) := (by rw [hw]; exact HP26.2); have hp_ : Kd.R Kd.string 9 w27 w.heap.size (fun _ => True) (.slice (some ⟨go22, 0, none⟩) x9_2.length co22) y373 := (by rw [hw, Ny373.out]; exact HP26.1); clear HP26; replace HO_9 := Aside0.mk (hp_); replace HB := Aside0.mk ((by rw [hw]; exact below_set (HB.out) GB22.out : Below w.heap.size w w27)); clear hg hw hp_; have q28 : ((ji23) : Int) ≤ ((x9_2.length : Int) : Int) := TD; obtain ⟨i028, hi028, _, hsz28, _⟩ := info_parts info9; have hcut28 := cut_to (P := Tryz.prog) 104 9 .i64 Tryz.underlying104 hi028 (some ⟨go22, 0, none⟩) x9_2.length co22 (ji23) TD q28 (Kd.R_reads' HO_9.out).2.1; have hr28 := Kd.R_take (m := ((ji23) : Int).toNat) HO_9.out (by have hle_ := (Kd.R_reads' HO_9.out).1; omega); have hy28 : y374.length = ((ji23) : Int).toNat := (by rw [Ny374.out, List.length_take]; have hle_ := (Kd.R_reads' HO_9.out).1; omega); rw [← Ny374.out] at hr28; rw [← hy28] at hr28 hcut28; clear hy28 hi028 hsz28 HO_9; have HO376 := Aside0.mk hr28; clear hr28; replace q28 := eq_true q28))
         go_ret
         exact ⟨_, by first | rfl | (simp [errW_none, errW_some] <;> rfl) | (simp only [← hji12, ← hji23]; first | rfl | (simp [errW_none, errW_some] <;> rfl)) | (simp [*, errW_none, errW_some] <;> rfl) | (simp [errW_none, errW_some]; rw [Bool.eq_iff_iff]; simp), (RW HO376).out, TB⟩
        ·rw [if_neg c19] at H
         have c19b0 : decide (t372 < 0) = false := decide_eq_false c19
         clear c19
         obtain ⟨ji29, hji29⟩ : ∃ j_ : Int, (wrap64 (t372 + a2)) = j_ := ⟨_, rfl⟩
         replace H : (if 0 ≤ (ji29) then (if (ji29) ≤ (x0_2.size : Int) then (if 0 ≤ x10_2 then (if x10_2 < (x9_2.length : Int) then (if 0 ≤ (wrap64 (t372 + (a1.size : Int))) then (if (wrap64 (t372 + (a1.size : Int))) ≤ (x0_2.size : Int) then (strings_genSplit.l0 k2 (x0_2.extract ((wrap64 (t372 + (a1.size : Int))) : Int).toNat x0_2.size) a1 a2 (wrap64 ((ji12) - 1)) (x9_2.set (x10_2 : Int).toNat (x0_2.extract 0 ((ji29) : Int).toNat)) (wrap64 (x10_2 + 1))) else (none)) else (none)) else (none)) else (none)) else (none)) else (none)) = some r := by first | (rw [hji29] at H; exact H) | (simp only [hji29] at H ⊢; exact H)
         (try rw [hji29] at A18)
         have hji29w : (IntKind.i64.wrap (t372 + a2)) = ji29 := (i64_w _).trans hji29
         obtain ⟨c30, H⟩ := ifn H
         have c30b0 := eq_true c30
         have c30b1 : decide (0 ≤ (ji29)) = true := decide_eq_true c30
         clear c30
         obtain ⟨c31, H⟩ := ifn H
         have c31b0 := eq_true c31
         have c31b1 : decide ((ji29) ≤ (x0_2.size : Int)) = true := decide_eq_true c31
         clear c31
         obtain ⟨c32, H⟩ := ifn H
         have c32b0 : decide (0 ≤ x10_2) = true := decide_eq_true c32
         clear c32
         obtain ⟨c33, H⟩ := ifn H
         have c33b0 : decide (x10_2 < (x9_2.length : Int)) = true := decide_eq_true c33
         clear c33
         obtain ⟨y377, hy377⟩ : ∃ y_ : List ByteArray, y_ = (x9_2.set (x10_2 : Int).toNat (x0_2.extract 0 ((ji29) : Int).toNat)) := ⟨_, rfl⟩
         replace H : (if 0 ≤ (wrap64 (t372 + (a1.size : Int))) then (if (wrap64 (t372 + (a1.size : Int))) ≤ (x0_2.size : Int) then (strings_genSplit.l0 k2 (x0_2.extract ((wrap64 (t372 + (a1.size : Int))) : Int).toNat x0_2.size) a1 a2 (wrap64 ((ji12) - 1)) y377 (wrap64 (x10_2 + 1))) else (none)) else (none)) = some r := by first | (rw [hy377]; with_reducible exact H) | (have H2_ := (Option.bind_some _ _).symm.trans H; rw [hy377]; with_reducible exact H2_) | (have H2_ := (Option.bind_some _ _).symm.trans H; with_reducible exact H2_) | with_reducible exact H | (rw [hy377]; exact H) | exact H
         have Ny377 := Aside0.mk hy377
         clear hy377
         obtain ⟨ji35, hji35⟩ : ∃ j_ : Int, (wrap64 (t372 + (a1.size : Int))) = j_ := ⟨_, rfl⟩
         replace H : (if 0 ≤ (ji35) then (if (ji35) ≤ (x0_2.size : Int) then (strings_genSplit.l0 k2 (x0_2.extract ((ji35) : Int).toNat x0_2.size) a1 a2 (wrap64 ((ji12) - 1)) y377 (wrap64 (x10_2 + 1))) else (none)) else (none)) = some r := by first | (rw [hji35] at H; exact H) | (simp only [hji35] at H ⊢; exact H)
         (try rw [hji35] at A18)
         have hji35w : (IntKind.i64.wrap (t372 + (a1.size : Int))) = ji35 := (i64_w _).trans hji35
         obtain ⟨c36, H⟩ := ifn H
         have c36b0 := eq_true c36
         have c36b1 : decide (0 ≤ (ji35)) = true := decide_eq_true c36
         clear c36
         obtain ⟨c37, H⟩ := ifn H
         have c37b0 := eq_true c37
         have c37b1 : decide ((ji35) ≤ (x0_2.size : Int)) = true := decide_eq_true c37
         clear c37
         have H' := Aside0.mk H
         clear H
         go_wp2_with (first | ((with_reducible refine gate_callee (f := 203) rfl ?_); refine goesL_ (some 39) rfl rfl Tryz.func203 KR rfl #[.string x0_2, .string a1] rfl TA ?_; (with_reducible refine (strings_Index.calls x0_2 a1 t372 _ A18.out).mono ?_); rintro e w' ⟨rfl, ⟨nd, rfl⟩⟩; refine ⟨_, rfl, ?_⟩; (try (rw [drewN_self wr]; generalize hq_ : World.drewN wr _ = wr; have n0_ : Aside0 (Kd.R Kd.string 9 wr w.heap.size (fun _ => True) v370 x9_2) := ⟨by rw [← hq_]; exact (RW HO_9).out⟩; have n1_ : Aside0 (Below w.heap.size w wr) := ⟨by rw [← hq_]; exact TB⟩; clear HO_9 HB hq_; have HO_9 := n0_; have HB := n1_; clear n0_ n1_)); have p34 : 0 ≤ (x10_2 : Int) := TD; have q34 : (x10_2 : Int) < ((x9_2.length : Int) : Int) := TD; obtain ⟨go34, co34, eo34, gb34, gl34, cl34, HG34⟩ := Kd.R_form HO_9.out (by omega); (first | cases eo34 | (injection eo34 with ea_ en_ ec_; (first | subst ea_ | (injection ea_ with ea_; subst ea_)); subst ec_; clear en_)); have GB34 := Aside0.mk gb34; have GG34 := Aside0.mk HG34; clear gb34 gl34 HG34; obtain ⟨hx34_0, hf34_0⟩ := Kd.R_celln (⟨#[]⟩ : ByteArray) HO_9.out (x10_2 : Int) p34 q34; replace p34 := eq_true p34; replace q34 := eq_true q34; obtain ⟨hy38_, hz38_⟩ := Kd.R_celln (⟨#[]⟩ : ByteArray) HO_9.out (x10_2 : Int) TD TD; have HP38 := Kd.R_putg HO_9.out (x10_2 : Int) (x0_2.extract 0 ((ji29) : Int).toNat)) | ((with_reducible refine gate_store (t := 9) (p := 49) rfl ?_); refine store_event (t := 9) (p := 49) (v := ?vo_w39) (w1 := (wr.setCell ⟨go34, (x10_2 : Int).toNat, none⟩ (.string (x0_2.extract 0 ((ji29) : Int).toNat)))) ?hg ?ho ?hn ?hr ?_; (case ho => rfl); (case hg => rfl); (case hn => rfl); (case hr => first | (go_simp; done) | (go_simp; rfl)); intro w39 hw; have hg : wr.grownBy w39 (some go34) := (by rw [hw]; exact HP38.2); have hp_ : Kd.R Kd.string 9 w39 w.heap.size (fun _ => True) (.slice (some ⟨go34, 0, none⟩) x9_2.length co34) y377 := (by rw [hw, Ny377.out]; exact HP38.1); clear HP38; replace HO_9 := Aside0.mk (hp_); replace HB := Aside0.mk ((by rw [hw]; exact below_set (HB.out) GB34.out : Below w.heap.size w w39)); clear hg hw hp_))
         go_roundg k2
         case measure => have := HJ8.out; have := HK2.out; omega
         case rel => exact ⟨(x0_2.extract ((ji35) : Int).toNat x0_2.size), (y377), (wrap64 (x10_2 + 1)), (by first | rfl | (simp; done) | (simp only [← hji35] <;> (first | rfl | simp)) | (simp [*]; done)), TF, H', ⟨by have := HJ8.out; have := HK2.out; omega⟩, RW HO_9, ⟨TB⟩⟩
       ·rw [if_neg c17] at H
        have c17b0 : decide (x10_2 < (wrap64 ((ji12) - 1))) = false := decide_eq_false c17
        clear c17
        obtain ⟨c40, H⟩ := ifn H
        have c40b0 : decide (0 ≤ x10_2) = true := decide_eq_true c40
        clear c40
        obtain ⟨c41, H⟩ := ifn H
        have c41b0 : decide (x10_2 < (x9_2.length : Int)) = true := decide_eq_true c41
        clear c41
        obtain ⟨y378, hy378⟩ : ∃ y_ : List ByteArray, y_ = (x9_2.set (x10_2 : Int).toNat x0_2) := ⟨_, rfl⟩
        replace H : (if 0 ≤ (wrap64 (x10_2 + 1)) then (if (wrap64 (x10_2 + 1)) ≤ (x9_2.length : Int) then (some (y378.take ((wrap64 (x10_2 + 1)) : Int).toNat)) else (none)) else (none)) = some r := by first | (rw [hy378]; with_reducible exact H) | (have H2_ := (Option.bind_some _ _).symm.trans H; rw [hy378]; with_reducible exact H2_) | (have H2_ := (Option.bind_some _ _).symm.trans H; with_reducible exact H2_) | with_reducible exact H | (rw [hy378]; exact H) | exact H
        have Ny378 := Aside0.mk hy378
        clear hy378
        obtain ⟨ji43, hji43⟩ : ∃ j_ : Int, (wrap64 (x10_2 + 1)) = j_ := ⟨_, rfl⟩
        replace H : (if 0 ≤ (ji43) then (if (ji43) ≤ (x9_2.length : Int) then (some (y378.take ((ji43) : Int).toNat)) else (none)) else (none)) = some r := by first | (rw [hji43] at H; exact H) | (simp only [hji43] at H ⊢; exact H)
        have hji43w : (IntKind.i64.wrap (x10_2 + 1)) = ji43 := (i64_w _).trans hji43
        obtain ⟨c44, H⟩ := ifn H
        have c44b0 := eq_true c44
        have c44b1 : decide (0 ≤ (ji43)) = true := decide_eq_true c44
        clear c44
        obtain ⟨c45, H⟩ := ifn H
        have c45b0 := eq_true c45
        have c45b1 : decide ((ji43) ≤ (x9_2.length : Int)) = true := decide_eq_true c45
        clear c45
        obtain ⟨y379, hy379⟩ : ∃ y_ : List ByteArray, y_ = (y378.take ((ji43) : Int).toNat) := ⟨_, rfl⟩
        replace H : (some y379) = some r := by first | (rw [hy379]; with_reducible exact H) | (have H2_ := (Option.bind_some _ _).symm.trans H; rw [hy379]; with_reducible exact H2_) | (have H2_ := (Option.bind_some _ _).symm.trans H; with_reducible exact H2_) | with_reducible exact H | (rw [hy379]; exact H) | exact H
        have Ny379 := Aside0.mk hy379
        clear hy379
        obtain rfl := Option.some.inj H
        have p42 : 0 ≤ (x10_2 : Int) := TD
        have q42 : (x10_2 : Int) < ((x9_2.length : Int) : Int) := TD
        obtain ⟨go42, co42, eo42, gb42, gl42, cl42, HG42⟩ := Kd.R_form HO_9.out (by omega)
        (first | cases eo42 | (injection eo42 with ea_ en_ ec_; (first | subst ea_ | (injection ea_ with ea_; subst ea_)); subst ec_; clear en_))
        have GB42 := Aside0.mk gb42
        have GG42 := Aside0.mk HG42
        clear gb42 gl42 HG42
        obtain ⟨hx42_0, hf42_0⟩ := Kd.R_celln (⟨#[]⟩ : ByteArray) HO_9.out (x10_2 : Int) p42 q42
        replace p42 := eq_true p42
        replace q42 := eq_true q42
        have HP46 := Kd.R_putg HO_9.out (x10_2 : Int) x0_2
        go_wp2_with (first | ((with_reducible refine gate_store (t := 9) (p := 61) rfl ?_); refine store_event (t := 9) (p := 61) (v := ?vo_w47) (w1 := (wr.setCell ⟨go42, (x10_2 : Int).toNat, none⟩ (.string x0_2))) ?hg ?ho ?hn ?hr ?_; (case ho => rfl); (case hg => rfl); (case hn => rfl); (case hr => first | (go_simp; done) | (go_simp; rfl)); intro w47 hw; have hg : wr.grownBy w47 (some go42) := (by rw [hw]; exact HP46.2); have hp_ : Kd.R Kd.string 9 w47 w.heap.size (fun _ => True) (.slice (some ⟨go42, 0, none⟩) x9_2.length co42) y378 := (by rw [hw, Ny378.out]; exact HP46.1); clear HP46; replace HO_9 := Aside0.mk (hp_); replace HB := Aside0.mk ((by rw [hw]; exact below_set (HB.out) GB42.out : Below w.heap.size w w47)); clear hg hw hp_; have q48 : ((ji43) : Int) ≤ ((x9_2.length : Int) : Int) := TD; obtain ⟨i048, hi048, _, hsz48, _⟩ := info_parts info9; have hcut48 := cut_to (P := Tryz.prog) 104 9 .i64 Tryz.underlying104 hi048 (some ⟨go42, 0, none⟩) x9_2.length co42 (ji43) TD q48 (Kd.R_reads' HO_9.out).2.1; have hr48 := Kd.R_take (m := ((ji43) : Int).toNat) HO_9.out (by have hle_ := (Kd.R_reads' HO_9.out).1; omega); have hy48 : y379.length = ((ji43) : Int).toNat := (by rw [Ny379.out, List.length_take]; have hle_ := (Kd.R_reads' HO_9.out).1; omega); rw [← Ny379.out] at hr48; rw [← hy48] at hr48 hcut48; clear hy48 hi048 hsz48 HO_9; have HO381 := Aside0.mk hr48; clear hr48; replace q48 := eq_true q48))
        go_ret
        exact ⟨_, by first | rfl | (simp [errW_none, errW_some] <;> rfl) | (simp only [← hji12, ← hji43]; first | rfl | (simp [errW_none, errW_some] <;> rfl)) | (simp [*, errW_none, errW_some] <;> rfl) | (simp [errW_none, errW_some]; rw [Bool.eq_iff_iff]; simp), (RW HO381).out, TB⟩
end
section
/-! ### strings_Split: function 155 -/
def strings_Split.f (k : Nat) (a0 : ByteArray) (a1 : ByteArray) : Option (List ByteArray) := (strings_genSplit.f k a0 a1 0 (-1)).bind fun t382 => (some t382)
theorem strings_Split.calls (k : Nat) (a0 : ByteArray) (a1 : ByteArray) (r : List ByteArray) (w : World) (h : strings_Split.f k a0 a1 = some r) :
  Calls Tryz.prog 155 #[.string a0, .string a1] w fun e w' => ∃ v0_ : Value, e = .returned (v0_) ∧ Kd.R Kd.string 9 w' w.heap.size (fun _ => True) v0_ r ∧ Below w.heap.size w w' := by
 have HB := Aside0.mk (Below.refl w.heap.size w)
 have H : ((strings_genSplit.f k a0 a1 0 (-1)).bind fun t382 => (some t382)) = some r := h
 clear h
 obtain ⟨t382, A3, H⟩ := bnd H
 obtain rfl := Option.some.inj H
 go_enter Tryz.func155, Tryz.ntmps155
 go_wp2_with (first | ((with_reducible refine gate_callee (f := 180) rfl ?_); refine goesL_ (some 7) rfl rfl Tryz.func180 KR rfl #[.string a0, .string a1, .int .i64 0, .int .i64 (-1)] rfl TA ?_; (with_reducible refine (strings_genSplit.calls k a0 a1 0 (-1) t382 _ A3.out).mono ?_); rintro e w4 ⟨v383, rfl, ho0, hb⟩; refine ⟨_, rfl, ?_⟩; have HO384 := RL ho0; replace HB := BS hb; (try clear hb); (try clear hb2); (try clear hk); (try clear hi); (try clear ho0)))
 go_ret
 exact ⟨_, TE, (RW HO384).out, TB⟩
end
section
/-! ### impl_labelsOf: function 114 -/
def impl_labelsOf.f (k : Nat) (a0 : ByteArray) : Option (List ByteArray) := if a0.toList = ([] : List UInt8) then (some ([] : List ByteArray)) else ((strings_Split.f k a0 (⟨#[46]⟩ : ByteArray)).bind fun t385 => (some t385))
theorem impl_labelsOf.calls (k : Nat) (a0 : ByteArray) (r : List ByteArray) (w : World) (h : impl_labelsOf.f k a0 = some r) :
  Calls Tryz.prog 114 #[.string a0] w fun e w' => ∃ v0_ : Value, e = .returned (v0_) ∧ Kd.R Kd.string 9 w' w.heap.size (fun _ => True) v0_ r ∧ Below w.heap.size w w' := by
 have HB := Aside0.mk (Below.refl w.heap.size w)
 have H : (if a0.toList = ([] : List UInt8) then (some ([] : List ByteArray)) else ((strings_Split.f k a0 (⟨#[46]⟩ : ByteArray)).bind fun t385 => (some t385))) = some r := h
 clear h
 by_cases c2 : a0.toList = ([] : List UInt8)
 ·rw [if_pos c2] at H
  have c2b0 : (a0.toList == ([] : List UInt8)) = true := beq_iff_eq.mpr c2
  have c2b1 : (a0.toList != ([] : List UInt8)) = false := bne_eq_false_iff_eq.mpr c2
  clear c2
  obtain rfl := Option.some.inj H
  go_enter Tryz.func114, Tryz.ntmps114
  go_wp2
  go_ret
  exact ⟨_, by first | rfl | (simp [errW_none, errW_some] <;> rfl) | (simp [*, errW_none, errW_some] <;> rfl) | (simp [errW_none, errW_some]; rw [Bool.eq_iff_iff]; simp), TZ, TB⟩
 ·rw [if_neg c2] at H
  have c2b0 : (a0.toList == ([] : List UInt8)) = false := beq_eq_false_iff_ne.mpr c2
  have c2b1 : (a0.toList != ([] : List UInt8)) = true := bne_iff_ne.mpr c2
  obtain ⟨t385, A3, H⟩ := bnd H
  obtain rfl := Option.some.inj H
  go_enter Tryz.func114, Tryz.ntmps114
  go_wp2_with (first | ((with_reducible refine gate_callee (f := 155) rfl ?_); refine goesL_ (some 6) rfl rfl Tryz.func155 KR rfl #[.string a0, .string (⟨#[46]⟩ : ByteArray)] rfl TA ?_; (with_reducible refine (strings_Split.calls k a0 (⟨#[46]⟩ : ByteArray) t385 _ A3.out).mono ?_); rintro e w4 ⟨v386, rfl, ho0, hb⟩; refine ⟨_, rfl, ?_⟩; have HO387 := RL ho0; replace HB := BS hb; (try clear hb); (try clear hb2); (try clear hk); (try clear hi); (try clear ho0)))
  go_ret
  exact ⟨_, by first | rfl | (simp [errW_none, errW_some] <;> rfl) | (simp [*, errW_none, errW_some] <;> rfl) | (simp [errW_none, errW_some]; rw [Bool.eq_iff_iff]; simp), (RW HO387).out, TB⟩
end
section
/-! ### impl_within: function 69 -/
def impl_within.f (a0 : Int) (a1 : Int) (a2 : Int) : Option (Bool) := if a0 ≥ a1 then (some (decide (a0 ≤ a2))) else (some false)
theorem impl_within.calls (a0 : Int) (a1 : Int) (a2 : Int) (r : Bool) (w : World) (h : impl_within.f a0 a1 a2 = some r) :
  Calls Tryz.prog 69 #[.int .i64 a0, .int .i64 a1, .int .i64 a2] w fun e w' => e = .returned (.bool r) ∧ Drawn0 w w' := by
 have H : (if a0 ≥ a1 then (some (decide (a0 ≤ a2))) else (some false)) = some r := h
 clear h
 by_cases c4 : a0 ≥ a1
 ·rw [if_pos c4] at H
  have c4b0 : decide (a1 ≤ a0) = true := decide_eq_true c4
  clear c4
  obtain rfl := Option.some.inj H
  go_enter Tryz.func69, Tryz.ntmps69
  go_wp2
  go_ret
  exact ⟨TF, TN⟩
 ·rw [if_neg c4] at H
  have c4b0 : decide (a1 ≤ a0) = false := decide_eq_false c4
  clear c4
  obtain rfl := Option.some.inj H
  go_enter Tryz.func69, Tryz.ntmps69
  go_wp2
  go_ret
  exact ⟨TF, TN⟩
end
section
/-! ### strings_Trim: function 157 -/
def strings_Trim.f (a0 : ByteArray) (a1 : ByteArray) : Option (ByteArray) := if a0.size ≤ 9223372036854775807 ∧ a1.size < 4294967281 ∧ a1.data.toList.all (fun b => decide (b.toNat < 128)) = true then some ⟨(Go.Lib.trimS a0.data.toList a1.data.toList).toArray⟩ else none
theorem strings_Trim.calls (a0 : ByteArray) (a1 : ByteArray) (r : ByteArray) (w : World) (h : strings_Trim.f a0 a1 = some r) :
  Calls Tryz.prog 157 #[.string a0, .string a1] w fun e w' => e = .returned (.string r) ∧ Below w.heap.size w w' := by
 unfold strings_Trim.f at h
 split at h
 ·rename_i h1
  obtain rfl := Option.some.inj h
  exact (Go.Proofs.Any.strings_Trim_laid Go.Proofs.Tryz.lays160 KR a0 a1 w h1.1 h1.2.1 (Go.Proofs.ascii_of_all h1.2.2)).mono fun e w' hh => hh
 ·cases h
end
section
/-! ### impl_isLabel: function 117 -/
def impl_isLabel.f (a0 : ByteArray) : Option (Bool) := if a0.toList = ([42] : List UInt8) then (some true) else ((impl_within.f (a0.size : Int) 1 20).bind fun t388 => (if t388 = true then ((strings_Trim.f a0 (⟨#[97, 98, 99, 100, 101, 102, 103, 104, 105, 106, 107, 108, 109, 110, 111, 112, 113, 114, 115, 116, 117, 118, 119, 120, 121, 122, 48, 49, 50, 51, 52, 53, 54, 55, 56, 57, 45, 95]⟩ : ByteArray)).bind fun t389 => (some (t389.toList == ([] : List UInt8)))) else (some false)))
theorem impl_isLabel.calls (a0 : ByteArray) (r : Bool) (w : World) (h : impl_isLabel.f a0 = some r) :
  Calls Tryz.prog 117 #[.string a0] w fun e w' => e = .returned (.bool r) ∧ Below w.heap.size w w' := by
 have HB := Aside0.mk (Below.refl w.heap.size w)
 have H : (if a0.toList = ([42] : List UInt8) then (some true) else ((impl_within.f (a0.size : Int) 1 20).bind fun t388 => (if t388 = true then ((strings_Trim.f a0 (⟨#[97, 98, 99, 100, 101, 102, 103, 104, 105, 106, 107, 108, 109, 110, 111, 112, 113, 114, 115, 116, 117, 118, 119, 120, 121, 122, 48, 49, 50, 51, 52, 53, 54, 55, 56, 57, 45, 95]⟩ : ByteArray)).bind fun t389 => (some (t389.toList == ([] : List UInt8)))) else (some false)))) = some r := h
 clear h
 by_cases c2 : a0.toList = ([42] : List UInt8)
 ·rw [if_pos c2] at H
  have c2b0 : (a0.toList == ([42] : List UInt8)) = true := beq_iff_eq.mpr c2
  have c2b1 : (a0.toList != ([42] : List UInt8)) = false := bne_eq_false_iff_eq.mpr c2
  clear c2
  obtain rfl := Option.some.inj H
  go_enter Tryz.func117, Tryz.ntmps117
  go_wp2
  go_ret
  exact ⟨by first | rfl | (simp [errW_none, errW_some] <;> rfl) | (simp [*, errW_none, errW_some] <;> rfl) | (simp [errW_none, errW_some]; rw [Bool.eq_iff_iff]; simp), TB⟩
 ·rw [if_neg c2] at H
  have c2b0 : (a0.toList == ([42] : List UInt8)) = false := beq_eq_false_iff_ne.mpr c2
  have c2b1 : (a0.toList != ([42] : List UInt8)) = true := bne_iff_ne.mpr c2
  obtain ⟨t388, A3, H⟩ := bnd H
  by_cases c4 : t388 = true
  ·subst c4
   replace H := ift H
   obtain ⟨t389, A5, H⟩ := bnd H
   obtain rfl := Option.some.inj H
   go_enter Tryz.func117, Tryz.ntmps117
   go_wp2_with (first | ((with_reducible refine gate_callee (f := 69) rfl ?_); refine goesL_ (some 7) rfl rfl Tryz.func69 KR rfl #[.int .i64 (a0.size : Int), .int .i64 1, .int .i64 20] rfl TA ?_; (with_reducible refine (impl_within.calls (a0.size : Int) 1 20 true _ A3.out).mono ?_); rintro e w' ⟨rfl, ⟨nd, rfl⟩⟩; refine ⟨_, rfl, ?_⟩) | (go_at_call 157; (with_reducible refine (strings_Trim.calls a0 (⟨#[97, 98, 99, 100, 101, 102, 103, 104, 105, 106, 107, 108, 109, 110, 111, 112, 113, 114, 115, 116, 117, 118, 119, 120, 121, 122, 48, 49, 50, 51, 52, 53, 54, 55, 56, 57, 45, 95]⟩ : ByteArray) t389 _ A5.out).mono ?_); rintro e w6 ⟨rfl, hb⟩; replace HB := BS hb; (try clear hb); (try clear hb2); (try clear hk); (try clear hi)))
   go_ret
   exact ⟨by first | rfl | (simp [errW_none, errW_some] <;> rfl) | (simp [*, errW_none, errW_some] <;> rfl) | (simp [errW_none, errW_some]; rw [Bool.eq_iff_iff]; simp), TB⟩
  ·replace c4 := Bool.eq_false_iff.mpr c4
   subst c4
   replace H := iff' H
   obtain rfl := Option.some.inj H
   go_enter Tryz.func117, Tryz.ntmps117
   go_wp2_with (first | ((with_reducible refine gate_callee (f := 69) rfl ?_); refine goesL_ (some 7) rfl rfl Tryz.func69 KR rfl #[.int .i64 (a0.size : Int), .int .i64 1, .int .i64 20] rfl TA ?_; (with_reducible refine (impl_within.calls (a0.size : Int) 1 20 false _ A3.out).mono ?_); rintro e w' ⟨rfl, ⟨nd, rfl⟩⟩; refine ⟨_, rfl, ?_⟩))
   go_ret
   exact ⟨by first | rfl | (simp [errW_none, errW_some] <;> rfl) | (simp [*, errW_none, errW_some] <;> rfl) | (simp [errW_none, errW_some]; rw [Bool.eq_iff_iff]; simp), TB⟩
end
section
/-! ### impl_GoodName_1: function 116 -/
def impl_GoodName_1.f (a0 : ByteArray) : Option (Bool) := (impl_isLabel.f a0).bind fun t390 => (some (!t390))
theorem impl_GoodName_1.calls (a0 : ByteArray) (r : Bool) (w : World) (h : impl_GoodName_1.f a0 = some r) :
  Calls Tryz.prog 116 #[.string a0] w fun e w' => e = .returned (.bool r) ∧ Below w.heap.size w w' := by
 have HB := Aside0.mk (Below.refl w.heap.size w)
 have H : ((impl_isLabel.f a0).bind fun t390 => (some (!t390))) = some r := h
 clear h
 obtain ⟨t390, A2, H⟩ := bnd H
 obtain rfl := Option.some.inj H
 go_enter Tryz.func116, Tryz.ntmps116
 go_wp2_with (first | ((with_reducible refine gate_callee (f := 117) rfl ?_); refine goesL_ (some 4) rfl rfl Tryz.func117 KR rfl #[.string a0] rfl TA ?_; (with_reducible refine (impl_isLabel.calls a0 t390 _ A2.out).mono ?_); rintro e w3 ⟨rfl, hb⟩; refine ⟨_, rfl, ?_⟩; replace HB := BS hb; (try clear hb); (try clear hb2); (try clear hk); (try clear hi)))
 go_ret
 exact ⟨TE, TB⟩
end
section
/-! ### slices_IndexFunc_string_string_GoodName_1: function 156 -/
def slices_IndexFunc_string_string_GoodName_1.l0 : Nat → List ByteArray → Int → Int → Option (Int)
 | 0, _, _, _ => none
 | k + 1, x0, x7, x8 => if x8 < x7 then (if 0 ≤ x8 then (if x8 < (x0.length : Int) then ((impl_GoodName_1.f (rdOf ByteArray.empty x0 x8)).bind fun t392 => (if t392 = true then (some x8) else (slices_IndexFunc_string_string_GoodName_1.l0 k x0 x7 (wrap64 (x8 + 1))))) else (none)) else (none)) else (some (-1))
def slices_IndexFunc_string_string_GoodName_1.f (k : Nat) (l0 : List ByteArray)  : Option (Int) := slices_IndexFunc_string_string_GoodName_1.l0 k l0 (l0.length : Int) 0
theorem slices_IndexFunc_string_string_GoodName_1.calls (k : Nat) (A0 : Option Addr) (c0 : Nat) (l0 : List ByteArray)  (r : Int) (w : World) (hr0 : Kd.C Kd.string w A0 l0.length l0) (hc0 : l0.length ≤ c0) (h : slices_IndexFunc_string_string_GoodName_1.f k l0 = some r) :
  Calls Tryz.prog 156 #[.slice A0 l0.length c0, .func (.func 116) #[] #[]] w fun e w' => e = .returned (.int .i64 r) ∧ Below w.heap.size w w' := by
 have HR0 := Aside0.mk hr0
 have HC0 := Aside0.mk hc0
 clear hr0 hc0
 have HB := Aside0.mk (Below.refl w.heap.size w)
 have H : (slices_IndexFunc_string_string_GoodName_1.l0 k l0 (l0.length : Int) 0) = some r := h
 clear h
 have H' := Aside0.mk H
 clear H
 go_enter Tryz.func156, Tryz.ntmps156
 go_wp2
 go_loopg [8] k (fun kq v8 w' => ∃ (x8_1 : Int), v8 = .int .i64 x8_1 ∧ Aside0 (slices_IndexFunc_string_string_GoodName_1.l0 kq l0 (l0.length : Int) x8_1 = some r) ∧ Aside0 (kq ≤ k) ∧ Aside0 (Below w.heap.size w w'))
 case atStart => exact ⟨(0), TF, H', ⟨Nat.le_refl _⟩, ⟨TB⟩⟩
 case round =>
  clear H'
  try clear c1
  try clear p2
  obtain ⟨x8_1, rfl, HA, HK1, HB⟩ := hrel
  cases gk with
  | zero => exact absurd HA.out (by simp [slices_IndexFunc_string_string_GoodName_1.l0])
  | succ k1 =>
   have H := HA.out
   clear HA
   simp only [slices_IndexFunc_string_string_GoodName_1.l0] at H
   by_cases c3 : x8_1 < (l0.length : Int)
   ·rw [if_pos c3] at H
    have c3b0 : decide (x8_1 < (l0.length : Int)) = true := decide_eq_true c3
    clear c3
    obtain ⟨c4, H⟩ := ifn H
    have c4b0 : decide (0 ≤ x8_1) = true := decide_eq_true c4
    clear c4
    obtain ⟨c5, H⟩ := ifn H
    have c5b0 : decide (x8_1 < (l0.length : Int)) = true := decide_eq_true c5
    clear c5
    obtain ⟨t392, A6, H⟩ := bnd H
    by_cases c7 : t392 = true
    ·subst c7
     replace H := ift H
     obtain rfl := Option.some.inj H
     have p391 : 0 ≤ (x8_1 : Int) := TD
     have q391 : x8_1 < (l0.length : Int) := TD
     obtain ⟨ad391, e391, hx391_0⟩ := Kd.at_string (Kd.C_below HR0.out HB.out) x8_1 p391 q391
     cases e391
     replace p391 := eq_true p391
     replace q391 := eq_true q391
     go_wp2_with (first | (go_at_call 116; (with_reducible refine (impl_GoodName_1.calls (rdOf ByteArray.empty l0 x8_1) true _ A6.out).mono ?_); rintro e w8 ⟨rfl, hb⟩; replace HB := BS hb; (try clear hb); (try clear hb2); (try clear hk); (try clear hi)))
     go_ret
     exact ⟨TE, TB⟩
    ·replace c7 := Bool.eq_false_iff.mpr c7
     subst c7
     replace H := iff' H
     have H' := Aside0.mk H
     clear H
     have p391 : 0 ≤ (x8_1 : Int) := TD
     have q391 : x8_1 < (l0.length : Int) := TD
     obtain ⟨ad391, e391, hx391_0⟩ := Kd.at_string (Kd.C_below HR0.out HB.out) x8_1 p391 q391
     cases e391
     replace p391 := eq_true p391
     replace q391 := eq_true q391
     go_wp2_with (first | (go_at_call 116; (with_reducible refine (impl_GoodName_1.calls (rdOf ByteArray.empty l0 x8_1) false _ A6.out).mono ?_); rintro e w9 ⟨rfl, hb⟩; replace HB := BS hb; (try clear hb); (try clear hb2); (try clear hk); (try clear hi)))
     go_roundg k1
     case measure => have := HK1.out; omega
     case rel => exact ⟨(wrap64 (x8_1 + 1)), TF, H', ⟨TM⟩, ⟨TB⟩⟩
   ·rw [if_neg c3] at H
    have c3b0 : decide (x8_1 < (l0.length : Int)) = false := decide_eq_false c3
    clear c3
    obtain rfl := Option.some.inj H
    go_wp2
    go_ret
    exact ⟨TE, TB⟩
end
section
/-! ### slices_ContainsFunc_string_string_GoodName_1: function 115 -/
def slices_ContainsFunc_string_string_GoodName_1.f (k : Nat) (l0 : List ByteArray)  : Option (Bool) := (slices_IndexFunc_string_string_GoodName_1.f k l0).bind fun t393 => (some (decide (t393 ≥ 0)))
theorem slices_ContainsFunc_string_string_GoodName_1.calls (k : Nat) (A0 : Option Addr) (c0 : Nat) (l0 : List ByteArray)  (r : Bool) (w : World) (hr0 : Kd.C Kd.string w A0 l0.length l0) (hc0 : l0.length ≤ c0) (h : slices_ContainsFunc_string_string_GoodName_1.f k l0 = some r) :
  Calls Tryz.prog 115 #[.slice A0 l0.length c0, .func (.func 116) #[] #[]] w fun e w' => e = .returned (.bool r) ∧ Below w.heap.size w w' := by
 have HR0 := Aside0.mk hr0
 have HC0 := Aside0.mk hc0
 clear hr0 hc0
 have HB := Aside0.mk (Below.refl w.heap.size w)
 have H : ((slices_IndexFunc_string_string_GoodName_1.f k l0).bind fun t393 => (some (decide (t393 ≥ 0)))) = some r := h
 clear h
 obtain ⟨t393, A3, H⟩ := bnd H
 obtain rfl := Option.some.inj H
 go_enter Tryz.func115, Tryz.ntmps115
 go_wp2_with (first | ((with_reducible refine gate_callee (f := 156) rfl ?_); refine goesL_ (some 7) rfl rfl Tryz.func156 KR rfl #[.slice A0 l0.length c0, .func (.func 116) #[] #[]] rfl TA ?_; (with_reducible refine (slices_IndexFunc_string_string_GoodName_1.calls k _ _ l0  t393 _ ?side1 ?side2 A3.out).mono ?_); (case side1 => exact CW (HR0.out)); (case side2 => exact HC0.out); rintro e w4 ⟨rfl, hb⟩; refine ⟨_, rfl, ?_⟩; replace HB := BS hb; (try clear hb); (try clear hb2); (try clear hk); (try clear hi)))
 go_ret
 exact ⟨TE, TB⟩
end
section
/-! ### impl_GoodName: function 62 -/
def impl_GoodName.f (k : Nat) (a0 : ByteArray) : Option (Bool) := if (a0.size : Int) > 60 then (some false) else ((impl_labelsOf.f k a0).bind fun t394 => (if (t394.length : Int) ≤ 8 then ((slices_ContainsFunc_string_string_GoodName_1.f k t394).bind fun t397 => (some (!t397))) else (some false)))
theorem impl_GoodName.calls (k : Nat) (a0 : ByteArray) (r : Bool) (w : World) (h : impl_GoodName.f k a0 = some r) :
  Calls Tryz.prog 62 #[.string a0] w fun e w' => e = .returned (.bool r) ∧ Below w.heap.size w w' := by
 have HB := Aside0.mk (Below.refl w.heap.size w)
 have H : (if (a0.size : Int) > 60 then (some false) else ((impl_labelsOf.f k a0).bind fun t394 => (if (t394.length : Int) ≤ 8 then ((slices_ContainsFunc_string_string_GoodName_1.f k t394).bind fun t397 => (some (!t397))) else (some false)))) = some r := h
 clear h
 by_cases c2 : (a0.size : Int) > 60
 ·rw [if_pos c2] at H
  have c2b0 : decide (60 < (a0.size : Int)) = true := decide_eq_true c2
  have c2b1 : decide (60 < a0.size) = true := decide_eq_true (by omega)
  clear c2
  obtain rfl := Option.some.inj H
  go_enter Tryz.func62, Tryz.ntmps62
  go_wp2
  go_ret
  exact ⟨TE, TB⟩
 ·rw [if_neg c2] at H
  have c2b0 : decide (60 < (a0.size : Int)) = false := decide_eq_false c2
  have c2b1 : decide (60 < a0.size) = false := decide_eq_false (by omega)
  clear c2
  obtain ⟨t394, A3, H⟩ := bnd H
  by_cases c4 : (t394.length : Int) ≤ 8
  ·rw [if_pos c4] at H
   have c4b0 : decide ((t394.length : Int) ≤ 8) = true := decide_eq_true c4
   have c4b1 : decide (t394.length ≤ 8) = true := decide_eq_true (by omega)
   clear c4
   obtain ⟨t397, A5, H⟩ := bnd H
   obtain rfl := Option.some.inj H
   go_enter Tryz.func62, Tryz.ntmps62
   go_wp2_with (first | ((with_reducible refine gate_callee (f := 114) rfl ?_); refine goesL_ (some 8) rfl rfl Tryz.func114 KR rfl #[.string a0] rfl TA ?_; (with_reducible refine (impl_labelsOf.calls k a0 t394 _ A3.out).mono ?_); rintro e w6 ⟨v395, rfl, ho0, hb⟩; refine ⟨_, rfl, ?_⟩; have HO396 := RL ho0; replace HB := BS hb; (try clear hb); (try clear hb2); (try clear hk); (try clear hi); (try clear ho0); obtain ⟨Ao7, co7, eo7⟩ := Kd.R_slice HO396.out; subst eo7) | (go_at_call 115; (with_reducible refine (slices_ContainsFunc_string_string_GoodName_1.calls k _ _ t394  t397 _ ?side1 ?side2 A5.out).mono ?_); (case side1 => exact CW ((Kd.R_reads' HO396.out).2.2)); (case side2 => exact (Kd.R_reads' HO396.out).2.1); rintro e w8 ⟨rfl, hb⟩; replace HO396 := RB HO396 hb; replace HB := BS hb; (try clear hb); (try clear hb2); (try clear hk); (try clear hi)))
   go_ret
   exact ⟨TE, TB⟩
  ·rw [if_neg c4] at H
   have c4b0 : decide ((t394.length : Int) ≤ 8) = false := decide_eq_false c4
   have c4b1 : decide (t394.length ≤ 8) = false := decide_eq_false (by omega)
   clear c4
   obtain rfl := Option.some.inj H
   go_enter Tryz.func62, Tryz.ntmps62
   go_wp2_with (first | ((with_reducible refine gate_callee (f := 114) rfl ?_); refine goesL_ (some 8) rfl rfl Tryz.func114 KR rfl #[.string a0] rfl TA ?_; (with_reducible refine (impl_labelsOf.calls k a0 t394 _ A3.out).mono ?_); rintro e w9 ⟨v395, rfl, ho0, hb⟩; refine ⟨_, rfl, ?_⟩; have HO396 := RL ho0; replace HB := BS hb; (try clear hb); (try clear hb2); (try clear hk); (try clear hi); (try clear ho0); obtain ⟨Ao10, co10, eo10⟩ := Kd.R_slice HO396.out; subst eo10))
   go_ret
   exact ⟨TE, TB⟩
end
section
/-! ### stringslite_HasSuffix: function 158 -/
def stringslite_HasSuffix.f (a0 : ByteArray) (a1 : ByteArray) : Option (Bool) := if (a0.size : Int) ≥ (a1.size : Int) then (if 0 ≤ (wrap64 ((a0.size : Int) - (a1.size : Int))) then (if (wrap64 ((a0.size : Int) - (a1.size : Int))) ≤ (a0.size : Int) then (some ((a0.extract ((wrap64 ((a0.size : Int) - (a1.size : Int))) : Int).toNat a0.size).toList == a1.toList)) else (none)) else (none)) else (some false)
theorem stringslite_HasSuffix.calls (a0 : ByteArray) (a1 : ByteArray) (r : Bool) (w : World) (h : stringslite_HasSuffix.f a0 a1 = some r) :
  Calls Tryz.prog 158 #[.string a0, .string a1] w fun e w' => e = .returned (.bool r) ∧ Drawn0 w w' := by
 have H : (if (a0.size : Int) ≥ (a1.size : Int) then (if 0 ≤ (wrap64 ((a0.size : Int) - (a1.size : Int))) then (if (wrap64 ((a0.size : Int) - (a1.size : Int))) ≤ (a0.size : Int) then (some ((a0.extract ((wrap64 ((a0.size : Int) - (a1.size : Int))) : Int).toNat a0.size).toList == a1.toList)) else (none)) else (none)) else (some false)) = some r := h
 clear h
 by_cases c3 : (a0.size : Int) ≥ (a1.size : Int)
 ·rw [if_pos c3] at H
  have c3b0 : decide ((a1.size : Int) ≤ (a0.size : Int)) = true := decide_eq_true c3
  have c3b1 : decide (a1.size ≤ a0.size) = true := decide_eq_true (Int.ofNat_le.mp c3)
  clear c3
  obtain ⟨ji4, hji4⟩ : ∃ j_ : Int, (wrap64 ((a0.size : Int) - (a1.size : Int))) = j_ := ⟨_, rfl⟩
  replace H : (if 0 ≤ (ji4) then (if (ji4) ≤ (a0.size : Int) then (some ((a0.extract ((ji4) : Int).toNat a0.size).toList == a1.toList)) else (none)) else (none)) = some r := by first | (rw [hji4] at H; exact H) | (simp only [hji4] at H ⊢; exact H)
  have hji4w : (IntKind.i64.wrap ((a0.size : Int) - (a1.size : Int))) = ji4 := (i64_w _).trans hji4
  obtain ⟨c5, H⟩ := ifn H
  have c5b0 := eq_true c5
  have c5b1 : decide (0 ≤ (ji4)) = true := decide_eq_true c5
  clear c5
  obtain ⟨c6, H⟩ := ifn H
  have c6b0 := eq_true c6
  have c6b1 : decide ((ji4) ≤ (a0.size : Int)) = true := decide_eq_true c6
  clear c6
  obtain rfl := Option.some.inj H
  go_enter Tryz.func158, Tryz.ntmps158
  go_wp2
  go_ret
  exact ⟨by first | rfl | (simp; done) | (simp only [← hji4] <;> (first | rfl | simp)) | (simp [*]; done), TN⟩
 ·rw [if_neg c3] at H
  have c3b0 : decide ((a1.size : Int) ≤ (a0.size : Int)) = false := decide_eq_false c3
  have c3b1 : decide (a1.size ≤ a0.size) = false := decide_eq_false (fun h => c3 (Int.ofNat_le.mpr h))
  clear c3
  obtain rfl := Option.some.inj H
  go_enter Tryz.func158, Tryz.ntmps158
  go_wp2
  go_ret
  exact ⟨TF, TN⟩
end
section
/-! ### strings_HasSuffix: function 118 -/
def strings_HasSuffix.f (a0 : ByteArray) (a1 : ByteArray) : Option (Bool) := (stringslite_HasSuffix.f a0 a1).bind fun t502 => (some t502)
theorem strings_HasSuffix.calls (a0 : ByteArray) (a1 : ByteArray) (r : Bool) (w : World) (h : strings_HasSuffix.f a0 a1 = some r) :
  Calls Tryz.prog 118 #[.string a0, .string a1] w fun e w' => e = .returned (.bool r) ∧ Drawn0 w w' := by
 have H : ((stringslite_HasSuffix.f a0 a1).bind fun t502 => (some t502)) = some r := h
 clear h
 obtain ⟨t502, A3, H⟩ := bnd H
 obtain rfl := Option.some.inj H
 go_enter Tryz.func118, Tryz.ntmps118
 go_wp2_with (first | ((with_reducible refine gate_callee (f := 158) rfl ?_); refine goesL_ (some 7) rfl rfl Tryz.func158 KR rfl #[.string a0, .string a1] rfl TA ?_; (with_reducible refine (stringslite_HasSuffix.calls a0 a1 t502 _ A3.out).mono ?_); rintro e w' ⟨rfl, ⟨nd, rfl⟩⟩; refine ⟨_, rfl, ?_⟩))
 go_ret
 exact ⟨TF, TN⟩
end
end Go.Proofs.YtioefechhknnlaaGreatDoor.Pp
