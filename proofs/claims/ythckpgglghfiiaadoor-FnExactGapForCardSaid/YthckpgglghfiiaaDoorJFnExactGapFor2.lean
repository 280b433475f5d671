/- The functions that the law reaches, one Lean function and its proof for each; written by wip/pp of this workplace, joined by claimit.py. -/
import Derived.Test.YthckpgglghfiiaaDoorProg
import Derived.Below
import Derived.Deep.Draws
import Derived.Deep.AppendLies
import Derived.Maps.AppendAt
import Derived.OwnWalk
import Derived.Laws.BytesArg
import Derived.Laws.MakeOwn
import Derived.Laws.OwnMore
import Derived.Deep.OwnRows
import Derived.Tactics
import Derived.Lib.ConvBytes
import Derived.Laws.Slices
import Derived.WalkKit
import Derived.KernelRfl
import Derived.RowKit3
import Derived.Deep.LoopGhost
import Derived.Deep.QuietTactic
import Derived.BigQuiet
import Derived.WideLaws
import Derived.Deep.DeepCutAuto
import Derived.Deep.CutBlock
import Derived.Deep.RegionHeld3
import Derived.Laws.Rows
import Derived.Lib.AppendStr
import Derived.ArgAppend
import Derived.Laws.IdiomCopy
import Derived.OrdersHeld
import Derived.Laws.BitsLemmas
import Derived.RowKit
import Derived.Test.YthckpgglghfiiaaDoorXWords
import Derived.Test.YthckpgglghfiiaaDoorXSq
import Derived.Test.YthckpgglghfiiaaDoorXShelf
import Derived.Test.YthckpgglghfiiaaDoorXBytes
import Derived.Test.YthckpgglghfiiaaDoorWWords
import Derived.Test.YthckpgglghfiiaaDoorWLast
import Derived.Test.YthckpgglghfiiaaDoorWTab
import Derived.Test.YthckpgglghfiiaaDoorWFour
import Derived.Test.YthckpgglghfiiaaDoorWQPut
import Derived.Test.YthckpgglghfiiaaDoorWApart
import Derived.Test.YthckpgglghfiiaaDoorWArr
import Derived.Test.YthckpgglghfiiaaDoorWZeros
import Derived.Test.YthckpgglghfiiaaDoorWFoot
import Derived.Test.YthckpgglghfiiaaDoorWKept
import Derived.Test.YthckpgglghfiiaaDoorWShare
import Derived.Test.YthckpgglghfiiaaDoorWN
import Derived.Test.YthckpgglghfiiaaDoorWFootNe
import Derived.Test.YthckpgglghfiiaaDoorWAt
import Derived.Test.YthckpgglghfiiaaDoorWEqStruct
import Derived.Test.YthckpgglghfiiaaDoorWRepsOne
import Derived.Test.YthckpgglghfiiaaDoorWInv
import Derived.Test.YthckpgglghfiiaaDoorWInvWords
import Derived.Test.YthckpgglghfiiaaDoorWGuard
import Derived.Test.YthckpgglghfiiaaDoorWNEv
import Derived.Test.YthckpgglghfiiaaDoorWMore
import Derived.Test.YthckpgglghfiiaaDoorJFnExactGapFor0
import Derived.Test.YthckpgglghfiiaaDoorJFnExactGapFor1
namespace Go.Proofs.YthckpgglghfiiaaDoor.Pp
open Go.RowKit Go.Proofs.YthckpgglghfiiaaDoorW.PrintWords Go.Proofs.YthckpgglghfiiaaDoorW.PrintLast Go.Proofs.YthckpgglghfiiaaDoorW.PrintMore
attribute [local go_sem] max2_int min2_int max_two min_two max_three min_three max_four min_four   -- for this text's walks alone
set_option linter.unusedVariables false
set_option linter.unusedSimpArgs false

set_option maxHeartbeats 8000000
set_option maxRecDepth 100000
section
/-! ### laws_FnExactGapFor: function 12 -/
def laws_FnExactGapFor.I (a b k : Nat) : Prop := a ≤ k ∧ k < b
section
variable {α : Type} {d : Kd α} {e base a b m a' b' : Nat} {w W w1 W2 : World} {ok : Nat → Prop} {v : Value} {xs : List α} {g g' : Nat} {o : Obj}
theorem laws_FnExactGapFor.sB (x : Aside0 (Kd.S d e w base ok v xs)) (hb : Below W.heap.size W w1) (hw : Below w.heap.size w W := by repeat (first | exact Below.refl _ _ | apply below_alloc | apply pw_below_drewN | apply below_drew1)) : Aside0 (Kd.S d e w1 base ok v xs) := ⟨Kd.S_below x.out (below_step hw hb)⟩
theorem laws_FnExactGapFor.nB (x : Aside0 (Kd.N d e w base ok v xs)) (hb : Below W.heap.size W w1) (hw : Below w.heap.size w W := by repeat (first | exact Below.refl _ _ | apply below_alloc | apply pw_below_drewN | apply below_drew1)) : Aside0 (Kd.N d e w1 base ok v xs) := ⟨Kd.N_below x.out (below_step hw hb)⟩
theorem laws_FnExactGapFor.zB (x : Aside0 (m ≤ w.heap.size)) (hb : Below W.heap.size W w1) (hw : Below w.heap.size w W := by repeat (first | exact Below.refl _ _ | apply below_alloc | apply pw_below_drewN | apply below_drew1)) : Aside0 (m ≤ w1.heap.size) := ⟨Nat.le_trans x.out (Nat.le_trans hw.size hb.size)⟩
theorem laws_FnExactGapFor.zE (x : Aside0 (m ≤ w.heap.size)) (hg : g = W.heap.size) (hbox : w1.heap[g]? = some o) (hw : Below w.heap.size w W := by repeat (first | exact Below.refl _ _ | apply below_alloc | apply pw_below_drewN | apply below_drew1)) : m ≤ g ∧ Aside0 (g + 1 ≤ w1.heap.size) := ⟨by have := x.out; have := hw.size; omega, ⟨blk_lt hbox⟩⟩
theorem laws_FnExactGapFor.rN (h : d.R e w1 W.heap.size ok v xs) (x : Aside0 (m ≤ w.heap.size)) (hb : Below W.heap.size W w1) (hbase : base ≤ m) (hw : Below w.heap.size w W := by repeat (first | exact Below.refl _ _ | apply below_alloc | apply pw_below_drewN | apply below_drew1)) : ∃ a b, (m ≤ a ∧ a ≤ b) ∧ b ≤ w1.heap.size ∧ d.R e w1 base (laws_FnExactGapFor.I a b) v xs :=
  ⟨W.heap.size, w1.heap.size, ⟨Nat.le_trans x.out hw.size, hb.size⟩, Nat.le_refl _, Kd.R_lower (Kd.R_mono (Kd.R_bound h) (fun k hk => ⟨hk.2.1, hk.2.2.1⟩)) (Nat.le_trans hbase (Nat.le_trans x.out hw.size))⟩
theorem laws_FnExactGapFor.sN (h : Kd.S d e w1 W.heap.size ok v xs) (x : Aside0 (m ≤ w.heap.size)) (hb : Below W.heap.size W w1) (hbase : base ≤ m) (hw : Below w.heap.size w W := by repeat (first | exact Below.refl _ _ | apply below_alloc | apply pw_below_drewN | apply below_drew1)) : ∃ a b, (m ≤ a ∧ a ≤ b) ∧ b ≤ w1.heap.size ∧ Kd.S d e w1 base (laws_FnExactGapFor.I a b) v xs :=
  ⟨W.heap.size, w1.heap.size, ⟨Nat.le_trans x.out hw.size, hb.size⟩, Nat.le_refl _, Kd.S_lower (Kd.S_mono (Kd.S_bound h) (fun k hk => ⟨hk.2.1, hk.2.2.1⟩)) (Nat.le_trans hbase (Nat.le_trans x.out hw.size))⟩
theorem laws_FnExactGapFor.nN (h : Kd.N d e w1 W.heap.size (fun k => W.heap.size ≤ k) v xs) (x : Aside0 (m ≤ w.heap.size)) (hb : Below W.heap.size W w1) (hbase : base ≤ m) (hw : Below w.heap.size w W := by repeat (first | exact Below.refl _ _ | apply below_alloc | apply pw_below_drewN | apply below_drew1)) : ∃ a b, (m ≤ a ∧ a ≤ b) ∧ b ≤ w1.heap.size ∧ Kd.N d e w1 base (laws_FnExactGapFor.I a b) v xs :=
  ⟨W.heap.size, w1.heap.size, ⟨Nat.le_trans x.out hw.size, hb.size⟩, Nat.le_refl _, Kd.N_lower (Kd.N_mono (Kd.N_bound h) (fun k hk => ⟨hk.1, hk.2⟩)) (Nat.le_trans hbase (Nat.le_trans x.out hw.size))⟩
theorem laws_FnExactGapFor.rK (x : Aside0 (d.R e w base (laws_FnExactGapFor.I a b) v xs)) (hk : Kept W W2 (fun k => laws_FnExactGapFor.I a' b' k)) (h : b ≤ a' ∨ b' ≤ a) (hw : Below w.heap.size w W := by repeat (first | exact Below.refl _ _ | apply below_alloc | apply pw_below_drewN | apply below_drew1)) : Aside0 (d.R e W2 base (laws_FnExactGapFor.I a b) v xs) := ⟨Kd.R_kept (Kd.R_below x.out hw) hk (fun k h1 h2 => by unfold laws_FnExactGapFor.I at h1 h2; omega)⟩
theorem laws_FnExactGapFor.sK (x : Aside0 (Kd.S d e w base (laws_FnExactGapFor.I a b) v xs)) (hk : Kept W W2 (fun k => laws_FnExactGapFor.I a' b' k)) (h : b ≤ a' ∨ b' ≤ a) (hw : Below w.heap.size w W := by repeat (first | exact Below.refl _ _ | apply below_alloc | apply pw_below_drewN | apply below_drew1)) : Aside0 (Kd.S d e W2 base (laws_FnExactGapFor.I a b) v xs) := ⟨Kd.S_kept (Kd.S_below x.out hw) hk (fun k h1 h2 => by unfold laws_FnExactGapFor.I at h1 h2; omega)⟩
theorem laws_FnExactGapFor.nK (x : Aside0 (Kd.N d e w base (laws_FnExactGapFor.I a b) v xs)) (hk : Kept W W2 (fun k => laws_FnExactGapFor.I a' b' k)) (h : b ≤ a' ∨ b' ≤ a) (hw : Below w.heap.size w W := by repeat (first | exact Below.refl _ _ | apply below_alloc | apply pw_below_drewN | apply below_drew1)) : Aside0 (Kd.N d e W2 base (laws_FnExactGapFor.I a b) v xs) := ⟨Kd.N_kept (Kd.N_below x.out hw) hk (fun k h1 h2 => by unfold laws_FnExactGapFor.I at h1 h2; omega)⟩
theorem laws_FnExactGapFor.bK (x : Aside0 (w.heap[g]? = some o)) (hk : Kept W W2 (fun k => laws_FnExactGapFor.I a' b' k)) (h : g < a' ∨ b' ≤ g) (hw : Below w.heap.size w W := by repeat (first | exact Below.refl _ _ | apply below_alloc | apply pw_below_drewN | apply below_drew1)) : Aside0 (W2.heap[g]? = some o) := ⟨blk_kept (blk_below x.out hw) hk (fun h2 => by unfold laws_FnExactGapFor.I at h2; omega)⟩
theorem laws_FnExactGapFor.zK (x : Aside0 (m ≤ w.heap.size)) (hk : Kept W W2 (fun k => laws_FnExactGapFor.I a' b' k)) (hw : Below w.heap.size w W := by repeat (first | exact Below.refl _ _ | apply below_alloc | apply pw_below_drewN | apply below_drew1)) : Aside0 (m ≤ W2.heap.size) := ⟨Nat.le_trans x.out (Nat.le_trans hw.size hk.1)⟩
theorem laws_FnExactGapFor.rM (h : d.R e W2 base (fun k => laws_FnExactGapFor.I a b k ∨ W.heap.size ≤ k) v xs) (x : Aside0 (m ≤ w.heap.size)) (ham : a ≤ m) (hk : Kept W W2 ok) (hw : Below w.heap.size w W := by repeat (first | exact Below.refl _ _ | apply below_alloc | apply pw_below_drewN | apply below_drew1)) : ∃ m', m ≤ m' ∧ m' ≤ W2.heap.size ∧ d.R e W2 base (laws_FnExactGapFor.I a m') v xs :=
  ⟨W2.heap.size, Nat.le_trans x.out (Nat.le_trans hw.size hk.1), Nat.le_refl _, Kd.R_mono (Kd.R_bound h) (fun k hk => ⟨hk.1.elim (fun h => h.1) (fun h => Nat.le_trans ham (Nat.le_trans x.out (Nat.le_trans hw.size h))), hk.2.2.1⟩)⟩
theorem laws_FnExactGapFor.sM (h : Kd.S d e W2 base (fun k => laws_FnExactGapFor.I a b k ∨ W.heap.size ≤ k) v xs) (x : Aside0 (m ≤ w.heap.size)) (ham : a ≤ m) (hk : Kept W W2 ok) (hw : Below w.heap.size w W := by repeat (first | exact Below.refl _ _ | apply below_alloc | apply pw_below_drewN | apply below_drew1)) : ∃ m', m ≤ m' ∧ m' ≤ W2.heap.size ∧ Kd.S d e W2 base (laws_FnExactGapFor.I a m') v xs :=
  ⟨W2.heap.size, Nat.le_trans x.out (Nat.le_trans hw.size hk.1), Nat.le_refl _, Kd.S_mono (Kd.S_bound h) (fun k hk => ⟨hk.1.elim (fun h => h.1) (fun h => Nat.le_trans ham (Nat.le_trans x.out (Nat.le_trans hw.size h))), hk.2.2.1⟩)⟩
theorem laws_FnExactGapFor.rS (x : Aside0 (d.R e w base (laws_FnExactGapFor.I a b) v xs)) (h : St g w W) (hg : g < a ∨ b ≤ g) : Aside0 (d.R e W base (laws_FnExactGapFor.I a b) v xs) := ⟨Kd.R_step x.out (fun k ho hk => h.2 k hk (by unfold laws_FnExactGapFor.I at ho; omega))⟩
theorem laws_FnExactGapFor.sS (x : Aside0 (Kd.S d e w base (laws_FnExactGapFor.I a b) v xs)) (h : St g w W) (hg : g < a ∨ b ≤ g) : Aside0 (Kd.S d e W base (laws_FnExactGapFor.I a b) v xs) := ⟨Kd.S_step x.out (fun k ho hk => h.2 k hk (by unfold laws_FnExactGapFor.I at ho; omega))⟩
theorem laws_FnExactGapFor.nS (x : Aside0 (Kd.N d e w base (laws_FnExactGapFor.I a b) v xs)) (h : St g w W) (hg : g < a ∨ b ≤ g) : Aside0 (Kd.N d e W base (laws_FnExactGapFor.I a b) v xs) := ⟨Kd.N_step x.out (fun k ho hk => h.2 k hk (by unfold laws_FnExactGapFor.I at ho; omega))⟩
theorem laws_FnExactGapFor.bS (x : Aside0 (w.heap[g']? = some o)) (h : St g w W) (hg : g' < g ∨ g < g') : Aside0 (W.heap[g']? = some o) := ⟨(h.2 g' (blk_lt x.out) (by omega)).trans x.out⟩
theorem laws_FnExactGapFor.zS (x : Aside0 (m ≤ w.heap.size)) (h : St g w W) : Aside0 (m ≤ W.heap.size) := ⟨Nat.le_trans x.out h.1⟩
end
def laws_FnExactGapFor.f (k : Nat) (l0 : List (S_LGap)) (a1 : ByteArray) : Option Bool := (if (a1.size : Int) > 1048576 then (some true) else ((laws_szGapS.f k l0 1048576).bind fun t1_0 => (if t1_0 < 0 then (some true) else ((laws_toGapS.f k l0).bind fun t2_0 => ((spec_GapFor.f k t2_0 a1).bind fun bt3_0 => ((impl_GapFor.f k t2_0 a1).bind fun bt7_0 => ((laws_eqGap.f k bt7_0.1 bt7_0.2.1 bt7_0.2.2.1 bt3_0.1 bt3_0.2.1 bt3_0.2.2.1).bind fun t10_0 => (if t10_0 = true then (if bt7_0.2.2.2 = bt3_0.2.2.2 then ((laws_eqGapS.f k t2_0 t2_0).bind fun t12_0 => (if t12_0 = true then ((laws_markGapS.f k t2_0 1).bind fun bt13_0 => (if bt13_0.1 < 0 then none else ((laws_markGap.f k bt7_0.1 bt7_0.2.1 bt7_0.2.2.1 1).bind fun bt15_0 => ((laws_heldGap.f k bt7_0.1 bt7_0.2.1 bt15_0.2 1).bind fun t16_0 => (if t16_0 < 0 then none else (if t16_0 = bt15_0.1 then (if t16_0 < 0 then none else (some true)) else none)))))) else none)) else none) else none))))))))
/-- THE ONE PURE STATEMENT of laws_FnExactGapFor. -/
def laws_FnExactGapFor.Pure : Prop := ∀ (l0 : List (S_LGap)) (a1 : ByteArray), (l0.length ≤ maxLen ∧ ∀ x_ ∈ l0, WF_LGap x_) → (a1.size ≤ maxLen) → ∃ k, laws_FnExactGapFor.f k l0 a1 = some true
set_option maxHeartbeats 8000000 in
set_option maxRecDepth 100000 in
theorem laws_FnExactGapFor.calls (k : Nat) (A0 : Option Addr) (c0 : Nat) (l0 : List (S_LGap)) (a1 : ByteArray) (r : Bool) (w : World) (hr0 : Kd.C k_LGap w A0 l0.length l0) (hc0 : l0.length ≤ c0) (h : laws_FnExactGapFor.f k l0 a1 = some r) :
    Calls Tryd.prog 12 #[.slice A0 l0.length c0, .string a1] w fun e w' => e = .returned (.bool r) ∧ Below w.heap.size w w' := by
  have HR0 := Aside0.mk hr0
  have HC0 := Aside0.mk hc0
  clear hr0 hc0
  have HB := Aside0.mk (Below.refl w.heap.size w)
  have HZ := Aside0.mk (Nat.le_refl w.heap.size)
  have H := h
  clear h
  unfold laws_FnExactGapFor.f at H
  by_cases c1 : (a1.size : Int) > 1048576
  · rw [if_pos c1] at H
    have c1b0 : decide (1048576 < (a1.size : Int)) = true := decide_eq_true c1
    have c1b1 : decide (1048576 < a1.size) = true := decide_eq_true (by omega)
    clear c1
    obtain rfl := Option.some.inj H
    go_enter Tryd.func12, Tryd.ntmps12
    go_wp2
    go_ret
    exact ⟨TE, TB⟩
  · rw [if_neg c1] at H
    have c1b0 : decide (1048576 < (a1.size : Int)) = false := decide_eq_false c1
    have c1b1 : decide (1048576 < a1.size) = false := decide_eq_false (by omega)
    clear c1
    obtain ⟨t1_0, A1, H_⟩ := bnd H
    clear H
    have H := H_
    clear H_
    by_cases c3 : t1_0 < 0
    · rw [if_pos c3] at H
      have c3b0 : decide (t1_0 < 0) = true := decide_eq_true c3
      clear c3
      obtain rfl := Option.some.inj H
      go_enter Tryd.func12, Tryd.ntmps12
      go_wp2_with (first | ((with_reducible refine gate_callee (f := 38) rfl ?_); refine goesL_ (some 21) rfl rfl Tryd.func38 KR rfl #[.slice A0 l0.length c0, .int .i64 1048576] rfl TA ?_; (with_reducible refine (laws_szGapS.calls k _ _ l0 1048576 t1_0 _ ?side1 ?side2 A1.out).mono ?_); (case side1 => exact CW ((Kd.C_below HR0.out HB.out))); (case side2 => exact HC0.out); rintro e w1 ⟨rfl, hb⟩; refine ⟨_, rfl, ?_⟩; replace HZ := laws_FnExactGapFor.zB HZ hb; replace HB := BS hb; clear hb))
      go_ret
      exact ⟨TE, TB⟩
    · rw [if_neg c3] at H
      have c3b0 : decide (t1_0 < 0) = false := decide_eq_false c3
      clear c3
      obtain ⟨t2_0, A2, H_⟩ := bnd H
      clear H
      have H := H_
      clear H_
      obtain ⟨⟨t3_0, t3_1, t3_2, t3_3⟩, A3, H_⟩ := bnd H
      clear H
      have H := H_
      clear H_
      try dsimp only at H
      obtain ⟨⟨t7_0, t7_1, t7_2, t7_3⟩, A7, H_⟩ := bnd H
      clear H
      have H := H_
      clear H_
      try dsimp only at H
      obtain ⟨t10_0, A10, H_⟩ := bnd H
      clear H
      have H := H_
      clear H_
      obtain ⟨e8, H_⟩ := ifn H
      clear H
      have H := H_
      clear H_
      subst e8
      obtain ⟨e9, H_⟩ := ifn H
      clear H
      have H := H_
      clear H_
      subst e9
      obtain ⟨t12_0, A12, H_⟩ := bnd H
      clear H
      have H := H_
      clear H_
      obtain ⟨e11, H_⟩ := ifn H
      clear H
      have H := H_
      clear H_
      subst e11
      obtain ⟨⟨t13_0, t13_1⟩, A13, H_⟩ := bnd H
      clear H
      have H := H_
      clear H_
      try dsimp only at H
      obtain ⟨c13, H_⟩ := ifm H
      clear H
      have H := H_
      clear H_
      have c13b0 : decide (t13_0 < 0) = false := decide_eq_false c13
      clear c13
      obtain ⟨⟨t15_0, t15_1⟩, A15, H_⟩ := bnd H
      clear H
      have H := H_
      clear H_
      try dsimp only at H
      obtain ⟨t16_0, A16, H_⟩ := bnd H
      clear H
      have H := H_
      clear H_
      obtain ⟨c17, H_⟩ := ifm H
      clear H
      have H := H_
      clear H_
      have c17b0 : decide (t16_0 < 0) = false := decide_eq_false c17
      clear c17
      obtain ⟨e18, H_⟩ := ifn H
      clear H
      have H := H_
      clear H_
      subst e18
      obtain ⟨c20, H_⟩ := ifm H
      clear H
      have H := H_
      clear H_
      have c20b0 : decide (t16_0 < 0) = false := decide_eq_false c20
      clear c20
      obtain rfl := Option.some.inj H
      go_enter Tryd.func12, Tryd.ntmps12
      go_wp2_with (first | ((with_reducible refine gate_callee (f := 38) rfl ?_); refine goesL_ (some 21) rfl rfl Tryd.func38 KR rfl #[.slice A0 l0.length c0, .int .i64 1048576] rfl TA ?_; (with_reducible refine (laws_szGapS.calls k _ _ l0 1048576 t1_0 _ ?side1 ?side2 A1.out).mono ?_); (case side1 => exact CW ((Kd.C_below HR0.out HB.out))); (case side2 => exact HC0.out); rintro e w1 ⟨rfl, hb⟩; refine ⟨_, rfl, ?_⟩; replace HZ := laws_FnExactGapFor.zB HZ hb; replace HB := BS hb; clear hb) | ((with_reducible refine gate_callee (f := 40) rfl ?_); refine goesL_ (some 26) rfl rfl Tryd.func40 KR rfl #[.slice A0 l0.length c0] rfl TA ?_; (with_reducible refine (laws_toGapS.calls k _ _ l0 t2_0 _ ?side1 ?side2 A2.out).mono ?_); (case side1 => exact CW ((Kd.C_below HR0.out HB.out))); (case side2 => exact HC0.out); rintro e w2 ⟨v2_0, rfl, ho0, hb⟩; refine ⟨_, rfl, ?_⟩; obtain ⟨n2_0, m2_0, hi_, hz_, hn_⟩ := laws_FnExactGapFor.sN (base := w.heap.size) ho0 HZ hb (Nat.le_refl _); have HI2_0 := Aside0.mk hi_; replace HZ := Aside0.mk hz_; have HO2_0 := Aside0.mk hn_; clear hi_ hz_ hn_ ho0; replace HB := BS hb; clear hb; obtain ⟨Ao2_0, co2_0, eo_⟩ := Kd.S_slice HO2_0.out; subst eo_) | ((with_reducible refine gate_callee (f := 47) rfl ?_); refine goesL_ (some 28) rfl rfl Tryd.func47 KR rfl #[.slice Ao2_0 t2_0.length co2_0, .string a1] rfl TA ?_; (with_reducible refine (spec_GapFor.calls k _ _ t2_0 a1 t3_0 t3_1 t3_2 t7_3 _ ?side1 ?side2 A3.out).mono ?_); (case side1 => exact CW ((Kd.S_reads' HO2_0.out).2.2)); (case side2 => exact (Kd.S_reads' HO2_0.out).2.1); rintro e w3 ⟨v3_0, rfl, ho0, hb⟩; refine ⟨_, rfl, ?_⟩; obtain ⟨n3_0, m3_0, hi_, hz_, hn_⟩ := laws_FnExactGapFor.rN (base := w.heap.size) ho0 HZ hb (by have := HI2_0.out; omega); have HI3_0 := Aside0.mk hi_; replace HZ := Aside0.mk hz_; have HO3_0 := Aside0.mk hn_; clear hi_ hz_ hn_ ho0; replace HB := BS hb; clear hb; obtain ⟨Ao3_0, co3_0, eo_⟩ := Kd.R_slice HO3_0.out; subst eo_) | ((with_reducible refine gate_dst (N := 6) rfl ?_); refine bE 6 #[.string (⟨#[]⟩ : ByteArray), .string (⟨#[]⟩ : ByteArray), .slice none 0 0] 44 ?_; intro gb4 hg w4 hbox hb; have BK4 := Aside0.mk hbox; have GE4 := bG hg; obtain ⟨hi_, hz_⟩ := laws_FnExactGapFor.zE HZ hg hbox; replace HZ := hz_; have HI4 := Aside0.mk hi_; replace HO3_0 := RB HO3_0 hb; replace HB := BS hb; clear hb hbox hg hi_ hz_; (try clear hcz4_0); (try clear hcz4_1); (try clear hcz4_2); have hcz4_3 := cz3 BK4) | ((with_reducible refine gate_store (t := 44) (p := 6) rfl ?_); refine store_event (t := 44) (p := 6) (v := ?vo_5) (w1 := (((w4.setCell ⟨gb4, 0, none⟩ (.string t3_0)).setCell ⟨gb4, 1, none⟩ (.string t3_1)).setCell ⟨gb4, 2, none⟩ (.slice Ao3_0 t3_2.length co3_0))) ?hg ?ho ?hn ?hr ?_; (case ho => rfl); (case hg => rfl); (case hn => rfl); (case hr => first | (go_simp; done) | (go_simp; rfl)); intro wt5 hw; have BKn := Aside0.mk (show wt5.heap[gb4]? = some (.cells #[.string t3_0, .string t3_1, .slice Ao3_0 t3_2.length co3_0] 44 (0, 0)) by rw [hw]; exact TS); replace HO3_0 := laws_FnExactGapFor.rS (g := gb4) (W := wt5) HO3_0 (by rw [hw]; repeat (with_reducible first | exact St.refl _ _ | apply St.set | apply St.alloc | apply St.drewN | apply St.drew)) (by have := HI2_0.out; have := HI3_0.out; have := HI4.out; omega); replace HZ := laws_FnExactGapFor.zS (g := gb4) (W := wt5) HZ (by rw [hw]; repeat (with_reducible first | exact St.refl _ _ | apply St.set | apply St.alloc | apply St.drewN | apply St.drew)); replace HB := Aside0.mk (show Below w.heap.size w wt5 by rw [hw]; exact TB); clear hw; replace BK4 := BKn; (try clear hcz4_1); (try clear hcz4_2); (try clear hcz4_3); have hcz4_4 := cz3 BK4) | ((with_reducible refine gate_callee (f := 40) rfl ?_); refine goesL_ (some 32) rfl rfl Tryd.func40 KR rfl #[.slice A0 l0.length c0] rfl TA ?_; (with_reducible refine (laws_toGapS.calls k _ _ l0 t2_0 _ ?side1 ?side2 A2.out).mono ?_); (case side1 => exact CW ((Kd.C_below HR0.out HB.out))); (case side2 => exact HC0.out); rintro e w6 ⟨v6_0, rfl, ho0, hb⟩; refine ⟨_, rfl, ?_⟩; obtain ⟨n6_0, m6_0, hi_, hz_, hn_⟩ := laws_FnExactGapFor.sN (base := w.heap.size) ho0 HZ hb (by have := HI2_0.out; have := HI3_0.out; have := HI4.out; omega); have HI6_0 := Aside0.mk hi_; replace HO3_0 := RB HO3_0 hb; replace BK4 := KB BK4 hb; replace HZ := Aside0.mk hz_; have HO6_0 := Aside0.mk hn_; clear hi_ hz_ hn_ ho0; replace HB := BS hb; clear hb; obtain ⟨Ao6_0, co6_0, eo_⟩ := Kd.S_slice HO6_0.out; subst eo_; (try clear hcz4_2); (try clear hcz4_3); (try clear hcz4_4); have hcz4_5 := cz3 BK4) | ((with_reducible refine gate_callee (f := 48) rfl ?_); refine goesL_ (some 36) rfl rfl Tryd.func48 KR rfl #[.slice Ao6_0 t2_0.length co6_0, .string a1] rfl TA ?_; (with_reducible refine (impl_GapFor.calls k _ _ t2_0 a1 t7_0 t7_1 t7_2 t7_3 _ ?side1 ?side2 A7.out).mono ?_); (case side1 => exact CW ((Kd.S_reads' HO6_0.out).2.2)); (case side2 => exact (Kd.S_reads' HO6_0.out).2.1); rintro e w7 ⟨v7_0, rfl, ho0, hb⟩; refine ⟨_, rfl, ?_⟩; obtain ⟨n7_0, m7_0, hi_, hz_, hn_⟩ := laws_FnExactGapFor.rN (base := w.heap.size) ho0 HZ hb (by have := HI2_0.out; have := HI3_0.out; have := HI4.out; have := HI6_0.out; omega); have HI7_0 := Aside0.mk hi_; replace HO3_0 := RB HO3_0 hb; replace BK4 := KB BK4 hb; replace HO6_0 := laws_FnExactGapFor.sB HO6_0 hb; replace HZ := Aside0.mk hz_; have HO7_0 := Aside0.mk hn_; clear hi_ hz_ hn_ ho0; replace HB := BS hb; clear hb; obtain ⟨Ao7_0, co7_0, eo_⟩ := Kd.R_slice HO7_0.out; subst eo_; (try clear hcz4_3); (try clear hcz4_4); (try clear hcz4_5); have hcz4_6 := cz3 BK4) | ((with_reducible refine gate_dst (N := 9) rfl ?_); refine bE 9 #[.string (⟨#[]⟩ : ByteArray), .string (⟨#[]⟩ : ByteArray), .slice none 0 0] 44 ?_; intro gb8 hg w8 hbox hb; have BK8 := Aside0.mk hbox; have GE8 := bG hg; obtain ⟨hi_, hz_⟩ := laws_FnExactGapFor.zE HZ hg hbox; replace HZ := hz_; have HI8 := Aside0.mk hi_; replace HO3_0 := RB HO3_0 hb; replace BK4 := KB BK4 hb; replace HO6_0 := laws_FnExactGapFor.sB HO6_0 hb; replace HO7_0 := RB HO7_0 hb; replace HB := BS hb; clear hb hbox hg hi_ hz_; (try clear hcz4_4); (try clear hcz4_5); (try clear hcz4_6); (try clear hcz8_4); (try clear hcz8_5); (try clear hcz8_6); have hcz4_7 := cz3 BK4; have hcz8_7 := cz3 BK8) | ((with_reducible refine gate_store (t := 44) (p := 9) rfl ?_); refine store_event (t := 44) (p := 9) (v := ?vo_9) (w1 := (((w8.setCell ⟨gb8, 0, none⟩ (.string t7_0)).setCell ⟨gb8, 1, none⟩ (.string t7_1)).setCell ⟨gb8, 2, none⟩ (.slice Ao7_0 t7_2.length co7_0))) ?hg ?ho ?hn ?hr ?_; (case ho => rfl); (case hg => rfl); (case hn => rfl); (case hr => first | (go_simp; done) | (go_simp; rfl)); intro wt9 hw; have BKn := Aside0.mk (show wt9.heap[gb8]? = some (.cells #[.string t7_0, .string t7_1, .slice Ao7_0 t7_2.length co7_0] 44 (0, 0)) by rw [hw]; exact TS); replace HO3_0 := laws_FnExactGapFor.rS (g := gb8) (W := wt9) HO3_0 (by rw [hw]; repeat (with_reducible first | exact St.refl _ _ | apply St.set | apply St.alloc | apply St.drewN | apply St.drew)) (by have := HI2_0.out; have := HI3_0.out; have := HI4.out; have := HI6_0.out; have := HI7_0.out; have := HI8.out; omega); replace BK4 := laws_FnExactGapFor.bS (g := gb8) (W := wt9) BK4 (by rw [hw]; repeat (with_reducible first | exact St.refl _ _ | apply St.set | apply St.alloc | apply St.drewN | apply St.drew)) (by have := HI2_0.out; have := HI3_0.out; have := HI4.out; have := HI6_0.out; have := HI7_0.out; have := HI8.out; omega); replace HO6_0 := laws_FnExactGapFor.sS (g := gb8) (W := wt9) HO6_0 (by rw [hw]; repeat (with_reducible first | exact St.refl _ _ | apply St.set | apply St.alloc | apply St.drewN | apply St.drew)) (by have := HI2_0.out; have := HI3_0.out; have := HI4.out; have := HI6_0.out; have := HI7_0.out; have := HI8.out; omega); replace HO7_0 := laws_FnExactGapFor.rS (g := gb8) (W := wt9) HO7_0 (by rw [hw]; repeat (with_reducible first | exact St.refl _ _ | apply St.set | apply St.alloc | apply St.drewN | apply St.drew)) (by have := HI2_0.out; have := HI3_0.out; have := HI4.out; have := HI6_0.out; have := HI7_0.out; have := HI8.out; omega); replace HZ := laws_FnExactGapFor.zS (g := gb8) (W := wt9) HZ (by rw [hw]; repeat (with_reducible first | exact St.refl _ _ | apply St.set | apply St.alloc | apply St.drewN | apply St.drew)); replace HB := Aside0.mk (show Below w.heap.size w wt9 by rw [hw]; exact TB); clear hw; replace BK8 := BKn; (try clear hcz4_5); (try clear hcz4_6); (try clear hcz4_7); (try clear hcz8_5); (try clear hcz8_6); (try clear hcz8_7); have hcz4_8 := cz3 BK4; have hcz8_8 := cz3 BK8) | ((with_reducible refine gate_callee (f := 26) rfl ?_); refine goesL_ (some 41) rfl rfl Tryd.func26 KR rfl #[.agg #[.string t7_0, .string t7_1, .slice Ao7_0 t7_2.length co7_0], .agg #[.string t3_0, .string t3_1, .slice Ao3_0 t3_2.length co3_0]] rfl TA ?_; (with_reducible refine (laws_eqGap.calls k t7_0 t7_1 _ _ t7_2 t3_0 t3_1 _ _ t3_2 true _ ?side1 ?side2 ?side3 ?side4 A10.out).mono ?_); (case side1 => exact CW ((Kd.R_reads' HO7_0.out).2.2)); (case side2 => exact (Kd.R_reads' HO7_0.out).2.1); (case side3 => exact CW ((Kd.R_reads' HO3_0.out).2.2)); (case side4 => exact (Kd.R_reads' HO3_0.out).2.1); rintro e w10 ⟨rfl, hb⟩; refine ⟨_, rfl, ?_⟩; replace HO3_0 := RB HO3_0 hb; replace BK4 := KB BK4 hb; replace HO6_0 := laws_FnExactGapFor.sB HO6_0 hb; replace HO7_0 := RB HO7_0 hb; replace BK8 := KB BK8 hb; replace HZ := laws_FnExactGapFor.zB HZ hb; replace HB := BS hb; clear hb; (try clear hcz4_8); (try clear hcz4_9); (try clear hcz4_10); (try clear hcz8_8); (try clear hcz8_9); (try clear hcz8_10); have hcz4_11 := cz3 BK4; have hcz8_11 := cz3 BK8) | ((with_reducible refine gate_callee (f := 40) rfl ?_); refine goesL_ (some 50) rfl rfl Tryd.func40 KR rfl #[.slice A0 l0.length c0] rfl TA ?_; (with_reducible refine (laws_toGapS.calls k _ _ l0 t2_0 _ ?side1 ?side2 A2.out).mono ?_); (case side1 => exact CW ((Kd.C_below HR0.out HB.out))); (case side2 => exact HC0.out); rintro e w11 ⟨v11_0, rfl, ho0, hb⟩; refine ⟨_, rfl, ?_⟩; obtain ⟨n11_0, m11_0, hi_, hz_, hn_⟩ := laws_FnExactGapFor.sN (base := w.heap.size) ho0 HZ hb (by have := HI2_0.out; have := HI3_0.out; have := HI4.out; have := HI6_0.out; have := HI7_0.out; have := HI8.out; omega); have HI11_0 := Aside0.mk hi_; replace HO3_0 := RB HO3_0 hb; replace BK4 := KB BK4 hb; replace HO6_0 := laws_FnExactGapFor.sB HO6_0 hb; replace HO7_0 := RB HO7_0 hb; replace BK8 := KB BK8 hb; replace HZ := Aside0.mk hz_; have HO11_0 := Aside0.mk hn_; clear hi_ hz_ hn_ ho0; replace HB := BS hb; clear hb; obtain ⟨Ao11_0, co11_0, eo_⟩ := Kd.S_slice HO11_0.out; subst eo_; (try clear hcz4_9); (try clear hcz4_10); (try clear hcz4_11); (try clear hcz8_9); (try clear hcz8_10); (try clear hcz8_11); have hcz4_12 := cz3 BK4; have hcz8_12 := cz3 BK8) | ((with_reducible refine gate_callee (f := 42) rfl ?_); refine goesL_ (some 51) rfl rfl Tryd.func42 KR rfl #[.slice Ao6_0 t2_0.length co6_0, .slice Ao11_0 t2_0.length co11_0] rfl TA ?_; (with_reducible refine (laws_eqGapS.calls k _ _ t2_0 _ _ t2_0 true _ ?side1 ?side2 ?side3 ?side4 A12.out).mono ?_); (case side1 => exact CW ((Kd.S_reads' HO6_0.out).2.2)); (case side2 => exact (Kd.S_reads' HO6_0.out).2.1); (case side3 => exact CW ((Kd.S_reads' HO11_0.out).2.2)); (case side4 => exact (Kd.S_reads' HO11_0.out).2.1); rintro e w12 ⟨rfl, hb⟩; refine ⟨_, rfl, ?_⟩; replace HO3_0 := RB HO3_0 hb; replace BK4 := KB BK4 hb; replace HO6_0 := laws_FnExactGapFor.sB HO6_0 hb; replace HO7_0 := RB HO7_0 hb; replace BK8 := KB BK8 hb; replace HZ := laws_FnExactGapFor.zB HZ hb; replace HB := BS hb; clear hb; (try clear hcz4_10); (try clear hcz4_11); (try clear hcz4_12); (try clear hcz8_10); (try clear hcz8_11); (try clear hcz8_12); have hcz4_13 := cz3 BK4; have hcz8_13 := cz3 BK8) | ((with_reducible refine gate_callee (f := 49) rfl ?_); refine goesL_ (some 55) rfl rfl Tryd.func49 KR rfl #[.slice Ao6_0 t2_0.length co6_0, .int .i64 1] rfl TA ?_; (with_reducible refine (laws_markGapS.calls k (fun k_ => laws_FnExactGapFor.I n6_0 m6_0 k_) (.slice Ao6_0 t2_0.length co6_0) t2_0 1 t13_0 t13_1 w _ ?side1 ?side2 A13.out).mono ?_); (case side1 => exact TB); (case side2 => exact Kd.S_below HO6_0.out TW); rintro e w13 ⟨rfl, hy0, hb, hkp⟩; refine ⟨_, rfl, ?_⟩; replace HO3_0 := laws_FnExactGapFor.rK HO3_0 hkp (by have := HI2_0.out; have := HI3_0.out; have := HI4.out; have := HI6_0.out; have := HI7_0.out; have := HI8.out; have := HI11_0.out; omega); replace BK4 := laws_FnExactGapFor.bK BK4 hkp (by have := HI2_0.out; have := HI3_0.out; have := HI4.out; have := HI6_0.out; have := HI7_0.out; have := HI8.out; have := HI11_0.out; omega); replace HO7_0 := laws_FnExactGapFor.rK HO7_0 hkp (by have := HI2_0.out; have := HI3_0.out; have := HI4.out; have := HI6_0.out; have := HI7_0.out; have := HI8.out; have := HI11_0.out; omega); replace BK8 := laws_FnExactGapFor.bK BK8 hkp (by have := HI2_0.out; have := HI3_0.out; have := HI4.out; have := HI6_0.out; have := HI7_0.out; have := HI8.out; have := HI11_0.out; omega); replace HZ := laws_FnExactGapFor.zK HZ hkp; replace HB := Aside0.mk hb; clear hb hkp hy0; (try clear hcz4_11); (try clear hcz4_12); (try clear hcz4_13); (try clear hcz8_11); (try clear hcz8_12); (try clear hcz8_13); have hcz4_14 := cz3 BK4; have hcz8_14 := cz3 BK8) | (go_at_call 26; (with_reducible refine (laws_eqGap.calls k t7_0 t7_1 _ _ t7_2 t3_0 t3_1 _ _ t3_2 true _ ?side1 ?side2 ?side3 ?side4 A10.out).mono ?_); (case side1 => exact CW ((Kd.R_reads' HO7_0.out).2.2)); (case side2 => exact (Kd.R_reads' HO7_0.out).2.1); (case side3 => exact CW ((Kd.R_reads' HO3_0.out).2.2)); (case side4 => exact (Kd.R_reads' HO3_0.out).2.1); rintro e w14 ⟨rfl, hb⟩; replace HO3_0 := RB HO3_0 hb; replace BK4 := KB BK4 hb; replace HO7_0 := RB HO7_0 hb; replace BK8 := KB BK8 hb; replace HZ := laws_FnExactGapFor.zB HZ hb; replace HB := BS hb; clear hb; (try clear hcz4_15); (try clear hcz4_16); (try clear hcz4_17); (try clear hcz8_15); (try clear hcz8_16); (try clear hcz8_17); have hcz4_18 := cz3 BK4; have hcz8_18 := cz3 BK8) | ((with_reducible refine gate_callee (f := 50) rfl ?_); refine goesL_ (some 71) rfl rfl Tryd.func50 KR rfl #[.agg #[.string t7_0, .string t7_1, .slice Ao7_0 t7_2.length co7_0], .int .i64 1] rfl TA ?_; (with_reducible refine (laws_markGap.calls k t7_0 t7_1 (fun k_ => laws_FnExactGapFor.I n7_0 m7_0 k_) (.slice Ao7_0 t7_2.length co7_0) t7_2 1 t16_0 t15_1 w _ ?side1 ?side2 A15.out).mono ?_); (case side1 => exact TB); (case side2 => exact Kd.R_below HO7_0.out TW); rintro e w15 ⟨rfl, hy0, hb, hkp⟩; refine ⟨_, rfl, ?_⟩; replace HO3_0 := laws_FnExactGapFor.rK HO3_0 hkp (by have := HI2_0.out; have := HI3_0.out; have := HI4.out; have := HI6_0.out; have := HI7_0.out; have := HI8.out; have := HI11_0.out; omega); replace BK4 := laws_FnExactGapFor.bK BK4 hkp (by have := HI2_0.out; have := HI3_0.out; have := HI4.out; have := HI6_0.out; have := HI7_0.out; have := HI8.out; have := HI11_0.out; omega); replace BK8 := laws_FnExactGapFor.bK BK8 hkp (by have := HI2_0.out; have := HI3_0.out; have := HI4.out; have := HI6_0.out; have := HI7_0.out; have := HI8.out; have := HI11_0.out; omega); obtain ⟨mm15, hi_, hz_, hn_⟩ := laws_FnExactGapFor.rM hy0 HZ (by have := HI2_0.out; have := HI3_0.out; have := HI4.out; have := HI6_0.out; have := HI7_0.out; have := HI8.out; have := HI11_0.out; omega) hkp; have HI15 := Aside0.mk hi_; replace HZ := Aside0.mk hz_; replace HB := Aside0.mk hb; replace HO7_0 := Aside0.mk hn_; clear hb hkp hi_ hz_ hn_; have hl_ := (Kd.R_reads' hy0).1; rw [hl_] at HO7_0; rw [hl_] at BK8; (try rw [hl_]); clear hl_ hy0; (try clear hcz4_17); (try clear hcz4_18); (try clear hcz4_19); (try clear hcz8_17); (try clear hcz8_18); (try clear hcz8_19); have hcz4_20 := cz3 BK4; have hcz8_20 := cz3 BK8) | ((with_reducible refine gate_callee (f := 51) rfl ?_); refine goesL_ (some 74) rfl rfl Tryd.func51 KR rfl #[.agg #[.string t7_0, .string t7_1, .slice Ao7_0 t15_1.length co7_0], .int .i64 1] rfl TA ?_; (with_reducible refine (laws_heldGap.calls k t7_0 t7_1 _ _ t15_1 1 t16_0 _ ?side1 ?side2 A16.out).mono ?_); (case side1 => exact CW ((Kd.R_reads' HO7_0.out).2.2)); (case side2 => exact (Kd.R_reads' HO7_0.out).2.1); rintro e w16 ⟨rfl, hb⟩; refine ⟨_, rfl, ?_⟩; replace HO3_0 := RB HO3_0 hb; replace BK4 := KB BK4 hb; replace HO7_0 := RB HO7_0 hb; replace BK8 := KB BK8 hb; replace HZ := laws_FnExactGapFor.zB HZ hb; replace HB := BS hb; clear hb; (try clear hcz4_20); (try clear hcz4_21); (try clear hcz4_22); (try clear hcz8_20); (try clear hcz8_21); (try clear hcz8_22); have hcz4_23 := cz3 BK4; have hcz8_23 := cz3 BK8) | ((with_reducible refine gate_callee (f := 40) rfl ?_); refine goesL_ (some 82) rfl rfl Tryd.func40 KR rfl #[.slice A0 l0.length c0] rfl TA ?_; (with_reducible refine (laws_toGapS.calls k _ _ l0 t2_0 _ ?side1 ?side2 A2.out).mono ?_); (case side1 => exact CW ((Kd.C_below HR0.out HB.out))); (case side2 => exact HC0.out); rintro e w17 ⟨v17_0, rfl, ho0, hb⟩; refine ⟨_, rfl, ?_⟩; obtain ⟨n17_0, m17_0, hi_, hz_, hn_⟩ := laws_FnExactGapFor.sN (base := w.heap.size) ho0 HZ hb (by have := HI2_0.out; have := HI3_0.out; have := HI4.out; have := HI6_0.out; have := HI7_0.out; have := HI8.out; have := HI11_0.out; have := HI15.out; omega); have HI17_0 := Aside0.mk hi_; replace HO3_0 := RB HO3_0 hb; replace BK4 := KB BK4 hb; replace HO7_0 := RB HO7_0 hb; replace BK8 := KB BK8 hb; replace HZ := Aside0.mk hz_; have HO17_0 := Aside0.mk hn_; clear hi_ hz_ hn_ ho0; replace HB := BS hb; clear hb; obtain ⟨Ao17_0, co17_0, eo_⟩ := Kd.S_slice HO17_0.out; subst eo_; (try clear hcz4_21); (try clear hcz4_22); (try clear hcz4_23); (try clear hcz8_21); (try clear hcz8_22); (try clear hcz8_23); have hcz4_24 := cz3 BK4; have hcz8_24 := cz3 BK8) | ((with_reducible refine gate_callee (f := 48) rfl ?_); refine goesL_ (some 84) rfl rfl Tryd.func48 KR rfl #[.slice Ao17_0 t2_0.length co17_0, .string a1] rfl TA ?_; (with_reducible refine (impl_GapFor.calls k _ _ t2_0 a1 t7_0 t7_1 t7_2 t7_3 _ ?side1 ?side2 A7.out).mono ?_); (case side1 => exact CW ((Kd.S_reads' HO17_0.out).2.2)); (case side2 => exact (Kd.S_reads' HO17_0.out).2.1); rintro e w18 ⟨v18_0, rfl, ho0, hb⟩; refine ⟨_, rfl, ?_⟩; obtain ⟨n18_0, m18_0, hi_, hz_, hn_⟩ := laws_FnExactGapFor.rN (base := w.heap.size) ho0 HZ hb (by have := HI2_0.out; have := HI3_0.out; have := HI4.out; have := HI6_0.out; have := HI7_0.out; have := HI8.out; have := HI11_0.out; have := HI15.out; have := HI17_0.out; omega); have HI18_0 := Aside0.mk hi_; replace HO3_0 := RB HO3_0 hb; replace BK4 := KB BK4 hb; replace HO7_0 := RB HO7_0 hb; replace BK8 := KB BK8 hb; replace HZ := Aside0.mk hz_; have HO18_0 := Aside0.mk hn_; clear hi_ hz_ hn_ ho0; replace HB := BS hb; clear hb; obtain ⟨Ao18_0, co18_0, eo_⟩ := Kd.R_slice HO18_0.out; subst eo_; (try clear hcz4_22); (try clear hcz4_23); (try clear hcz4_24); (try clear hcz8_22); (try clear hcz8_23); (try clear hcz8_24); have hcz4_25 := cz3 BK4; have hcz8_25 := cz3 BK8) | ((with_reducible refine gate_dst (N := 14) rfl ?_); refine bE 14 #[.string (⟨#[]⟩ : ByteArray), .string (⟨#[]⟩ : ByteArray), .slice none 0 0] 44 ?_; intro gb19 hg w19 hbox hb; have BK19 := Aside0.mk hbox; have GE19 := bG hg; obtain ⟨hi_, hz_⟩ := laws_FnExactGapFor.zE HZ hg hbox; replace HZ := hz_; have HI19 := Aside0.mk hi_; replace HO3_0 := RB HO3_0 hb; replace BK4 := KB BK4 hb; replace HO7_0 := RB HO7_0 hb; replace BK8 := KB BK8 hb; replace HO18_0 := RB HO18_0 hb; replace HB := BS hb; clear hb hbox hg hi_ hz_; (try clear hcz4_23); (try clear hcz4_24); (try clear hcz4_25); (try clear hcz8_23); (try clear hcz8_24); (try clear hcz8_25); (try clear hcz19_23); (try clear hcz19_24); (try clear hcz19_25); have hcz4_26 := cz3 BK4; have hcz8_26 := cz3 BK8; have hcz19_26 := cz3 BK19) | ((with_reducible refine gate_store (t := 44) (p := 14) rfl ?_); refine store_event (t := 44) (p := 14) (v := ?vo_20) (w1 := (((w19.setCell ⟨gb19, 0, none⟩ (.string t7_0)).setCell ⟨gb19, 1, none⟩ (.string t7_1)).setCell ⟨gb19, 2, none⟩ (.slice Ao18_0 t7_2.length co18_0))) ?hg ?ho ?hn ?hr ?_; (case ho => rfl); (case hg => rfl); (case hn => rfl); (case hr => first | (go_simp; done) | (go_simp; rfl)); intro wt20 hw; have BKn := Aside0.mk (show wt20.heap[gb19]? = some (.cells #[.string t7_0, .string t7_1, .slice Ao18_0 t7_2.length co18_0] 44 (0, 0)) by rw [hw]; exact TS); replace HO3_0 := laws_FnExactGapFor.rS (g := gb19) (W := wt20) HO3_0 (by rw [hw]; repeat (with_reducible first | exact St.refl _ _ | apply St.set | apply St.alloc | apply St.drewN | apply St.drew)) (by have := HI2_0.out; have := HI3_0.out; have := HI4.out; have := HI6_0.out; have := HI7_0.out; have := HI8.out; have := HI11_0.out; have := HI15.out; have := HI17_0.out; have := HI18_0.out; have := HI19.out; omega); replace BK4 := laws_FnExactGapFor.bS (g := gb19) (W := wt20) BK4 (by rw [hw]; repeat (with_reducible first | exact St.refl _ _ | apply St.set | apply St.alloc | apply St.drewN | apply St.drew)) (by have := HI2_0.out; have := HI3_0.out; have := HI4.out; have := HI6_0.out; have := HI7_0.out; have := HI8.out; have := HI11_0.out; have := HI15.out; have := HI17_0.out; have := HI18_0.out; have := HI19.out; omega); replace HO7_0 := laws_FnExactGapFor.rS (g := gb19) (W := wt20) HO7_0 (by rw [hw]; repeat (with_reducible first | exact St.refl _ _ | apply St.set | apply St.alloc | apply St.drewN | apply St.drew)) (by have := HI2_0.out; have := HI3_0.out; have := HI4.out; have := HI6_0.out; have := HI7_0.out; have := HI8.out; have := HI11_0.out; have := HI15.out; have := HI17_0.out; have := HI18_0.out; have := HI19.out; omega); replace BK8 := laws_FnExactGapFor.bS (g := gb19) (W := wt20) BK8 (by rw [hw]; repeat (with_reducible first | exact St.refl _ _ | apply St.set | apply St.alloc | apply St.drewN | apply St.drew)) (by have := HI2_0.out; have := HI3_0.out; have := HI4.out; have := HI6_0.out; have := HI7_0.out; have := HI8.out; have := HI11_0.out; have := HI15.out; have := HI17_0.out; have := HI18_0.out; have := HI19.out; omega); replace HO18_0 := laws_FnExactGapFor.rS (g := gb19) (W := wt20) HO18_0 (by rw [hw]; repeat (with_reducible first | exact St.refl _ _ | apply St.set | apply St.alloc | apply St.drewN | apply St.drew)) (by have := HI2_0.out; have := HI3_0.out; have := HI4.out; have := HI6_0.out; have := HI7_0.out; have := HI8.out; have := HI11_0.out; have := HI15.out; have := HI17_0.out; have := HI18_0.out; have := HI19.out; omega); replace HZ := laws_FnExactGapFor.zS (g := gb19) (W := wt20) HZ (by rw [hw]; repeat (with_reducible first | exact St.refl _ _ | apply St.set | apply St.alloc | apply St.drewN | apply St.drew)); replace HB := Aside0.mk (show Below w.heap.size w wt20 by rw [hw]; exact TB); clear hw; replace BK19 := BKn; (try clear hcz4_24); (try clear hcz4_25); (try clear hcz4_26); (try clear hcz8_24); (try clear hcz8_25); (try clear hcz8_26); (try clear hcz19_24); (try clear hcz19_25); (try clear hcz19_26); have hcz4_27 := cz3 BK4; have hcz8_27 := cz3 BK8; have hcz19_27 := cz3 BK19) | ((with_reducible refine gate_callee (f := 26) rfl ?_); refine goesL_ (some 89) rfl rfl Tryd.func26 KR rfl #[.agg #[.string t7_0, .string t7_1, .slice Ao18_0 t7_2.length co18_0], .agg #[.string t3_0, .string t3_1, .slice Ao3_0 t3_2.length co3_0]] rfl TA ?_; (with_reducible refine (laws_eqGap.calls k t7_0 t7_1 _ _ t7_2 t3_0 t3_1 _ _ t3_2 true _ ?side1 ?side2 ?side3 ?side4 A10.out).mono ?_); (case side1 => exact CW ((Kd.R_reads' HO18_0.out).2.2)); (case side2 => exact (Kd.R_reads' HO18_0.out).2.1); (case side3 => exact CW ((Kd.R_reads' HO3_0.out).2.2)); (case side4 => exact (Kd.R_reads' HO3_0.out).2.1); rintro e w21 ⟨rfl, hb⟩; refine ⟨_, rfl, ?_⟩; replace HO7_0 := RB HO7_0 hb; replace BK8 := KB BK8 hb; replace HZ := laws_FnExactGapFor.zB HZ hb; replace HB := BS hb; clear hb; (try clear hcz8_27); (try clear hcz8_28); (try clear hcz8_29); have hcz8_30 := cz3 BK8) | ((with_reducible refine gate_callee (f := 51) rfl ?_); refine goesL_ (some 98) rfl rfl Tryd.func51 KR rfl #[.agg #[.string t7_0, .string t7_1, .slice Ao7_0 t15_1.length co7_0], .int .i64 1] rfl TA ?_; (with_reducible refine (laws_heldGap.calls k t7_0 t7_1 _ _ t15_1 1 t16_0 _ ?side1 ?side2 A16.out).mono ?_); (case side1 => exact CW ((Kd.R_reads' HO7_0.out).2.2)); (case side2 => exact (Kd.R_reads' HO7_0.out).2.1); rintro e w22 ⟨rfl, hb⟩; refine ⟨_, rfl, ?_⟩; replace HZ := laws_FnExactGapFor.zB HZ hb; replace HB := BS hb; clear hb))
      go_ret
      exact ⟨TE, TB⟩
end
end Go.Proofs.YthckpgglghfiiaaDoor.Pp
