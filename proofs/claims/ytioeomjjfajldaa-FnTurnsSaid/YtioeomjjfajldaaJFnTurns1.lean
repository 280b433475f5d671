/- The functions that the law reaches, one Lean function and its proof for each; written by wip/pp of this workplace, joined by claimit.py. -/
import Derived.Test.YtioeomjjfajldaaProg
import Derived.Below
import Derived.Deep.Draws
import Derived.Deep.AppendLies
import Derived.Maps.AppendAt
import Derived.OwnWalk
import Derived.Laws.BytesArg
import Derived.Laws.MakeOwn
import Derived.Laws.OwnMore
import Derived.Deep.OwnRows
import Derived.Tactics
import Derived.Lib.ConvBytes
import Derived.Laws.Slices
import Derived.WalkKit
import Derived.KernelRfl
import Derived.RowKit3
import Derived.Deep.LoopGhost
import Derived.Deep.QuietTactic
import Derived.BigQuiet
import Derived.WideLaws
import Derived.Deep.DeepCutAuto
import Derived.Deep.CutBlock
import Derived.Deep.RegionHeld3
import Derived.Laws.Rows
import Derived.Lib.AppendStr
import Derived.ArgAppend
import Derived.Laws.IdiomCopy
import Derived.OrdersHeld
import Derived.Laws.BitsLemmas
import Derived.RowKit
import Derived.Test.YtioeomjjfajldaaXWords
import Derived.Test.YtioeomjjfajldaaXSq
import Derived.Test.YtioeomjjfajldaaWWords
import Derived.Test.YtioeomjjfajldaaWLast
import Derived.Test.YtioeomjjfajldaaWTab
import Derived.Test.YtioeomjjfajldaaWFour
import Derived.Test.YtioeomjjfajldaaWQPut
import Derived.Test.YtioeomjjfajldaaWApart
import Derived.Test.YtioeomjjfajldaaWArr
import Derived.Test.YtioeomjjfajldaaWZeros
import Derived.Test.YtioeomjjfajldaaWFoot
import Derived.Test.YtioeomjjfajldaaWKept
import Derived.Test.YtioeomjjfajldaaWShare
import Derived.Test.YtioeomjjfajldaaWN
import Derived.Test.YtioeomjjfajldaaWFootNe
import Derived.Test.YtioeomjjfajldaaWAt
import Derived.Test.YtioeomjjfajldaaWEqStruct
import Derived.Test.YtioeomjjfajldaaWRepsOne
import Derived.Test.YtioeomjjfajldaaWInv
import Derived.Test.YtioeomjjfajldaaWInvWords
import Derived.Test.YtioeomjjfajldaaWGuard
import Derived.Test.YtioeomjjfajldaaWNEv
import Derived.Test.YtioeomjjfajldaaWMore
import Derived.Test.YtioeomjjfajldaaJFnTurns0
namespace Go.Proofs.Ytioeomjjfajldaa.Pp
open Go.RowKit Go.Proofs.YtioeomjjfajldaaW.PrintWords Go.Proofs.YtioeomjjfajldaaW.PrintLast Go.Proofs.YtioeomjjfajldaaW.PrintMore
attribute [local go_sem] max2_int min2_int max_two min_two max_three min_three max_four min_four   -- for this text's walks alone
set_option linter.unusedVariables false
set_option linter.unusedSimpArgs false
set_option maxHeartbeats 8000000
set_option maxRecDepth 100000

section
/-- A state of type 93 at block g of W; what its slices lead to came in by w0. -/
def IsSPl1Cur (w0 W : World) (g : Nat) (f0 : List Int) (f1 : Int) (f2 : Int) : Prop := ∃ A0 c0, W.heap[g]? = some (.cells #[.slice A0 f0.length c0, .int .i64 f1, .int .u64 f2] 93 (0, 0)) ∧ w0.heap.size ≤ g ∧ Kd.C (Kd.int .u8) w0 A0 f0.length f0
theorem IsSPl1Cur.grown {w0 W : World} {g : Nat} {f0 : List Int} {f1 : Int} {f2 : Int} {W1 : World} {row : Option Nat} (h : IsSPl1Cur w0 W g f0 f1 f2) (hw : W.grownBy W1 row) (hne : some g ≠ row) : IsSPl1Cur w0 W1 g f0 f1 f2 := by
 obtain ⟨A0, c0, hb, hg, hr0⟩ := h
 exact ⟨A0, c0, blk_grown hb hw hne, hg, hr0⟩
theorem IsSPl1Cur.own_neN {w0 W : World} {g : Nat} {f0 : List Int} {f1 : Int} {f2 : Int} {α : Type} {d : Kd α} {e : Nat} {base : Nat} {ok : Nat → Prop} {v : Value} {xs : List α} (h : IsSPl1Cur w0 W g f0 f1 f2) (ho : Kd.N d e W base ok v xs) (ht : e ≠ 93) : some g ≠ v.ownBlock := by
 obtain ⟨A0, c0, hb, hg, hr0⟩ := h
 exact Kd.N_ne ho hb ht
theorem IsSPl1Cur.fresh {w0 W : World} {g : Nat} {f0 : List Int} {f1 : Int} {f2 : Int} (h : IsSPl1Cur w0 W g f0 f1 f2) : ∀ k, W.heap.size ≤ k → k ≠ g := by
 obtain ⟨A0, c0, hb, hg, hr0⟩ := h
 exact Kd.freshB hb
theorem IsSPl1Cur.kept {w0 W : World} {g : Nat} {f0 : List Int} {f1 : Int} {f2 : Int} {W1 : World} {S : Nat → Prop} (h : IsSPl1Cur w0 W g f0 f1 f2) (hk : Kept W W1 S) (hne : ¬ S g) : IsSPl1Cur w0 W1 g f0 f1 f2 := by
 obtain ⟨A0, c0, hb, hg, hr0⟩ := h
 exact ⟨A0, c0, blk_kept hb hk hne, hg, hr0⟩
theorem IsSPl1Cur.below {w0 W : World} {g : Nat} {f0 : List Int} {f1 : Int} {f2 : Int} {W1 : World} (h : IsSPl1Cur w0 W g f0 f1 f2) (hw : Below W.heap.size W W1) : IsSPl1Cur w0 W1 g f0 f1 f2 := h.grown (grown_of_below hw none) (by simp)
theorem IsSPl1Cur.alloc {w0 W : World} {g : Nat} {f0 : List Int} {f1 : Int} {f2 : Int} (h : IsSPl1Cur w0 W g f0 f1 f2) (o : Obj) : IsSPl1Cur w0 (W.alloc o) g f0 f1 f2 := h.below (below_alloc (Below.refl _ _) o)
theorem IsSPl1Cur.drewN {w0 W : World} {g : Nat} {f0 : List Int} {f1 : Int} {f2 : Int} (h : IsSPl1Cur w0 W g f0 f1 f2) (m : Nat) : IsSPl1Cur w0 (W.drewN m) g f0 f1 f2 := h
theorem IsSPl1Cur.drew {w0 W : World} {g : Nat} {f0 : List Int} {f1 : Int} {f2 : Int} (h : IsSPl1Cur w0 W g f0 f1 f2) : IsSPl1Cur w0 W.drew g f0 f1 f2 := h
theorem IsSPl1Cur.at_ {w0 W : World} {g : Nat} {f0 : List Int} {f1 : Int} {f2 : Int} {w' : World} {m : Nat} (hq : W.drewN m = w') (h : IsSPl1Cur w0 W g f0 f1 f2) : IsSPl1Cur w0 w' g f0 f1 f2 := by subst hq; exact IsSPl1Cur.drewN h m
theorem IsSPl1Cur.apart {w0 W : World} {g : Nat} {f0 : List Int} {f1 : Int} {f2 : Int} {α : Type} {d : Kd α} {e : Nat} {base : Nat} {ok : Nat → Prop} {v : Value} {xs : List α} (h : IsSPl1Cur w0 W g f0 f1 f2) (ho : d.R e W base ok v xs) (ht : ∀ q, q ∈ e :: d.E → q ≠ 93) : d.R e W base (fun k => ok k ∧ k ≠ g) v xs := by
 obtain ⟨A0, c0, hb, hg, hr0⟩ := h
 exact Kd.R_types ho hb ht
theorem IsSPl1Cur.own_ne {w0 W : World} {g : Nat} {f0 : List Int} {f1 : Int} {f2 : Int} {α : Type} {d : Kd α} {e : Nat} {base : Nat} {ok : Nat → Prop} {v : Value} {xs : List α} (h : IsSPl1Cur w0 W g f0 f1 f2) (ho : d.R e W base ok v xs) (ht : e ≠ 93) : some g ≠ v.ownBlock := by
 obtain ⟨A0, c0, hb, hg, hr0⟩ := h
 exact Kd.R_ne ho hb ht
theorem IsSPl1Cur.apartQ {w0 W : World} {g : Nat} {f0 : List Int} {f1 : Int} {f2 : Int} {α : Type} {d : Kd α} {e : Nat} {base : Nat} {ok : Nat → Prop} {v : Value} {xs : List α} (h : IsSPl1Cur w0 W g f0 f1 f2) (ho : d.Q e W base ok v xs) (ht : ∀ q, q ∈ e :: d.E → q ≠ 93) : d.Q e W base (fun k => ok k ∧ k ≠ g) v xs := by
 obtain ⟨A0, c0, hb, hg, hr0⟩ := h
 exact Kd.Q_types ho hb ht
theorem IsSPl1Cur.own_neQ {w0 W : World} {g : Nat} {f0 : List Int} {f1 : Int} {f2 : Int} {α : Type} {d : Kd α} {e : Nat} {base : Nat} {ok : Nat → Prop} {v : Value} {xs : List α} (h : IsSPl1Cur w0 W g f0 f1 f2) (ho : d.Q e W base ok v xs) (ht : e ≠ 93) : some g ≠ v.ownBlock := by
 obtain ⟨A0, c0, hb, hg, hr0⟩ := h
 exact Kd.Q_ne ho hb ht
theorem IsSPl1Cur.apartS {w0 W : World} {g : Nat} {f0 : List Int} {f1 : Int} {f2 : Int} {α : Type} {d : Kd α} {e : Nat} {base : Nat} {ok : Nat → Prop} {v : Value} {xs : List α} (h : IsSPl1Cur w0 W g f0 f1 f2) (ho : d.S e W base ok v xs) (ht : ∀ q, q ∈ e :: d.E → q ≠ 93) : d.S e W base (fun k => ok k ∧ k ≠ g) v xs := by
 obtain ⟨A0, c0, hb, hg, hr0⟩ := h
 exact Kd.S_types ho hb ht
theorem IsSPl1Cur.own_neS {w0 W : World} {g : Nat} {f0 : List Int} {f1 : Int} {f2 : Int} {α : Type} {d : Kd α} {e : Nat} {base : Nat} {ok : Nat → Prop} {v : Value} {xs : List α} (h : IsSPl1Cur w0 W g f0 f1 f2) (ho : d.S e W base ok v xs) (ht : e ≠ 93) : some g ≠ v.ownBlock := by
 obtain ⟨A0, c0, hb, hg, hr0⟩ := h
 exact Kd.S_ne ho hb ht
theorem IsSPl1Cur.lt {w0 W : World} {g : Nat} {f0 : List Int} {f1 : Int} {f2 : Int} (h : IsSPl1Cur w0 W g f0 f1 f2) : g < W.heap.size := by
 obtain ⟨A0, c0, hb, hg, hr0⟩ := h
 exact blk_lt hb
theorem IsSPl1Cur.ge {w0 W : World} {g : Nat} {f0 : List Int} {f1 : Int} {f2 : Int} (h : IsSPl1Cur w0 W g f0 f1 f2) : w0.heap.size ≤ g := by
 obtain ⟨A0, c0, hb, hg, hr0⟩ := h
 exact hg
theorem IsSPl1Cur.ne_blk {w0 W : World} {g : Nat} {f0 : List Int} {f1 : Int} {f2 : Int} {a : Nat} {cs : Array Value} {t : TypeId} {fr : Nat × Nat} (h : IsSPl1Cur w0 W g f0 f1 f2) (hb2 : W.heap[a]? = some (.cells cs t fr)) (ht : t ≠ 93) : g ≠ a := by
 obtain ⟨A0, c0, hb, hg, hr0⟩ := h
 rintro rfl
 rw [hb] at hb2
 injection hb2 with hb2
 injection hb2 with _ ht2
 exact ht ht2.symm
theorem IsSPl1Cur.far {w0 W : World} {g : Nat} {f0 : List Int} {f1 : Int} {f2 : Int} {p : Addr} (h : IsSPl1Cur w0 W g f0 f1 f2) (hne : g ≠ p.block) (u : Value) : IsSPl1Cur w0 (W.setCell p u) g f0 f1 f2 := by
 obtain ⟨A0, c0, hb, hg, hr0⟩ := h
 exact ⟨A0, c0, blk_far hb hne u, hg, hr0⟩
theorem cellSPl1Cur_0 {W : World} {g : Nat} {A0 : Option Addr} {c0 : Nat} {f0 : List Int} {f1 : Int} {f2 : Int} (h : W.heap[g]? = some (.cells #[.slice A0 f0.length c0, .int .i64 f1, .int .u64 f2] 93 (0, 0))) : W.cell? ⟨g, 0, none⟩ = some (.slice A0 f0.length c0) := (blk_cell h 0).trans rfl
theorem cellSPl1Cur_1 {W : World} {g : Nat} {A0 : Option Addr} {c0 : Nat} {f0 : List Int} {f1 : Int} {f2 : Int} (h : W.heap[g]? = some (.cells #[.slice A0 f0.length c0, .int .i64 f1, .int .u64 f2] 93 (0, 0))) : W.cell? ⟨g, 1, none⟩ = some (.int .i64 f1) := (blk_cell h 1).trans rfl
theorem IsSPl1Cur.set_1 {w0 W : World} {g : Nat} {f0 : List Int} {f1 : Int} {f2 : Int} (h : IsSPl1Cur w0 W g f0 f1 f2) (x : Int) : IsSPl1Cur w0 (W.setCell ⟨g, 1, none⟩ (.int .i64 x)) g f0 x f2 := by
 obtain ⟨A0, c0, hb, hg, hr0⟩ := h
 exact ⟨A0, c0, by simpa using blk_set hb 1 (.int .i64 x), hg, hr0⟩
theorem cellSPl1Cur_2 {W : World} {g : Nat} {A0 : Option Addr} {c0 : Nat} {f0 : List Int} {f1 : Int} {f2 : Int} (h : W.heap[g]? = some (.cells #[.slice A0 f0.length c0, .int .i64 f1, .int .u64 f2] 93 (0, 0))) : W.cell? ⟨g, 2, none⟩ = some (.int .u64 f2) := (blk_cell h 2).trans rfl
theorem IsSPl1Cur.set_2 {w0 W : World} {g : Nat} {f0 : List Int} {f1 : Int} {f2 : Int} (h : IsSPl1Cur w0 W g f0 f1 f2) (x : Int) : IsSPl1Cur w0 (W.setCell ⟨g, 2, none⟩ (.int .u64 x)) g f0 f1 x := by
 obtain ⟨A0, c0, hb, hg, hr0⟩ := h
 exact ⟨A0, c0, by simpa using blk_set hb 2 (.int .u64 x), hg, hr0⟩
theorem IsSPl1Cur.new (w0 W : World) (A0 : Option Addr) (c0 : Nat) (f0 : List Int) (f1 : Int) (f2 : Int) (hB : Below w0.heap.size w0 W) (hr0 : Kd.C (Kd.int .u8) w0 A0 f0.length f0) : IsSPl1Cur w0 (W.alloc (.cells #[.slice A0 f0.length c0, .int .i64 f1, .int .u64 f2] 93)) W.heap.size f0 f1 f2 := ⟨A0, c0, by simpa using heap_alloc_new W _, hB.size, hr0⟩

/-! ### spec_l1Cur_next: function 91 -/
def spec_l1Cur_next.f (s0_0 : List Int) (s0_1 : Int) (s0_2 : Int) : Option (Int × Int × Int) := if s0_1 < (s0_0.length : Int) then (if 0 ≤ s0_1 then (if (wrap64 (s0_1 + 1)) ≤ (s0_0.length : Int) then (some (wrap64 (rd s0_0 s0_1), wrap64 (s0_1 + 1), IntKind.u64.wrap ((IntKind.u64.wrap ((IntKind.u64.wrap (s0_2 * 6364136223846793005)) + (IntKind.u64.wrap (wrap64 (rd s0_0 s0_1))))) + 1442695040888963407))) else (some (wrap64 (Go.bits .and .u64 ((IntKind.u64.wrap ((IntKind.u64.wrap ((IntKind.u64.wrap (s0_2 * 6364136223846793005)) + (IntKind.u64.wrap (wrap64 (rd s0_0 s0_1))))) + 1442695040888963407)) / 1099511627776) 255), wrap64 (s0_1 + 1), IntKind.u64.wrap ((IntKind.u64.wrap ((IntKind.u64.wrap (s0_2 * 6364136223846793005)) + (IntKind.u64.wrap (wrap64 (rd s0_0 s0_1))))) + 1442695040888963407)))) else (none)) else (if (wrap64 (s0_1 + 1)) ≤ (s0_0.length : Int) then (some (0, wrap64 (s0_1 + 1), IntKind.u64.wrap ((IntKind.u64.wrap ((IntKind.u64.wrap (s0_2 * 6364136223846793005)))) + 1442695040888963407))) else (some (wrap64 (Go.bits .and .u64 ((IntKind.u64.wrap ((IntKind.u64.wrap ((IntKind.u64.wrap (s0_2 * 6364136223846793005)))) + 1442695040888963407)) / 1099511627776) 255), wrap64 (s0_1 + 1), IntKind.u64.wrap ((IntKind.u64.wrap ((IntKind.u64.wrap (s0_2 * 6364136223846793005)))) + 1442695040888963407))))
theorem spec_l1Cur_next.calls (g : Nat) (s0_0 : List Int) (s0_1 : Int) (s0_2 : Int) (r1 : Int) (r2 : Int) (r3 : Int) (w0 w : World) (hI : IsSPl1Cur w0 w g s0_0 s0_1 s0_2) (hB : Below w0.heap.size w0 w) (h : spec_l1Cur_next.f s0_0 s0_1 s0_2 = some (r1, r2, r3)) :
  Calls Try.prog 91 #[.pointer (some ⟨g, 0, none⟩)] w fun e w' => e = .returned (.int .i64 r1) ∧ IsSPl1Cur w0 w' g s0_0 r2 r3 ∧ Below w0.heap.size w0 w' ∧ KeepBut w w' g none := by
 have HI0 := Aside0.mk hI
 have HK := Aside0.mk (KeepBut.refl w g none)
 have HL := Aside0.mk hB.size
 clear hI
 have HW0 := Aside0.mk hB.size
 have HB := Aside0.mk hB
 clear hB
 have H : (if s0_1 < (s0_0.length : Int) then (if 0 ≤ s0_1 then (if (wrap64 (s0_1 + 1)) ≤ (s0_0.length : Int) then (some (wrap64 (rd s0_0 s0_1), wrap64 (s0_1 + 1), IntKind.u64.wrap ((IntKind.u64.wrap ((IntKind.u64.wrap (s0_2 * 6364136223846793005)) + (IntKind.u64.wrap (wrap64 (rd s0_0 s0_1))))) + 1442695040888963407))) else (some (wrap64 (Go.bits .and .u64 ((IntKind.u64.wrap ((IntKind.u64.wrap ((IntKind.u64.wrap (s0_2 * 6364136223846793005)) + (IntKind.u64.wrap (wrap64 (rd s0_0 s0_1))))) + 1442695040888963407)) / 1099511627776) 255), wrap64 (s0_1 + 1), IntKind.u64.wrap ((IntKind.u64.wrap ((IntKind.u64.wrap (s0_2 * 6364136223846793005)) + (IntKind.u64.wrap (wrap64 (rd s0_0 s0_1))))) + 1442695040888963407)))) else (none)) else (if (wrap64 (s0_1 + 1)) ≤ (s0_0.length : Int) then (some (0, wrap64 (s0_1 + 1), IntKind.u64.wrap ((IntKind.u64.wrap ((IntKind.u64.wrap (s0_2 * 6364136223846793005)))) + 1442695040888963407))) else (some (wrap64 (Go.bits .and .u64 ((IntKind.u64.wrap ((IntKind.u64.wrap ((IntKind.u64.wrap (s0_2 * 6364136223846793005)))) + 1442695040888963407)) / 1099511627776) 255), wrap64 (s0_1 + 1), IntKind.u64.wrap ((IntKind.u64.wrap ((IntKind.u64.wrap (s0_2 * 6364136223846793005)))) + 1442695040888963407))))) = some (r1, r2, r3) := h
 clear h
 by_cases c2 : s0_1 < (s0_0.length : Int)
 ·rw [if_pos c2] at H
  have c2b0 : decide (s0_1 < (s0_0.length : Int)) = true := decide_eq_true c2
  clear c2
  obtain ⟨c3, H⟩ := ifn H
  have c3b0 : decide (0 ≤ s0_1) = true := decide_eq_true c3
  clear c3
  by_cases c4 : (wrap64 (s0_1 + 1)) ≤ (s0_0.length : Int)
  ·rw [if_pos c4] at H
   have c4b0 : decide ((wrap64 (s0_1 + 1)) ≤ (s0_0.length : Int)) = true := decide_eq_true c4
   clear c4
   simp only [Option.some.injEq, Prod.mk.injEq] at H
   obtain ⟨rfl, rfl, rfl⟩ := H
   obtain ⟨ASz5_0, cSz5_0, HGz5, hgz5, HSz5_0⟩ := HI0.out
   have hcz5_0 := cellSPl1Cur_0 HGz5
   have hcz5_1 := cellSPl1Cur_1 HGz5
   have hcz5_2 := cellSPl1Cur_2 HGz5
   have hfz5_1 := blk_frozen HGz5 1
   have hfz5_2 := blk_frozen HGz5 2
   clear HGz5 hgz5
   have p101 : 0 ≤ (s0_1 : Int) := TD
   have q101 : s0_1 < (s0_0.length : Int) := TD
   obtain ⟨ad101, e101, hx101_0⟩ := Kd.at_int HSz5_0 s0_1 p101 q101
   cases e101
   replace hx101_0 := pw_cell_below HB.out hx101_0
   replace p101 := eq_true p101
   replace q101 := eq_true q101
   go_enter Try.func91, Try.ntmps91
   go_wp2
   repeat (go_quiet (fail); try go_wp2)
   go_ret
   exact ⟨TE, by repeat (first | (with_reducible first | exact HI0.out | apply IsSPl1Cur.alloc | apply IsSPl1Cur.drewN | apply IsSPl1Cur.drew | apply IsSPl1Cur.set_1 | apply IsSPl1Cur.set_2) | exact HI0.out), by repeat (first | (with_reducible first | exact HB.out | apply below_alloc | apply pw_below_drewN | apply below_drew1 | refine below_set ?_ (IsSPl1Cur.ge HI0.out)) | exact HB.out), by repeat (first | (with_reducible first | exact HK.out | apply KeepBut.set_ | apply keep_drewN | apply keep_drew | apply keep_alloc) | exact HK.out)⟩
  ·rw [if_neg c4] at H
   have c4b0 : decide ((wrap64 (s0_1 + 1)) ≤ (s0_0.length : Int)) = false := decide_eq_false c4
   clear c4
   simp only [Option.some.injEq, Prod.mk.injEq] at H
   obtain ⟨rfl, rfl, rfl⟩ := H
   obtain ⟨ASz6_0, cSz6_0, HGz6, hgz6, HSz6_0⟩ := HI0.out
   have hcz6_0 := cellSPl1Cur_0 HGz6
   have hcz6_1 := cellSPl1Cur_1 HGz6
   have hcz6_2 := cellSPl1Cur_2 HGz6
   have hfz6_1 := blk_frozen HGz6 1
   have hfz6_2 := blk_frozen HGz6 2
   clear HGz6 hgz6
   have p101 : 0 ≤ (s0_1 : Int) := TD
   have q101 : s0_1 < (s0_0.length : Int) := TD
   obtain ⟨ad101, e101, hx101_0⟩ := Kd.at_int HSz6_0 s0_1 p101 q101
   cases e101
   replace hx101_0 := pw_cell_below HB.out hx101_0
   replace p101 := eq_true p101
   replace q101 := eq_true q101
   go_enter Try.func91, Try.ntmps91
   go_wp2
   repeat (go_quiet (fail); try go_wp2)
   go_ret
   exact ⟨TE, by repeat (first | (with_reducible first | exact HI0.out | apply IsSPl1Cur.alloc | apply IsSPl1Cur.drewN | apply IsSPl1Cur.drew | apply IsSPl1Cur.set_1 | apply IsSPl1Cur.set_2) | exact HI0.out), by repeat (first | (with_reducible first | exact HB.out | apply below_alloc | apply pw_below_drewN | apply below_drew1 | refine below_set ?_ (IsSPl1Cur.ge HI0.out)) | exact HB.out), by repeat (first | (with_reducible first | exact HK.out | apply KeepBut.set_ | apply keep_drewN | apply keep_drew | apply keep_alloc) | exact HK.out)⟩
 ·rw [if_neg c2] at H
  have c2b0 : decide (s0_1 < (s0_0.length : Int)) = false := decide_eq_false c2
  clear c2
  by_cases c7 : (wrap64 (s0_1 + 1)) ≤ (s0_0.length : Int)
  ·rw [if_pos c7] at H
   have c7b0 : decide ((wrap64 (s0_1 + 1)) ≤ (s0_0.length : Int)) = true := decide_eq_true c7
   clear c7
   simp only [Option.some.injEq, Prod.mk.injEq] at H
   obtain ⟨rfl, rfl, rfl⟩ := H
   obtain ⟨ASz8_0, cSz8_0, HGz8, hgz8, HSz8_0⟩ := HI0.out
   have hcz8_0 := cellSPl1Cur_0 HGz8
   have hcz8_1 := cellSPl1Cur_1 HGz8
   have hcz8_2 := cellSPl1Cur_2 HGz8
   have hfz8_1 := blk_frozen HGz8 1
   have hfz8_2 := blk_frozen HGz8 2
   clear HGz8 hgz8
   go_enter Try.func91, Try.ntmps91
   go_wp2
   repeat (go_quiet (fail); try go_wp2)
   go_ret
   exact ⟨TE, by repeat (first | (with_reducible first | exact HI0.out | apply IsSPl1Cur.alloc | apply IsSPl1Cur.drewN | apply IsSPl1Cur.drew | apply IsSPl1Cur.set_1 | apply IsSPl1Cur.set_2) | exact HI0.out), by repeat (first | (with_reducible first | exact HB.out | apply below_alloc | apply pw_below_drewN | apply below_drew1 | refine below_set ?_ (IsSPl1Cur.ge HI0.out)) | exact HB.out), by repeat (first | (with_reducible first | exact HK.out | apply KeepBut.set_ | apply keep_drewN | apply keep_drew | apply keep_alloc) | exact HK.out)⟩
  ·rw [if_neg c7] at H
   have c7b0 : decide ((wrap64 (s0_1 + 1)) ≤ (s0_0.length : Int)) = false := decide_eq_false c7
   clear c7
   simp only [Option.some.injEq, Prod.mk.injEq] at H
   obtain ⟨rfl, rfl, rfl⟩ := H
   obtain ⟨ASz9_0, cSz9_0, HGz9, hgz9, HSz9_0⟩ := HI0.out
   have hcz9_0 := cellSPl1Cur_0 HGz9
   have hcz9_1 := cellSPl1Cur_1 HGz9
   have hcz9_2 := cellSPl1Cur_2 HGz9
   have hfz9_1 := blk_frozen HGz9 1
   have hfz9_2 := blk_frozen HGz9 2
   clear HGz9 hgz9
   go_enter Try.func91, Try.ntmps91
   go_wp2
   repeat (go_quiet (fail); try go_wp2)
   go_ret
   exact ⟨TE, by repeat (first | (with_reducible first | exact HI0.out | apply IsSPl1Cur.alloc | apply IsSPl1Cur.drewN | apply IsSPl1Cur.drew | apply IsSPl1Cur.set_1 | apply IsSPl1Cur.set_2) | exact HI0.out), by repeat (first | (with_reducible first | exact HB.out | apply below_alloc | apply pw_below_drewN | apply below_drew1 | refine below_set ?_ (IsSPl1Cur.ge HI0.out)) | exact HB.out), by repeat (first | (with_reducible first | exact HK.out | apply KeepBut.set_ | apply keep_drewN | apply keep_drew | apply keep_alloc) | exact HK.out)⟩
end
section
/-! ### spec_l1Cur_pick: function 81 -/
def spec_l1Cur_pick.f (s0_0 : List Int) (s0_1 : Int) (s0_2 : Int) (a1 : Int) : Option (Int × Int × Int) := if a1 ≤ 1 then (some (0, s0_1, s0_2)) else ((spec_l1Cur_next.f s0_0 s0_1 s0_2).bind fun bt102 => (if a1 > 200 then ((spec_l1Cur_next.f s0_0 bt102.2.1 bt102.2.2).bind fun bt105 => (if a1 = 0 then (none) else (some (Int.tmod (wrap64 ((wrap64 (bt102.1 * 256)) + bt105.1)) a1, bt105.2.1, bt105.2.2)))) else (if a1 = 0 then (none) else (some (Int.tmod bt102.1 a1, bt102.2.1, bt102.2.2)))))
theorem spec_l1Cur_pick.calls (g : Nat) (s0_0 : List Int) (s0_1 : Int) (s0_2 : Int) (a1 : Int) (r1 : Int) (r2 : Int) (r3 : Int) (w0 w : World) (hI : IsSPl1Cur w0 w g s0_0 s0_1 s0_2) (hB : Below w0.heap.size w0 w) (h : spec_l1Cur_pick.f s0_0 s0_1 s0_2 a1 = some (r1, r2, r3)) :
  Calls Try.prog 81 #[.pointer (some ⟨g, 0, none⟩), .int .i64 a1] w fun e w' => e = .returned (.int .i64 r1) ∧ IsSPl1Cur w0 w' g s0_0 r2 r3 ∧ Below w0.heap.size w0 w' ∧ KeepBut w w' g none := by
 have HI0 := Aside0.mk hI
 have HK := Aside0.mk (KeepBut.refl w g none)
 have HL := Aside0.mk hB.size
 clear hI
 have HW0 := Aside0.mk hB.size
 have HB := Aside0.mk hB
 clear hB
 have H : (if a1 ≤ 1 then (some (0, s0_1, s0_2)) else ((spec_l1Cur_next.f s0_0 s0_1 s0_2).bind fun bt102 => (if a1 > 200 then ((spec_l1Cur_next.f s0_0 bt102.2.1 bt102.2.2).bind fun bt105 => (if a1 = 0 then (none) else (some (Int.tmod (wrap64 ((wrap64 (bt102.1 * 256)) + bt105.1)) a1, bt105.2.1, bt105.2.2)))) else (if a1 = 0 then (none) else (some (Int.tmod bt102.1 a1, bt102.2.1, bt102.2.2)))))) = some (r1, r2, r3) := h
 clear h
 by_cases c3 : a1 ≤ 1
 ·rw [if_pos c3] at H
  have c3b0 : decide (a1 ≤ 1) = true := decide_eq_true c3
  clear c3
  simp only [Option.some.injEq, Prod.mk.injEq] at H
  obtain ⟨rfl, rfl, rfl⟩ := H
  go_enter Try.func81, Try.ntmps81
  go_wp2
  go_ret
  exact ⟨TE, by repeat (first | (with_reducible first | exact HI0.out | apply IsSPl1Cur.alloc | apply IsSPl1Cur.drewN | apply IsSPl1Cur.drew | apply IsSPl1Cur.set_1 | apply IsSPl1Cur.set_2) | exact HI0.out), by repeat (first | (with_reducible first | exact HB.out | apply below_alloc | apply pw_below_drewN | apply below_drew1 | refine below_set ?_ (IsSPl1Cur.ge HI0.out)) | exact HB.out), by repeat (first | (with_reducible first | exact HK.out | apply KeepBut.set_ | apply keep_drewN | apply keep_drew | apply keep_alloc) | exact HK.out)⟩
 ·rw [if_neg c3] at H
  have c3b0 : decide (a1 ≤ 1) = false := decide_eq_false c3
  clear c3
  obtain ⟨⟨t102, t103, t104⟩, A4, H⟩ := bnd H
  try dsimp only at H
  by_cases c5 : a1 > 200
  ·rw [if_pos c5] at H
   have c5b0 : decide (200 < a1) = true := decide_eq_true c5
   clear c5
   obtain ⟨⟨t105, t106, t107⟩, A6, H⟩ := bnd H
   try dsimp only at H
   obtain ⟨c7, H⟩ := ifm H
   have c7b0 : (a1 == 0) = false := beq_eq_false_iff_ne.mpr c7
   have c7b1 : (a1 != 0) = true := bne_iff_ne.mpr c7
   simp only [Option.some.injEq, Prod.mk.injEq] at H
   obtain ⟨rfl, rfl, rfl⟩ := H
   go_enter Try.func81, Try.ntmps81
   go_wp2_with (first | ((with_reducible refine gate_callee (f := 91) rfl ?_); refine goesL_ (some 9) rfl rfl Try.func91 KR rfl #[.pointer (some ⟨g, 0, none⟩)] rfl TA ?_; (with_reducible refine (spec_l1Cur_next.calls g s0_0 s0_1 s0_2 t102 t103 t104 w0 _ ?side1 ?side2 A4.out).mono ?_); (case side1 => repeat (first | (with_reducible first | exact HI0.out | apply IsSPl1Cur.alloc | apply IsSPl1Cur.drewN | apply IsSPl1Cur.drew | apply IsSPl1Cur.set_1 | apply IsSPl1Cur.set_2) | exact HI0.out)); (case side2 => repeat (first | (with_reducible first | exact HB.out | apply below_alloc | apply pw_below_drewN | apply below_drew1 | refine below_set ?_ (IsSPl1Cur.ge HI0.out)) | exact HB.out)); rintro e w8 ⟨rfl, hi, hb, hk⟩; refine ⟨_, rfl, ?_⟩; replace HK := Aside0.mk (KeepBut.trans (by repeat (first | (with_reducible first | exact HK.out | apply KeepBut.set_ | apply keep_drewN | apply keep_drew | apply keep_alloc) | exact HK.out)) hk (.inl rfl)); replace HB := Aside0.mk (hb); replace HI0 := Aside0.mk (hi); clear hb hk hi) | ((with_reducible refine gate_callee (f := 91) rfl ?_); refine goesL_ (some 15) rfl rfl Try.func91 KR rfl #[.pointer (some ⟨g, 0, none⟩)] rfl TA ?_; (with_reducible refine (spec_l1Cur_next.calls g s0_0 t103 t104 t105 t106 t107 w0 _ ?side1 ?side2 A6.out).mono ?_); (case side1 => repeat (first | (with_reducible first | exact HI0.out | apply IsSPl1Cur.alloc | apply IsSPl1Cur.drewN | apply IsSPl1Cur.drew | apply IsSPl1Cur.set_1 | apply IsSPl1Cur.set_2) | exact HI0.out)); (case side2 => repeat (first | (with_reducible first | exact HB.out | apply below_alloc | apply pw_below_drewN | apply below_drew1 | refine below_set ?_ (IsSPl1Cur.ge HI0.out)) | exact HB.out)); rintro e w9 ⟨rfl, hi, hb, hk⟩; refine ⟨_, rfl, ?_⟩; replace HK := Aside0.mk (KeepBut.trans (by repeat (first | (with_reducible first | exact HK.out | apply KeepBut.set_ | apply keep_drewN | apply keep_drew | apply keep_alloc) | exact HK.out)) hk (.inl rfl)); replace HB := Aside0.mk (hb); replace HI0 := Aside0.mk (hi); clear hb hk hi))
   go_ret
   exact ⟨TE, by repeat (first | (with_reducible first | exact HI0.out | apply IsSPl1Cur.alloc | apply IsSPl1Cur.drewN | apply IsSPl1Cur.drew | apply IsSPl1Cur.set_1 | apply IsSPl1Cur.set_2) | exact HI0.out), by repeat (first | (with_reducible first | exact HB.out | apply below_alloc | apply pw_below_drewN | apply below_drew1 | refine below_set ?_ (IsSPl1Cur.ge HI0.out)) | exact HB.out), by repeat (first | (with_reducible first | exact HK.out | apply KeepBut.set_ | apply keep_drewN | apply keep_drew | apply keep_alloc) | exact HK.out)⟩
  ·rw [if_neg c5] at H
   have c5b0 : decide (200 < a1) = false := decide_eq_false c5
   clear c5
   obtain ⟨c10, H⟩ := ifm H
   have c10b0 : (a1 == 0) = false := beq_eq_false_iff_ne.mpr c10
   have c10b1 : (a1 != 0) = true := bne_iff_ne.mpr c10
   simp only [Option.some.injEq, Prod.mk.injEq] at H
   obtain ⟨rfl, rfl, rfl⟩ := H
   go_enter Try.func81, Try.ntmps81
   go_wp2_with (first | ((with_reducible refine gate_callee (f := 91) rfl ?_); refine goesL_ (some 9) rfl rfl Try.func91 KR rfl #[.pointer (some ⟨g, 0, none⟩)] rfl TA ?_; (with_reducible refine (spec_l1Cur_next.calls g s0_0 s0_1 s0_2 t102 t103 t104 w0 _ ?side1 ?side2 A4.out).mono ?_); (case side1 => repeat (first | (with_reducible first | exact HI0.out | apply IsSPl1Cur.alloc | apply IsSPl1Cur.drewN | apply IsSPl1Cur.drew | apply IsSPl1Cur.set_1 | apply IsSPl1Cur.set_2) | exact HI0.out)); (case side2 => repeat (first | (with_reducible first | exact HB.out | apply below_alloc | apply pw_below_drewN | apply below_drew1 | refine below_set ?_ (IsSPl1Cur.ge HI0.out)) | exact HB.out)); rintro e w11 ⟨rfl, hi, hb, hk⟩; refine ⟨_, rfl, ?_⟩; replace HK := Aside0.mk (KeepBut.trans (by repeat (first | (with_reducible first | exact HK.out | apply KeepBut.set_ | apply keep_drewN | apply keep_drew | apply keep_alloc) | exact HK.out)) hk (.inl rfl)); replace HB := Aside0.mk (hb); replace HI0 := Aside0.mk (hi); clear hb hk hi))
   go_ret
   exact ⟨TE, by repeat (first | (with_reducible first | exact HI0.out | apply IsSPl1Cur.alloc | apply IsSPl1Cur.drewN | apply IsSPl1Cur.drew | apply IsSPl1Cur.set_1 | apply IsSPl1Cur.set_2) | exact HI0.out), by repeat (first | (with_reducible first | exact HB.out | apply below_alloc | apply pw_below_drewN | apply below_drew1 | refine below_set ?_ (IsSPl1Cur.ge HI0.out)) | exact HB.out), by repeat (first | (with_reducible first | exact HK.out | apply KeepBut.set_ | apply keep_drewN | apply keep_drew | apply keep_alloc) | exact HK.out)⟩
end
section
/-! ### spec_l1Cur_among: function 77 -/
def spec_l1Cur_among.f (s0_0 : List Int) (s0_1 : Int) (s0_2 : Int) (l1 : List Int) : Option (Int × Int × Int) := (spec_l1Cur_pick.f s0_0 s0_1 s0_2 (l1.length : Int)).bind fun bt111 => (if 0 ≤ bt111.1 then (if bt111.1 < (l1.length : Int) then (some (rd l1 bt111.1, bt111.2.1, bt111.2.2)) else (none)) else (none))
theorem spec_l1Cur_among.calls (g : Nat) (s0_0 : List Int) (s0_1 : Int) (s0_2 : Int) (A1 : Option Addr) (c1 : Nat) (l1 : List Int) (r1 : Int) (r2 : Int) (r3 : Int) (w0 w : World) (hI : IsSPl1Cur w0 w g s0_0 s0_1 s0_2) (hB : Below w0.heap.size w0 w) (hr1 : Kd.C (Kd.int .i64) w A1 l1.length l1) (hc1 : l1.length ≤ c1) (hf1 : ∀ ad, A1 = some ad → 0 < l1.length → ad.block ≠ g) (h : spec_l1Cur_among.f s0_0 s0_1 s0_2 l1 = some (r1, r2, r3)) :
  Calls Try.prog 77 #[.pointer (some ⟨g, 0, none⟩), .slice A1 l1.length c1] w fun e w' => e = .returned (.int .i64 r1) ∧ IsSPl1Cur w0 w' g s0_0 r2 r3 ∧ Below w0.heap.size w0 w' ∧ KeepBut w w' g none := by
 have HR1 := Aside0.mk hr1
 have HC1 := Aside0.mk hc1
 clear hr1 hc1
 have HI0 := Aside0.mk hI
 have HK := Aside0.mk (KeepBut.refl w g none)
 have HL := Aside0.mk hB.size
 clear hI
 have HW0 := Aside0.mk hB.size
 have HB := Aside0.mk hB
 clear hB
 have H : ((spec_l1Cur_pick.f s0_0 s0_1 s0_2 (l1.length : Int)).bind fun bt111 => (if 0 ≤ bt111.1 then (if bt111.1 < (l1.length : Int) then (some (rd l1 bt111.1, bt111.2.1, bt111.2.2)) else (none)) else (none))) = some (r1, r2, r3) := h
 clear h
 obtain ⟨⟨t111, t112, t113⟩, A3, H⟩ := bnd H
 try dsimp only at H
 obtain ⟨c4, H⟩ := ifn H
 have c4b0 : decide (0 ≤ t111) = true := decide_eq_true c4
 clear c4
 obtain ⟨c5, H⟩ := ifn H
 have c5b0 : decide (t111 < (l1.length : Int)) = true := decide_eq_true c5
 clear c5
 simp only [Option.some.injEq, Prod.mk.injEq] at H
 obtain ⟨rfl, rfl, rfl⟩ := H
 go_enter Try.func77, Try.ntmps77
 go_wp2_with (first | ((with_reducible refine gate_callee (f := 81) rfl ?_); refine goesL_ (some 9) rfl rfl Try.func81 KR rfl #[.pointer (some ⟨g, 0, none⟩), .int .i64 (l1.length : Int)] rfl TA ?_; (with_reducible refine (spec_l1Cur_pick.calls g s0_0 s0_1 s0_2 (l1.length : Int) t111 t112 t113 w0 _ ?side1 ?side2 A3.out).mono ?_); (case side1 => repeat (first | (with_reducible first | exact HI0.out | apply IsSPl1Cur.alloc | apply IsSPl1Cur.drewN | apply IsSPl1Cur.drew | apply IsSPl1Cur.set_1 | apply IsSPl1Cur.set_2) | exact HI0.out)); (case side2 => repeat (first | (with_reducible first | exact HB.out | apply below_alloc | apply pw_below_drewN | apply below_drew1 | refine below_set ?_ (IsSPl1Cur.ge HI0.out)) | exact HB.out)); rintro e w6 ⟨rfl, hi, hb, hk⟩; refine ⟨_, rfl, ?_⟩; replace HK := Aside0.mk (KeepBut.trans (by repeat (first | (with_reducible first | exact HK.out | apply KeepBut.set_ | apply keep_drewN | apply keep_drew | apply keep_alloc) | exact HK.out)) hk (.inl rfl)); replace HB := Aside0.mk (hb); replace HI0 := Aside0.mk (hi); clear hb hk hi; have p114 : 0 ≤ (t111 : Int) := TD; have q114 : t111 < (l1.length : Int) := TD; obtain ⟨ad114, e114, hx114_0⟩ := Kd.at_int HR1.out t111 p114 q114; cases e114; replace hx114_0 := keep_cell HK.out hx114_0 (by first | (rw [add_block]; exact hf1 _ rfl (by omega)) | exact hf1 _ rfl (by omega) | exact hf1 ad114 rfl (by omega)); replace p114 := eq_true p114; replace q114 := eq_true q114))
 go_ret
 exact ⟨TE, by repeat (first | (with_reducible first | exact HI0.out | apply IsSPl1Cur.alloc | apply IsSPl1Cur.drewN | apply IsSPl1Cur.drew | apply IsSPl1Cur.set_1 | apply IsSPl1Cur.set_2) | exact HI0.out), by repeat (first | (with_reducible first | exact HB.out | apply below_alloc | apply pw_below_drewN | apply below_drew1 | refine below_set ?_ (IsSPl1Cur.ge HI0.out)) | exact HB.out), by repeat (first | (with_reducible first | exact HK.out | apply KeepBut.set_ | apply keep_drewN | apply keep_drew | apply keep_alloc) | exact HK.out)⟩
end
section
/-! ### spec_l1Cur_one: function 89 -/
def spec_l1Cur_one.f (s0_0 : List Int) (s0_1 : Int) (s0_2 : Int) (a1 : Int) : Option (Bool × Int × Int) := (spec_l1Cur_pick.f s0_0 s0_1 s0_2 a1).bind fun bt108 => (some ((bt108.1 == 0), bt108.2.1, bt108.2.2))
theorem spec_l1Cur_one.calls (g : Nat) (s0_0 : List Int) (s0_1 : Int) (s0_2 : Int) (a1 : Int) (r1 : Bool) (r2 : Int) (r3 : Int) (w0 w : World) (hI : IsSPl1Cur w0 w g s0_0 s0_1 s0_2) (hB : Below w0.heap.size w0 w) (h : spec_l1Cur_one.f s0_0 s0_1 s0_2 a1 = some (r1, r2, r3)) :
  Calls Try.prog 89 #[.pointer (some ⟨g, 0, none⟩), .int .i64 a1] w fun e w' => e = .returned (.bool r1) ∧ IsSPl1Cur w0 w' g s0_0 r2 r3 ∧ Below w0.heap.size w0 w' ∧ KeepBut w w' g none := by
 have HI0 := Aside0.mk hI
 have HK := Aside0.mk (KeepBut.refl w g none)
 have HL := Aside0.mk hB.size
 clear hI
 have HW0 := Aside0.mk hB.size
 have HB := Aside0.mk hB
 clear hB
 have H : ((spec_l1Cur_pick.f s0_0 s0_1 s0_2 a1).bind fun bt108 => (some ((bt108.1 == 0), bt108.2.1, bt108.2.2))) = some (r1, r2, r3) := h
 clear h
 obtain ⟨⟨t108, t109, t110⟩, A3, H⟩ := bnd H
 try dsimp only at H
 simp only [Option.some.injEq, Prod.mk.injEq] at H
 obtain ⟨rfl, rfl, rfl⟩ := H
 go_enter Try.func89, Try.ntmps89
 go_wp2_with (first | ((with_reducible refine gate_callee (f := 81) rfl ?_); refine goesL_ (some 7) rfl rfl Try.func81 KR rfl #[.pointer (some ⟨g, 0, none⟩), .int .i64 a1] rfl TA ?_; (with_reducible refine (spec_l1Cur_pick.calls g s0_0 s0_1 s0_2 a1 t108 t109 t110 w0 _ ?side1 ?side2 A3.out).mono ?_); (case side1 => repeat (first | (with_reducible first | exact HI0.out | apply IsSPl1Cur.alloc | apply IsSPl1Cur.drewN | apply IsSPl1Cur.drew | apply IsSPl1Cur.set_1 | apply IsSPl1Cur.set_2) | exact HI0.out)); (case side2 => repeat (first | (with_reducible first | exact HB.out | apply below_alloc | apply pw_below_drewN | apply below_drew1 | refine below_set ?_ (IsSPl1Cur.ge HI0.out)) | exact HB.out)); rintro e w4 ⟨rfl, hi, hb, hk⟩; refine ⟨_, rfl, ?_⟩; replace HK := Aside0.mk (KeepBut.trans (by repeat (first | (with_reducible first | exact HK.out | apply KeepBut.set_ | apply keep_drewN | apply keep_drew | apply keep_alloc) | exact HK.out)) hk (.inl rfl)); replace HB := Aside0.mk (hb); replace HI0 := Aside0.mk (hi); clear hb hk hi))
 go_ret
 exact ⟨TE, by repeat (first | (with_reducible first | exact HI0.out | apply IsSPl1Cur.alloc | apply IsSPl1Cur.drewN | apply IsSPl1Cur.drew | apply IsSPl1Cur.set_1 | apply IsSPl1Cur.set_2) | exact HI0.out), by repeat (first | (with_reducible first | exact HB.out | apply below_alloc | apply pw_below_drewN | apply below_drew1 | refine below_set ?_ (IsSPl1Cur.ge HI0.out)) | exact HB.out), by repeat (first | (with_reducible first | exact HK.out | apply KeepBut.set_ | apply keep_drewN | apply keep_drew | apply keep_alloc) | exact HK.out)⟩
end
section
/-! ### spec_l1Cur_weights: function 76 -/
mutual
def spec_l1Cur_weights.j0 : Nat → List Int → Int → List Int → Int → Int → Option (List Int × Int × Int)
 | 0, _, _, _, _, _ => none
 | k + 1, x3, x4, x1000, x1001, x1002 => spec_l1Cur_weights.l0 k x3 x4 x1000 x1001 x1002
def spec_l1Cur_weights.l0 : Nat → List Int → Int → List Int → Int → Int → Option (List Int × Int × Int)
 | 0, _, _, _, _, _ => none
 | k + 1, x3, x4, x1000, x1001, x1002 => if x4 > 0 then ((spec_l1Cur_pick.f x1000 x1001 x1002 8).bind fun bt124 => (if x3.length < 17592186044416 then (spec_l1Cur_weights.l0 k (x3 ++ [bt124.1]) (wrap64 (x4 - 1)) x1000 bt124.2.1 bt124.2.2) else (none))) else ((spec_l1Cur_pick.f x1000 x1001 x1002 30).bind fun bt130 => (if bt130.1 = 0 then ((spec_l1Cur_among.f x1000 bt130.2.1 bt130.2.2 (([(-1), 50, 51] : List Int))).bind fun bt136 => (if 0 < (x3.length : Int) then (some ((x3.set (0 : Int).toNat bt136.1), bt136.2.1, bt136.2.2)) else (none))) else (if bt130.1 = 1 then (some ((([0, 0] : List Int)), bt130.2.1, bt130.2.2)) else (some (x3, bt130.2.1, bt130.2.2)))))
end
def spec_l1Cur_weights.f (k : Nat) (s0_0 : List Int) (s0_1 : Int) (s0_2 : Int) : Option (List Int × Int × Int) := (spec_l1Cur_pick.f s0_0 s0_1 s0_2 5).bind fun bt115 => ((spec_l1Cur_one.f s0_0 bt115.2.1 bt115.2.2 20).bind fun bt118 => (if bt118.1 = true then ((spec_l1Cur_pick.f s0_0 bt118.2.1 bt118.2.2 2).bind fun bt121 => (spec_l1Cur_weights.j0 k ([] : List Int) (wrap64 (12 + bt121.1)) s0_0 bt121.2.1 bt121.2.2)) else (spec_l1Cur_weights.j0 k ([] : List Int) (wrap64 (1 + bt115.1)) s0_0 bt118.2.1 bt118.2.2)))
theorem spec_l1Cur_weights.calls (k : Nat) (g : Nat) (s0_0 : List Int) (s0_1 : Int) (s0_2 : Int) (r1 : List Int) (r2 : Int) (r3 : Int) (w0 w : World) (hI : IsSPl1Cur w0 w g s0_0 s0_1 s0_2) (hB : Below w0.heap.size w0 w) (h : spec_l1Cur_weights.f k s0_0 s0_1 s0_2 = some (r1, r2, r3)) :
  Calls Try.prog 76 #[.pointer (some ⟨g, 0, none⟩)] w fun e w' => ∃ v0_ : Value, e = .returned (v0_) ∧ Kd.R (Kd.int .i64) 3 w' w.heap.size (fun _ => True) v0_ r1 ∧ IsSPl1Cur w0 w' g s0_0 r2 r3 ∧ Below w0.heap.size w0 w' ∧ KeepBut w w' g none := by
 have HI0 := Aside0.mk hI
 have HK := Aside0.mk (KeepBut.refl w g none)
 have HL := Aside0.mk hB.size
 clear hI
 have HW0 := Aside0.mk hB.size
 have HB := Aside0.mk hB
 clear hB
 have H : ((spec_l1Cur_pick.f s0_0 s0_1 s0_2 5).bind fun bt115 => ((spec_l1Cur_one.f s0_0 bt115.2.1 bt115.2.2 20).bind fun bt118 => (if bt118.1 = true then ((spec_l1Cur_pick.f s0_0 bt118.2.1 bt118.2.2 2).bind fun bt121 => (spec_l1Cur_weights.j0 k ([] : List Int) (wrap64 (12 + bt121.1)) s0_0 bt121.2.1 bt121.2.2)) else (spec_l1Cur_weights.j0 k ([] : List Int) (wrap64 (1 + bt115.1)) s0_0 bt118.2.1 bt118.2.2)))) = some (r1, r2, r3) := h
 clear h
 obtain ⟨⟨t115, t116, t117⟩, A2, H⟩ := bnd H
 try dsimp only at H
 obtain ⟨⟨t118, t119, t120⟩, A3, H⟩ := bnd H
 try dsimp only at H
 have HC4 := Aside0.mk H
 clear H
 go_enter Try.func76, Try.ntmps76
 go_upto_if 9 with (first | ((with_reducible refine gate_callee (f := 81) rfl ?_); refine goesL_ (some 6) rfl rfl Try.func81 KR rfl #[.pointer (some ⟨g, 0, none⟩), .int .i64 5] rfl TA ?_; (with_reducible refine (spec_l1Cur_pick.calls g s0_0 s0_1 s0_2 5 t115 t116 t117 w0 _ ?side1 ?side2 A2.out).mono ?_); (case side1 => repeat (first | (with_reducible first | exact HI0.out | apply IsSPl1Cur.alloc | apply IsSPl1Cur.drewN | apply IsSPl1Cur.drew | apply IsSPl1Cur.set_1 | apply IsSPl1Cur.set_2) | exact HI0.out)); (case side2 => repeat (first | (with_reducible first | exact HB.out | apply below_alloc | apply pw_below_drewN | apply below_drew1 | refine below_set ?_ (IsSPl1Cur.ge HI0.out)) | exact HB.out)); rintro e w5 ⟨rfl, hi, hb, hk⟩; refine ⟨_, rfl, ?_⟩; replace HK := Aside0.mk (KeepBut.trans (by repeat (first | (with_reducible first | exact HK.out | apply KeepBut.set_ | apply keep_drewN | apply keep_drew | apply keep_alloc) | exact HK.out)) hk (.inl rfl)); replace HB := Aside0.mk (hb); replace HI0 := Aside0.mk (hi); clear hb hk hi) | ((with_reducible refine gate_callee (f := 89) rfl ?_); refine goesL_ (some 9) rfl rfl Try.func89 KR rfl #[.pointer (some ⟨g, 0, none⟩), .int .i64 20] rfl TA ?_; (with_reducible refine (spec_l1Cur_one.calls g s0_0 t116 t117 20 t118 t119 t120 w0 _ ?side1 ?side2 A3.out).mono ?_); (case side1 => repeat (first | (with_reducible first | exact HI0.out | apply IsSPl1Cur.alloc | apply IsSPl1Cur.drewN | apply IsSPl1Cur.drew | apply IsSPl1Cur.set_1 | apply IsSPl1Cur.set_2) | exact HI0.out)); (case side2 => repeat (first | (with_reducible first | exact HB.out | apply below_alloc | apply pw_below_drewN | apply below_drew1 | refine below_set ?_ (IsSPl1Cur.ge HI0.out)) | exact HB.out)); rintro e w6 ⟨rfl, hi, hb, hk⟩; refine ⟨_, rfl, ?_⟩; replace HK := Aside0.mk (KeepBut.trans (by repeat (first | (with_reducible first | exact HK.out | apply KeepBut.set_ | apply keep_drewN | apply keep_drew | apply keep_alloc) | exact HK.out)) hk (.inl rfl)); replace HB := Aside0.mk (hb); replace HI0 := Aside0.mk (hi); clear hb hk hi))
 (try simp only [Act.put, List.setIfInBounds_toArray, List.set_cons_zero, List.set_cons_succ])
 go_cut [4] (fun v4 wc => ∃ (kq : Nat) (x4_3 : Int) (x1001_3 : Int) (x1002_3 : Int), v4 = .int .i64 x4_3 ∧ Aside0 (spec_l1Cur_weights.j0 kq ([] : List Int) x4_3 s0_0 x1001_3 x1002_3 = some (r1, r2, r3)) ∧ Aside0 (kq ≤ k) ∧ Aside0 (Kd.R (Kd.int .i64) 3 wc w.heap.size (fun _ => True) (.slice none 0 0) ([] : List Int)) ∧ Aside0 (IsSPl1Cur w0 wc g s0_0 x1001_3 x1002_3) ∧ Aside0 (KeepBut w wc g none) ∧ Aside0 (Below w0.heap.size w0 wc))
 case first =>
  have H := HC4.out
  clear HC4
  by_cases c7 : t118 = true
  ·subst c7
   replace H := ift H
   obtain ⟨⟨t121, t122, t123⟩, A8, H⟩ := bnd H
   try dsimp only at H
   have H' := Aside0.mk H
   clear H
   go_wp2_with (first | ((with_reducible refine gate_callee (f := 81) rfl ?_); refine goesL_ (some 11) rfl rfl Try.func81 KR rfl #[.pointer (some ⟨g, 0, none⟩), .int .i64 2] rfl TA ?_; (with_reducible refine (spec_l1Cur_pick.calls g s0_0 t119 t120 2 t121 t122 t123 w0 _ ?side1 ?side2 A8.out).mono ?_); (case side1 => repeat (first | (with_reducible first | exact HI0.out | apply IsSPl1Cur.alloc | apply IsSPl1Cur.drewN | apply IsSPl1Cur.drew | apply IsSPl1Cur.set_1 | apply IsSPl1Cur.set_2) | exact HI0.out)); (case side2 => repeat (first | (with_reducible first | exact HB.out | apply below_alloc | apply pw_below_drewN | apply below_drew1 | refine below_set ?_ (IsSPl1Cur.ge HI0.out)) | exact HB.out)); rintro e w9 ⟨rfl, hi, hb, hk⟩; refine ⟨_, rfl, ?_⟩; replace HK := Aside0.mk (KeepBut.trans (by repeat (first | (with_reducible first | exact HK.out | apply KeepBut.set_ | apply keep_drewN | apply keep_drew | apply keep_alloc) | exact HK.out)) hk (.inl rfl)); replace HB := Aside0.mk (hb); replace HI0 := Aside0.mk (hi); clear hb hk hi))
   go_meet
   case rel => exact ⟨_, (wrap64 (12 + t121)), (t122), (t123), TF, H', ⟨by first | omega | exact Nat.le_refl _⟩, ⟨TZ⟩, ⟨by repeat (first | (with_reducible first | exact HI0.out | apply IsSPl1Cur.alloc | apply IsSPl1Cur.drewN | apply IsSPl1Cur.drew | apply IsSPl1Cur.set_1 | apply IsSPl1Cur.set_2) | exact HI0.out)⟩, ⟨by repeat (first | (with_reducible first | exact HK.out | apply KeepBut.set_ | apply keep_drewN | apply keep_drew | apply keep_alloc) | exact HK.out)⟩, ⟨by repeat (first | (with_reducible first | exact HB.out | apply below_alloc | apply pw_below_drewN | apply below_drew1 | refine below_set ?_ (IsSPl1Cur.ge HI0.out)) | exact HB.out)⟩⟩
  ·replace c7 := Bool.eq_false_iff.mpr c7
   subst c7
   replace H := iff' H
   have H' := Aside0.mk H
   clear H
   go_wp2
   go_meet
   case rel => exact ⟨_, (wrap64 (1 + t115)), (t119), (t120), TF, H', ⟨by first | omega | exact Nat.le_refl _⟩, ⟨TZ⟩, ⟨by repeat (first | (with_reducible first | exact HI0.out | apply IsSPl1Cur.alloc | apply IsSPl1Cur.drewN | apply IsSPl1Cur.drew | apply IsSPl1Cur.set_1 | apply IsSPl1Cur.set_2) | exact HI0.out)⟩, ⟨by repeat (first | (with_reducible first | exact HK.out | apply KeepBut.set_ | apply keep_drewN | apply keep_drew | apply keep_alloc) | exact HK.out)⟩, ⟨by repeat (first | (with_reducible first | exact HB.out | apply below_alloc | apply pw_below_drewN | apply below_drew1 | refine below_set ?_ (IsSPl1Cur.ge HI0.out)) | exact HB.out)⟩⟩
 case rest =>
  clear HC4
  obtain ⟨kq, x4_3, x1001_3, x1002_3, rfl, HA, HJ3, HO_3, HI0, HK, HB⟩ := hcut
  cases kq with
  | zero => exact absurd HA.out (by simp [spec_l1Cur_weights.j0])
  | succ kj3 =>
   have H := HA.out
   clear HA
   simp only [spec_l1Cur_weights.j0] at H
   have H' := Aside0.mk H
   clear H
   go_wp2
   go_loopg [3, 4] kj3 (fun kq v3 v4 w' => ∃ (x3_2 : List Int) (x4_2 : Int) (x1001_2 : Int) (x1002_2 : Int), v4 = .int .i64 x4_2 ∧ Aside0 (spec_l1Cur_weights.l0 kq x3_2 x4_2 s0_0 x1001_2 x1002_2 = some (r1, r2, r3)) ∧ Aside0 (kq ≤ kj3) ∧ Aside0 (Kd.R (Kd.int .i64) 3 w' w.heap.size (fun _ => True) v3 x3_2) ∧ Aside0 (IsSPl1Cur w0 w' g s0_0 x1001_2 x1002_2) ∧ Aside0 (KeepBut w w' g none) ∧ Aside0 (Below w0.heap.size w0 w'))
   case atStart => exact ⟨(([] : List Int)), (x4_3), (x1001_3), (x1002_3), TF, H', ⟨Nat.le_refl _⟩, RW HO_3, ⟨by repeat (first | (with_reducible first | exact HI0.out | apply IsSPl1Cur.alloc | apply IsSPl1Cur.drewN | apply IsSPl1Cur.drew | apply IsSPl1Cur.set_1 | apply IsSPl1Cur.set_2) | exact HI0.out)⟩, ⟨by repeat (first | (with_reducible first | exact HK.out | apply KeepBut.set_ | apply keep_drewN | apply keep_drew | apply keep_alloc) | exact HK.out)⟩, ⟨by repeat (first | (with_reducible first | exact HB.out | apply below_alloc | apply pw_below_drewN | apply below_drew1 | refine below_set ?_ (IsSPl1Cur.ge HI0.out)) | exact HB.out)⟩⟩
   case round =>
    clear H'
    obtain ⟨x3_2, x4_2, x1001_2, x1002_2, rfl, HA, HK2, HO_3, HI0, HK, HB⟩ := hrel
    cases gk with
    | zero => exact absurd HA.out (by simp [spec_l1Cur_weights.l0])
    | succ k2 =>
     have H := HA.out
     clear HA
     simp only [spec_l1Cur_weights.l0] at H
     by_cases c10 : x4_2 > 0
     ·rw [if_pos c10] at H
      have c10b0 : decide (0 < x4_2) = true := decide_eq_true c10
      clear c10
      obtain ⟨⟨t124, t125, t126⟩, A11, H⟩ := bnd H
      try dsimp only at H
      obtain ⟨c12, H⟩ := ifn H
      have LMc12 := Aside0.mk c12
      clear c12
      obtain ⟨y127, hy127⟩ : ∃ y_ : List Int, y_ = (x3_2 ++ [t124]) := ⟨_, rfl⟩
      replace H : (spec_l1Cur_weights.l0 k2 y127 (wrap64 (x4_2 - 1)) s0_0 t125 t126) = some (r1, r2, r3) := by first | (rw [hy127]; with_reducible exact H) | (have H2_ := (Option.bind_some _ _).symm.trans H; rw [hy127]; with_reducible exact H2_) | (have H2_ := (Option.bind_some _ _).symm.trans H; with_reducible exact H2_) | with_reducible exact H | (rw [hy127]; exact H) | exact H
      have Ny127 := Aside0.mk hy127
      clear hy127
      have H' := Aside0.mk H
      clear H
      go_wp2_with (first | ((with_reducible refine gate_callee (f := 81) rfl ?_); refine goesL_ (some 19) rfl rfl Try.func81 KR rfl #[.pointer (some ⟨g, 0, none⟩), .int .i64 8] rfl TA ?_; (with_reducible refine (spec_l1Cur_pick.calls g s0_0 x1001_2 x1002_2 8 t124 t125 t126 w0 _ ?side1 ?side2 A11.out).mono ?_); (case side1 => repeat (first | (with_reducible first | exact HI0.out | apply IsSPl1Cur.alloc | apply IsSPl1Cur.drewN | apply IsSPl1Cur.drew | apply IsSPl1Cur.set_1 | apply IsSPl1Cur.set_2) | exact HI0.out)); (case side2 => repeat (first | (with_reducible first | exact HB.out | apply below_alloc | apply pw_below_drewN | apply below_drew1 | refine below_set ?_ (IsSPl1Cur.ge HI0.out)) | exact HB.out)); rintro e w13 ⟨rfl, hi, hb, hk⟩; refine ⟨_, rfl, ?_⟩; replace HO_3 := Aside0.mk (Kd.R_mono (Kd.R_keep (IsSPl1Cur.apart (show IsSPl1Cur w0 _ g s0_0 x1001_2 x1002_2 from by repeat (first | (with_reducible first | exact HI0.out | apply IsSPl1Cur.alloc | apply IsSPl1Cur.drewN | apply IsSPl1Cur.drew | apply IsSPl1Cur.set_1 | apply IsSPl1Cur.set_2) | exact HI0.out)) (RW HO_3).out (by decide)) hk (fun _ h => h.2)) (fun _ h => h.1)); replace HK := Aside0.mk (KeepBut.trans (by repeat (first | (with_reducible first | exact HK.out | apply KeepBut.set_ | apply keep_drewN | apply keep_drew | apply keep_alloc) | exact HK.out)) hk (.inl rfl)); replace HB := Aside0.mk (hb); replace HI0 := Aside0.mk (hi); clear hb hk hi) | ((with_reducible refine gate_builtin (b := .append) (xs := #[.tmp 17, .tmp 20]) rfl ?_); at_builtin; refine Kd.R_append (Kd.int .i64) w.heap.size rfl (.tmp 17) (.tmp 20) 22 3 (.int .i64 0) 8 rfl Try.underlying22 info3 rfl (by decide) (by omega) u3 x3_2 t124 [.int .i64 t124] (fun _ => True) (fun _ => False) rfl rfl ?aP (fun _ hk => hk.elim) ?aF ?aO (Below.refl _ _) ?aS ?aL ?_; (case aP => exact rfl); (case aF => exact (fun _ _ => trivial)); (case aO => exact (RW HO_3).out); (case aS => exact (keep_size (w := w) (g := g) (row := none) (by repeat (first | (with_reducible first | exact HK.out | apply KeepBut.set_ | apply keep_drewN | apply keep_drew | apply keep_alloc) | exact HK.out)))); (case aL => have := LMc12.out; omega); intro v128 w14 ho hb hg hat; rw [← Ny127.out] at ho; have n0_ := Aside0.mk (IsSPl1Cur.grown (by repeat (first | (with_reducible first | exact HI0.out | apply IsSPl1Cur.alloc | apply IsSPl1Cur.drewN | apply IsSPl1Cur.drew | apply IsSPl1Cur.set_1 | apply IsSPl1Cur.set_2) | exact HI0.out)) hg (IsSPl1Cur.own_ne HI0.out HO_3.out (by decide))); have n1_ := Aside0.mk (below_weaken (by repeat (first | (with_reducible first | exact HB.out | apply below_alloc | apply pw_below_drewN | apply below_drew1 | refine below_set ?_ (IsSPl1Cur.ge HI0.out)) | exact HB.out)) HL.out hb); have n2_ := Aside0.mk (KeepBut.trans (by repeat (first | (with_reducible first | exact HK.out | apply KeepBut.set_ | apply keep_drewN | apply keep_drew | apply keep_alloc) | exact HK.out)) (KeepBut.of_grown hg g) (Kd.R_base2 HO_3.out)); have n3_ := Aside0.mk (ho); clear HI0; clear HB; clear HK; clear HO_3; have HI0 := n0_; have HB := n1_; have HK := n2_; have HO129 := n3_; clear n0_ n1_ n2_ n3_; clear ho hb hg hat))
      go_roundg k2
      case measure => have := HJ3.out; have := HK2.out; omega
      case rel => exact ⟨(y127), (wrap64 (x4_2 - 1)), (t125), (t126), TF, H', ⟨by have := HJ3.out; have := HK2.out; omega⟩, RW HO129, ⟨by repeat (first | (with_reducible first | exact HI0.out | apply IsSPl1Cur.alloc | apply IsSPl1Cur.drewN | apply IsSPl1Cur.drew | apply IsSPl1Cur.set_1 | apply IsSPl1Cur.set_2) | exact HI0.out)⟩, ⟨by repeat (first | (with_reducible first | exact HK.out | apply KeepBut.set_ | apply keep_drewN | apply keep_drew | apply keep_alloc) | exact HK.out)⟩, ⟨by repeat (first | (with_reducible first | exact HB.out | apply below_alloc | apply pw_below_drewN | apply below_drew1 | refine below_set ?_ (IsSPl1Cur.ge HI0.out)) | exact HB.out)⟩⟩
     ·rw [if_neg c10] at H
      have c10b0 : decide (0 < x4_2) = false := decide_eq_false c10
      clear c10
      obtain ⟨⟨t130, t131, t132⟩, A15, H⟩ := bnd H
      try dsimp only at H
      by_cases c16 : t130 = 0
      ·rw [if_pos c16] at H
       have c16b0 : (t130 == 0) = true := beq_iff_eq.mpr c16
       have c16b1 : (t130 != 0) = false := bne_eq_false_iff_eq.mpr c16
       clear c16
       obtain ⟨y133, hy133⟩ : ∃ y_ : List Int, y_ = (([(-1), 50, 51] : List Int)) := ⟨_, rfl⟩
       replace H : ((spec_l1Cur_among.f s0_0 t131 t132 y133).bind fun bt136 => (if 0 < (x3_2.length : Int) then (some ((x3_2.set (0 : Int).toNat bt136.1), bt136.2.1, bt136.2.2)) else (none))) = some (r1, r2, r3) := by first | (rw [hy133]; with_reducible exact H) | (have H2_ := (Option.bind_some _ _).symm.trans H; rw [hy133]; with_reducible exact H2_) | (have H2_ := (Option.bind_some _ _).symm.trans H; with_reducible exact H2_) | with_reducible exact H | (rw [hy133]; exact H) | exact H
       have Ny133 := Aside0.mk hy133
       clear hy133
       obtain ⟨⟨t136, t137, t138⟩, A17, H⟩ := bnd H
       try dsimp only at H
       obtain ⟨c18, H⟩ := ifn H
       have c18b0 : decide (0 < (x3_2.length : Int)) = true := decide_eq_true c18
       have c18b1 : decide (0 < x3_2.length) = true := decide_eq_true (by omega)
       clear c18
       obtain ⟨y139, hy139⟩ : ∃ y_ : List Int, y_ = (x3_2.set (0 : Int).toNat t136) := ⟨_, rfl⟩
       replace H : (some (y139, t137, t138)) = some (r1, r2, r3) := by first | (rw [hy139]; with_reducible exact H) | (have H2_ := (Option.bind_some _ _).symm.trans H; rw [hy139]; with_reducible exact H2_) | (have H2_ := (Option.bind_some _ _).symm.trans H; with_reducible exact H2_) | with_reducible exact H | (rw [hy139]; exact H) | exact H
       have Ny139 := Aside0.mk hy139
       clear hy139
       simp only [Option.some.injEq, Prod.mk.injEq] at H
       obtain ⟨rfl, rfl, rfl⟩ := H
       go_wp2_with (first | ((with_reducible refine gate_callee (f := 81) rfl ?_); refine goesL_ (some 23) rfl rfl Try.func81 KR rfl #[.pointer (some ⟨g, 0, none⟩), .int .i64 30] rfl TA ?_; (with_reducible refine (spec_l1Cur_pick.calls g s0_0 x1001_2 x1002_2 30 t130 t131 t132 w0 _ ?side1 ?side2 A15.out).mono ?_); (case side1 => repeat (first | (with_reducible first | exact HI0.out | apply IsSPl1Cur.alloc | apply IsSPl1Cur.drewN | apply IsSPl1Cur.drew | apply IsSPl1Cur.set_1 | apply IsSPl1Cur.set_2) | exact HI0.out)); (case side2 => repeat (first | (with_reducible first | exact HB.out | apply below_alloc | apply pw_below_drewN | apply below_drew1 | refine below_set ?_ (IsSPl1Cur.ge HI0.out)) | exact HB.out)); rintro e w20 ⟨rfl, hi, hb, hk⟩; refine ⟨_, rfl, ?_⟩; replace HO_3 := Aside0.mk (Kd.R_mono (Kd.R_keep (IsSPl1Cur.apart (show IsSPl1Cur w0 _ g s0_0 x1001_2 x1002_2 from by repeat (first | (with_reducible first | exact HI0.out | apply IsSPl1Cur.alloc | apply IsSPl1Cur.drewN | apply IsSPl1Cur.drew | apply IsSPl1Cur.set_1 | apply IsSPl1Cur.set_2) | exact HI0.out)) (RW HO_3).out (by decide)) hk (fun _ h => h.2)) (fun _ h => h.1)); replace HK := Aside0.mk (KeepBut.trans (by repeat (first | (with_reducible first | exact HK.out | apply KeepBut.set_ | apply keep_drewN | apply keep_drew | apply keep_alloc) | exact HK.out)) hk (.inl rfl)); replace HB := Aside0.mk (hb); replace HI0 := Aside0.mk (hi); clear hb hk hi) | ((with_reducible refine gate_dst (N := 28) rfl ?_); refine Kd.R_lit (Kd.int .i64) _ 3 ?hg (N := 28) ?hd (xs := ([(-1), 50, 51] : List Int)) (inner := [.int .i64 (-1), .int .i64 50, .int .i64 51]) (ok := fun _ => True) (okp := fun _ => True) ?hr ?hp (fun _ hk => hk) trivial (Below.refl _ _) (Nat.le_refl _) (by simp) ?_; (case hd => rfl); (case hg => rfl); (case hr => first | (go_simp; done) | (go_simp; rfl)); (case hp => exact (Reps.one (show Kd.M (Kd.int .i64) _ _ _ (-1) [.int .i64 (-1)] from rfl) (Reps.one (show Kd.M (Kd.int .i64) _ _ _ 50 [.int .i64 50] from rfl) (Reps.one (show Kd.M (Kd.int .i64) _ _ _ 51 [.int .i64 51] from rfl) (Reps.none _ _))))); intro v134 w21 ho22 hb hg_ hnew_; clear hg_ hnew_; (first | rw [← Ny133.out] at ho22 | (simp only [Int.reduceToNat] at ho22; rw [← Ny133.out] at ho22)); have HO135 := Aside0.mk (Kd.R_lower (NW ho22 HO_3) (keep_size (w := w) (g := g) (row := none) (by repeat (first | (with_reducible first | exact HK.out | apply KeepBut.set_ | apply keep_drewN | apply keep_drew | apply keep_alloc) | exact HK.out)))); replace HO_3 := EL HO_3 ho22 hb; replace HK := Aside0.mk (KeepBut.trans (by repeat (first | (with_reducible first | exact HK.out | apply KeepBut.set_ | apply keep_drewN | apply keep_drew | apply keep_alloc) | exact HK.out)) (KeepBut.of_below hb g none) (.inl rfl)); replace HB := Aside0.mk (below_step (by repeat (first | (with_reducible first | exact HB.out | apply below_alloc | apply pw_below_drewN | apply below_drew1 | refine below_set ?_ (IsSPl1Cur.ge HI0.out)) | exact HB.out)) hb); replace HI0 := Aside0.mk (IsSPl1Cur.below (by repeat (first | (with_reducible first | exact HI0.out | apply IsSPl1Cur.alloc | apply IsSPl1Cur.drewN | apply IsSPl1Cur.drew | apply IsSPl1Cur.set_1 | apply IsSPl1Cur.set_2) | exact HI0.out)) hb); clear hb ho22; obtain ⟨Ao23, co23, eo23⟩ := Kd.R_slice HO135.out; subst eo23) | ((with_reducible refine gate_callee (f := 77) rfl ?_); refine goesL_ (some 29) rfl rfl Try.func77 KR rfl #[.pointer (some ⟨g, 0, none⟩), .slice Ao23 y133.length co23] rfl TA ?_; (with_reducible refine (spec_l1Cur_among.calls g s0_0 t131 t132 _ _ y133 t136 t137 t138 w0 _ ?side1 ?side2 ?side3 ?side4 ?side5 A17.out).mono ?_); (case side1 => repeat (first | (with_reducible first | exact HI0.out | apply IsSPl1Cur.alloc | apply IsSPl1Cur.drewN | apply IsSPl1Cur.drew | apply IsSPl1Cur.set_1 | apply IsSPl1Cur.set_2) | exact HI0.out)); (case side2 => repeat (first | (with_reducible first | exact HB.out | apply below_alloc | apply pw_below_drewN | apply below_drew1 | refine below_set ?_ (IsSPl1Cur.ge HI0.out)) | exact HB.out)); (case side3 => exact CW ((Kd.R_reads' HO135.out).2.2)); (case side4 => exact RI HO135); (case side5 => exact far_slice (IsSPl1Cur.own_ne HI0.out HO135.out (by decide))); rintro e w24 ⟨rfl, hi, hb, hk⟩; refine ⟨_, rfl, ?_⟩; replace HO_3 := Aside0.mk (Kd.R_mono (Kd.R_keep (IsSPl1Cur.apart (show IsSPl1Cur w0 _ g s0_0 t131 t132 from by repeat (first | (with_reducible first | exact HI0.out | apply IsSPl1Cur.alloc | apply IsSPl1Cur.drewN | apply IsSPl1Cur.drew | apply IsSPl1Cur.set_1 | apply IsSPl1Cur.set_2) | exact HI0.out)) (RW HO_3).out (by decide)) hk (fun _ h => h.2)) (fun _ h => h.1)); replace HO135 := Aside0.mk (Kd.R_mono (Kd.R_keep (IsSPl1Cur.apart (show IsSPl1Cur w0 _ g s0_0 t131 t132 from by repeat (first | (with_reducible first | exact HI0.out | apply IsSPl1Cur.alloc | apply IsSPl1Cur.drewN | apply IsSPl1Cur.drew | apply IsSPl1Cur.set_1 | apply IsSPl1Cur.set_2) | exact HI0.out)) (RW HO135).out (by decide)) hk (fun _ h => h.2)) (fun _ h => h.1)); replace HK := Aside0.mk (KeepBut.trans (by repeat (first | (with_reducible first | exact HK.out | apply KeepBut.set_ | apply keep_drewN | apply keep_drew | apply keep_alloc) | exact HK.out)) hk (.inl rfl)); replace HB := Aside0.mk (hb); replace HI0 := Aside0.mk (hi); clear hb hk hi; have p19 : 0 ≤ (0 : Int) := (by omega); have q19 : (0 : Int) < ((x3_2.length : Int) : Int) := TD; have qi19 : (0 < x3_2.length) = True := eq_true (by omega); obtain ⟨go19, co19, eo19, gb19, gl19, cl19, HG19⟩ := Kd.R_form HO_3.out (by omega); (first | cases eo19 | (injection eo19 with ea_ en_ ec_; (first | subst ea_ | (injection ea_ with ea_; subst ea_)); subst ec_; clear en_)); have GB19 := Aside0.mk gb19; have GG19 := Aside0.mk HG19; clear gb19 gl19 HG19; obtain ⟨hx19_0, hf19_0⟩ := Kd.R_celln 0 HO_3.out (0 : Int) p19 q19; (try rw [show ((0 : Int)).toNat = 0 from rfl] at hx19_0); (try simp only [Nat.reduceMul, Nat.zero_mul, Nat.zero_add, Nat.reduceAdd] at hx19_0); (try rw [show ((0 : Int)).toNat = 0 from rfl] at hf19_0); (try simp only [Nat.reduceMul, Nat.zero_mul, Nat.zero_add, Nat.reduceAdd] at hf19_0); replace p19 := eq_true p19; replace q19 := eq_true q19; have n_ := Aside0.mk (Kd.R_mono (ok' := (fun k_ => some k_ ≠ (.slice Ao23 y133.length co23 : Value).ownBlock)) HO_3.out (fun k_ hk => hk.2)); clear HO_3; have HO_3 := n_; clear n_; obtain ⟨hy25_, hz25_⟩ := Kd.R_celln 0 HO_3.out (0 : Int) (by omega) TD; (try simp only [Int.reduceToNat, Int.toNat_zero, Int.toNat_ofNat, Nat.reduceMul, Nat.zero_mul, Nat.zero_add] at hy25_ hz25_); (try rw [show ((0 : Int)).toNat = 0 from rfl] at hy25_); (try rw [show ((0 : Int)).toNat = 0 from rfl] at hz25_); have HP25 := Kd.R_putg HO_3.out (0 : Int) t136) | ((with_reducible refine gate_store (t := 3) (p := 30) rfl ?_); refine store_event (t := 3) (p := 30) (v := ?vo_w26) (w1 := (w24.setCell ⟨go19, (0 : Int).toNat, none⟩ (.int .i64 t136))) ?hg ?ho ?hn ?hr ?_; (case ho => rfl); (case hg => rfl); (case hn => rfl); (case hr => first | (go_simp; done) | (go_simp; rfl)); intro w26 hw; have hg : w24.grownBy w26 (some go19) := (by rw [hw]; exact HP25.2); have hp_ : Kd.R (Kd.int .i64) 3 w26 w.heap.size (fun k_ => some k_ ≠ (.slice Ao23 y133.length co23 : Value).ownBlock) (.slice (some ⟨go19, 0, none⟩) x3_2.length co19) y139 := (by rw [hw, Ny139.out]; exact HP25.1); clear HP25; replace HI0 := Aside0.mk (IsSPl1Cur.grown (by repeat (first | (with_reducible first | exact HI0.out | apply IsSPl1Cur.alloc | apply IsSPl1Cur.drewN | apply IsSPl1Cur.drew | apply IsSPl1Cur.set_1 | apply IsSPl1Cur.set_2) | exact HI0.out)) hg (IsSPl1Cur.own_ne HI0.out HO_3.out (by decide))); replace HO135 := Aside0.mk (Kd.R_after (v := (.slice (some ⟨go19, 0, none⟩) x3_2.length co19)) (v1 := (.slice (some ⟨go19, 0, none⟩) x3_2.length co19)) (ok := (fun _ => True)) (RW HO135).out hg (.inl rfl)); replace HB := Aside0.mk ((by rw [hw]; exact below_set (HB.out) (Nat.le_trans HL.out GB19.out) : Below w0.heap.size w0 w26)); replace HK := Aside0.mk (KeepBut.trans (by repeat (first | (with_reducible first | exact HK.out | apply KeepBut.set_ | apply keep_drewN | apply keep_drew | apply keep_alloc) | exact HK.out)) (KeepBut.of_grown hg g) (Kd.R_base2 HO_3.out)); replace HO_3 := Aside0.mk (hp_); clear hg hw hp_))
       go_ret
       exact ⟨_, TE, by (with_reducible repeat (first | apply Kd.R_alloc | apply Kd.R_drewN | apply Kd.R_drew)); exact Kd.R_mono HO_3.out (fun _ hk => trivial), by repeat (first | (with_reducible first | exact HI0.out | apply IsSPl1Cur.alloc | apply IsSPl1Cur.drewN | apply IsSPl1Cur.drew | apply IsSPl1Cur.set_1 | apply IsSPl1Cur.set_2) | exact HI0.out), by repeat (first | (with_reducible first | exact HB.out | apply below_alloc | apply pw_below_drewN | apply below_drew1 | refine below_set ?_ (IsSPl1Cur.ge HI0.out)) | exact HB.out), by repeat (first | (with_reducible first | exact HK.out | apply KeepBut.set_ | apply keep_drewN | apply keep_drew | apply keep_alloc) | exact HK.out)⟩
      ·rw [if_neg c16] at H
       have c16b0 : (t130 == 0) = false := beq_eq_false_iff_ne.mpr c16
       have c16b1 : (t130 != 0) = true := bne_iff_ne.mpr c16
       by_cases c27 : t130 = 1
       ·rw [if_pos c27] at H
        have c27b0 : (t130 == 1) = true := beq_iff_eq.mpr c27
        have c27b1 : (t130 != 1) = false := bne_eq_false_iff_eq.mpr c27
        clear c27
        obtain ⟨y140, hy140⟩ : ∃ y_ : List Int, y_ = (([0, 0] : List Int)) := ⟨_, rfl⟩
        replace H : (some (y140, t131, t132)) = some (r1, r2, r3) := by first | (rw [hy140]; with_reducible exact H) | (have H2_ := (Option.bind_some _ _).symm.trans H; rw [hy140]; with_reducible exact H2_) | (have H2_ := (Option.bind_some _ _).symm.trans H; with_reducible exact H2_) | with_reducible exact H | (rw [hy140]; exact H) | exact H
        have Ny140 := Aside0.mk hy140
        clear hy140
        simp only [Option.some.injEq, Prod.mk.injEq] at H
        obtain ⟨rfl, rfl, rfl⟩ := H
        go_wp2_with (first | ((with_reducible refine gate_callee (f := 81) rfl ?_); refine goesL_ (some 23) rfl rfl Try.func81 KR rfl #[.pointer (some ⟨g, 0, none⟩), .int .i64 30] rfl TA ?_; (with_reducible refine (spec_l1Cur_pick.calls g s0_0 x1001_2 x1002_2 30 t130 t131 t132 w0 _ ?side1 ?side2 A15.out).mono ?_); (case side1 => repeat (first | (with_reducible first | exact HI0.out | apply IsSPl1Cur.alloc | apply IsSPl1Cur.drewN | apply IsSPl1Cur.drew | apply IsSPl1Cur.set_1 | apply IsSPl1Cur.set_2) | exact HI0.out)); (case side2 => repeat (first | (with_reducible first | exact HB.out | apply below_alloc | apply pw_below_drewN | apply below_drew1 | refine below_set ?_ (IsSPl1Cur.ge HI0.out)) | exact HB.out)); rintro e w28 ⟨rfl, hi, hb, hk⟩; refine ⟨_, rfl, ?_⟩; replace HO_3 := Aside0.mk (Kd.R_mono (Kd.R_keep (IsSPl1Cur.apart (show IsSPl1Cur w0 _ g s0_0 x1001_2 x1002_2 from by repeat (first | (with_reducible first | exact HI0.out | apply IsSPl1Cur.alloc | apply IsSPl1Cur.drewN | apply IsSPl1Cur.drew | apply IsSPl1Cur.set_1 | apply IsSPl1Cur.set_2) | exact HI0.out)) (RW HO_3).out (by decide)) hk (fun _ h => h.2)) (fun _ h => h.1)); replace HK := Aside0.mk (KeepBut.trans (by repeat (first | (with_reducible first | exact HK.out | apply KeepBut.set_ | apply keep_drewN | apply keep_drew | apply keep_alloc) | exact HK.out)) hk (.inl rfl)); replace HB := Aside0.mk (hb); replace HI0 := Aside0.mk (hi); clear hb hk hi) | ((with_reducible refine gate_dst (N := 33) rfl ?_); refine Kd.R_lit (Kd.int .i64) _ 3 ?hg (N := 33) ?hd (xs := ([0, 0] : List Int)) (inner := [.int .i64 0, .int .i64 0]) (ok := fun _ => True) (okp := fun _ => True) ?hr ?hp (fun _ hk => hk) trivial (Below.refl _ _) (Nat.le_refl _) (by simp) ?_; (case hd => rfl); (case hg => rfl); (case hr => first | (go_simp; done) | (go_simp; rfl)); (case hp => exact (Reps.one (show Kd.M (Kd.int .i64) _ _ _ 0 [.int .i64 0] from rfl) (Reps.one (show Kd.M (Kd.int .i64) _ _ _ 0 [.int .i64 0] from rfl) (Reps.none _ _)))); intro v141 w29 ho30 hb hg_ hnew_; clear hg_ hnew_; (first | rw [← Ny140.out] at ho30 | (simp only [Int.reduceToNat] at ho30; rw [← Ny140.out] at ho30)); have HO142 := Aside0.mk (Kd.R_lower (NW ho30 HO_3) (keep_size (w := w) (g := g) (row := none) (by repeat (first | (with_reducible first | exact HK.out | apply KeepBut.set_ | apply keep_drewN | apply keep_drew | apply keep_alloc) | exact HK.out)))); replace HO_3 := EL HO_3 ho30 hb; replace HK := Aside0.mk (KeepBut.trans (by repeat (first | (with_reducible first | exact HK.out | apply KeepBut.set_ | apply keep_drewN | apply keep_drew | apply keep_alloc) | exact HK.out)) (KeepBut.of_below hb g none) (.inl rfl)); replace HB := Aside0.mk (below_step (by repeat (first | (with_reducible first | exact HB.out | apply below_alloc | apply pw_below_drewN | apply below_drew1 | refine below_set ?_ (IsSPl1Cur.ge HI0.out)) | exact HB.out)) hb); replace HI0 := Aside0.mk (IsSPl1Cur.below (by repeat (first | (with_reducible first | exact HI0.out | apply IsSPl1Cur.alloc | apply IsSPl1Cur.drewN | apply IsSPl1Cur.drew | apply IsSPl1Cur.set_1 | apply IsSPl1Cur.set_2) | exact HI0.out)) hb); clear hb ho30))
        go_ret
        exact ⟨_, TE, by (with_reducible repeat (first | apply Kd.R_alloc | apply Kd.R_drewN | apply Kd.R_drew)); exact Kd.R_mono HO142.out (fun _ hk => trivial), by repeat (first | (with_reducible first | exact HI0.out | apply IsSPl1Cur.alloc | apply IsSPl1Cur.drewN | apply IsSPl1Cur.drew | apply IsSPl1Cur.set_1 | apply IsSPl1Cur.set_2) | exact HI0.out), by repeat (first | (with_reducible first | exact HB.out | apply below_alloc | apply pw_below_drewN | apply below_drew1 | refine below_set ?_ (IsSPl1Cur.ge HI0.out)) | exact HB.out), by repeat (first | (with_reducible first | exact HK.out | apply KeepBut.set_ | apply keep_drewN | apply keep_drew | apply keep_alloc) | exact HK.out)⟩
       ·rw [if_neg c27] at H
        have c27b0 : (t130 == 1) = false := beq_eq_false_iff_ne.mpr c27
        have c27b1 : (t130 != 1) = true := bne_iff_ne.mpr c27
        simp only [Option.some.injEq, Prod.mk.injEq] at H
        obtain ⟨rfl, rfl, rfl⟩ := H
        go_wp2_with (first | ((with_reducible refine gate_callee (f := 81) rfl ?_); refine goesL_ (some 23) rfl rfl Try.func81 KR rfl #[.pointer (some ⟨g, 0, none⟩), .int .i64 30] rfl TA ?_; (with_reducible refine (spec_l1Cur_pick.calls g s0_0 x1001_2 x1002_2 30 t130 t131 t132 w0 _ ?side1 ?side2 A15.out).mono ?_); (case side1 => repeat (first | (with_reducible first | exact HI0.out | apply IsSPl1Cur.alloc | apply IsSPl1Cur.drewN | apply IsSPl1Cur.drew | apply IsSPl1Cur.set_1 | apply IsSPl1Cur.set_2) | exact HI0.out)); (case side2 => repeat (first | (with_reducible first | exact HB.out | apply below_alloc | apply pw_below_drewN | apply below_drew1 | refine below_set ?_ (IsSPl1Cur.ge HI0.out)) | exact HB.out)); rintro e w31 ⟨rfl, hi, hb, hk⟩; refine ⟨_, rfl, ?_⟩; replace HO_3 := Aside0.mk (Kd.R_mono (Kd.R_keep (IsSPl1Cur.apart (show IsSPl1Cur w0 _ g s0_0 x1001_2 x1002_2 from by repeat (first | (with_reducible first | exact HI0.out | apply IsSPl1Cur.alloc | apply IsSPl1Cur.drewN | apply IsSPl1Cur.drew | apply IsSPl1Cur.set_1 | apply IsSPl1Cur.set_2) | exact HI0.out)) (RW HO_3).out (by decide)) hk (fun _ h => h.2)) (fun _ h => h.1)); replace HK := Aside0.mk (KeepBut.trans (by repeat (first | (with_reducible first | exact HK.out | apply KeepBut.set_ | apply keep_drewN | apply keep_drew | apply keep_alloc) | exact HK.out)) hk (.inl rfl)); replace HB := Aside0.mk (hb); replace HI0 := Aside0.mk (hi); clear hb hk hi))
        go_ret
        exact ⟨_, TE, (RW HO_3).out, by repeat (first | (with_reducible first | exact HI0.out | apply IsSPl1Cur.alloc | apply IsSPl1Cur.drewN | apply IsSPl1Cur.drew | apply IsSPl1Cur.set_1 | apply IsSPl1Cur.set_2) | exact HI0.out), by repeat (first | (with_reducible first | exact HB.out | apply below_alloc | apply pw_below_drewN | apply below_drew1 | refine below_set ?_ (IsSPl1Cur.ge HI0.out)) | exact HB.out), by repeat (first | (with_reducible first | exact HK.out | apply KeepBut.set_ | apply keep_drewN | apply keep_drew | apply keep_alloc) | exact HK.out)⟩
end
section
/-! ### spec_DrawTurnsOf: function 47 -/
def spec_DrawTurnsOf.f (k : Nat) (l0 : List Int) : Option (List Int × Int) := (spec_l1Cur_weights.f k l0 0 0).bind fun bt902 => ((spec_l1Cur_among.f l0 bt902.2.1 bt902.2.2 (([(-1), 0, 1, 5, 30, 100, 600, 601] : List Int))).bind fun bt910 => (some (bt902.1, bt910.1)))
theorem spec_DrawTurnsOf.calls (k : Nat) (A0 : Option Addr) (c0 : Nat) (l0 : List Int) (r1 : List Int) (r2 : Int) (w : World) (hr0 : Kd.C (Kd.int .u8) w A0 l0.length l0) (hc0 : l0.length ≤ c0) (h : spec_DrawTurnsOf.f k l0 = some (r1, r2)) :
  Calls Try.prog 47 #[.slice A0 l0.length c0] w fun e w' => ∃ v0_ : Value, e = .returned (.tuple #[v0_, .int .i64 r2]) ∧ Kd.R (Kd.int .i64) 3 w' w.heap.size (fun _ => True) v0_ r1 ∧ Below w.heap.size w w' := by
 have hu93 := Try.underlying93
 have HR0 := Aside0.mk hr0
 have HC0 := Aside0.mk hc0
 clear hr0 hc0
 have HB := Aside0.mk (Below.refl w.heap.size w)
 have H : ((spec_l1Cur_weights.f k l0 0 0).bind fun bt902 => ((spec_l1Cur_among.f l0 bt902.2.1 bt902.2.2 (([(-1), 0, 1, 5, 30, 100, 600, 601] : List Int))).bind fun bt910 => (some (bt902.1, bt910.1)))) = some (r1, r2) := h
 clear h
 obtain ⟨⟨t902, t905, t906⟩, A2, H⟩ := bnd H
 try dsimp only at H
 obtain ⟨y907, hy907⟩ : ∃ y_ : List Int, y_ = (([(-1), 0, 1, 5, 30, 100, 600, 601] : List Int)) := ⟨_, rfl⟩
 replace H : ((spec_l1Cur_among.f l0 t905 t906 y907).bind fun bt910 => (some (t902, bt910.1))) = some (r1, r2) := by first | (rw [hy907]; with_reducible exact H) | (have H2_ := (Option.bind_some _ _).symm.trans H; rw [hy907]; with_reducible exact H2_) | (have H2_ := (Option.bind_some _ _).symm.trans H; with_reducible exact H2_) | with_reducible exact H | (rw [hy907]; exact H) | exact H
 have Ny907 := Aside0.mk hy907
 clear hy907
 obtain ⟨⟨t910, t911, t912⟩, A3, H⟩ := bnd H
 try dsimp only at H
 simp only [Option.some.injEq, Prod.mk.injEq] at H
 obtain ⟨rfl, rfl⟩ := H
 go_enter Try.func47, Try.ntmps47
 go_wp2_with (first | ((with_reducible refine gate_dst (N := 7) rfl ?_); refine bE 7 #[.slice A0 l0.length c0, .int .i64 0, .int .u64 0] 93 ?_; intro gb901 hg w4 hbox hb; have HI901 := Aside0.mk ((⟨_, _, hbox, by rw [hg]; exact (below_size TB), HR0.out⟩ : IsSPl1Cur w w4 gb901 l0 0 0)); replace HB := BS hb; clear hb hbox hg) | ((with_reducible refine gate_callee (f := 76) rfl ?_); refine goesL_ (some 9) rfl rfl Try.func76 KR rfl #[.pointer (some ⟨gb901, 0, none⟩)] rfl TA ?_; (with_reducible refine (spec_l1Cur_weights.calls k gb901 l0 0 0 t902 t905 t906 w _ ?side1 ?side2 A2.out).mono ?_); (case side1 => repeat (first | (with_reducible first | exact HI901.out | apply IsSPl1Cur.alloc | apply IsSPl1Cur.drewN | apply IsSPl1Cur.drew | apply IsSPl1Cur.set_1 | apply IsSPl1Cur.set_2) | exact HI901.out)); (case side2 => repeat (first | (with_reducible first | exact HB.out | apply below_alloc | apply pw_below_drewN | apply below_drew1 | refine below_set ?_ (IsSPl1Cur.ge HI901.out)) | exact HB.out)); rintro e w5 ⟨v903, rfl, ho0, hi, hb, hk⟩; refine ⟨_, rfl, ?_⟩; have HO904 := Aside0.mk (Kd.R_lower ho0 (below_size (by repeat (first | (with_reducible first | exact HB.out | apply below_alloc | apply pw_below_drewN | apply below_drew1 | refine below_set ?_ (IsSPl1Cur.ge HI901.out)) | exact HB.out)))); replace HB := Aside0.mk (hb); replace HI901 := Aside0.mk (hi); clear hb hk hi; (try clear ho0)) | ((with_reducible refine gate_dst (N := 11) rfl ?_); refine Kd.R_lit (Kd.int .i64) _ 3 ?hg (N := 11) ?hd (xs := ([(-1), 0, 1, 5, 30, 100, 600, 601] : List Int)) (inner := [.int .i64 (-1), .int .i64 0, .int .i64 1, .int .i64 5, .int .i64 30, .int .i64 100, .int .i64 600, .int .i64 601]) (ok := fun _ => True) (okp := fun _ => True) ?hr ?hp (fun _ hk => hk) trivial (Below.refl _ _) (Nat.le_refl _) (by simp) ?_; (case hd => rfl); (case hg => rfl); (case hr => first | (go_simp; done) | (go_simp; rfl)); (case hp => exact (Reps.one (show Kd.M (Kd.int .i64) _ _ _ (-1) [.int .i64 (-1)] from rfl) (Reps.one (show Kd.M (Kd.int .i64) _ _ _ 0 [.int .i64 0] from rfl) (Reps.one (show Kd.M (Kd.int .i64) _ _ _ 1 [.int .i64 1] from rfl) (Reps.one (show Kd.M (Kd.int .i64) _ _ _ 5 [.int .i64 5] from rfl) (Reps.one (show Kd.M (Kd.int .i64) _ _ _ 30 [.int .i64 30] from rfl) (Reps.one (show Kd.M (Kd.int .i64) _ _ _ 100 [.int .i64 100] from rfl) (Reps.one (show Kd.M (Kd.int .i64) _ _ _ 600 [.int .i64 600] from rfl) (Reps.one (show Kd.M (Kd.int .i64) _ _ _ 601 [.int .i64 601] from rfl) (Reps.none _ _)))))))))); intro v908 w6 ho7 hb hg_ hnew_; clear hg_ hnew_; (first | rw [← Ny907.out] at ho7 | (simp only [Int.reduceToNat] at ho7; rw [← Ny907.out] at ho7)); have HO909 := Aside0.mk (Kd.R_lower (NW ho7 HO904) (below_size (by repeat (first | (with_reducible first | exact HB.out | apply below_alloc | apply pw_below_drewN | apply below_drew1 | refine below_set ?_ (IsSPl1Cur.ge HI901.out)) | exact HB.out)))); replace HO904 := EL HO904 ho7 hb; replace HB := Aside0.mk (below_step (by repeat (first | (with_reducible first | exact HB.out | apply below_alloc | apply pw_below_drewN | apply below_drew1 | refine below_set ?_ (IsSPl1Cur.ge HI901.out)) | exact HB.out)) hb); replace HI901 := Aside0.mk (IsSPl1Cur.below (by repeat (first | (with_reducible first | exact HI901.out | apply IsSPl1Cur.alloc | apply IsSPl1Cur.drewN | apply IsSPl1Cur.drew | apply IsSPl1Cur.set_1 | apply IsSPl1Cur.set_2) | exact HI901.out)) hb); clear hb ho7; obtain ⟨Ao8, co8, eo8⟩ := Kd.R_slice HO909.out; subst eo8) | ((with_reducible refine gate_callee (f := 77) rfl ?_); refine goesL_ (some 12) rfl rfl Try.func77 KR rfl #[.pointer (some ⟨gb901, 0, none⟩), .slice Ao8 y907.length co8] rfl TA ?_; (with_reducible refine (spec_l1Cur_among.calls gb901 l0 t905 t906 _ _ y907 t910 t911 t912 w _ ?side1 ?side2 ?side3 ?side4 ?side5 A3.out).mono ?_); (case side1 => repeat (first | (with_reducible first | exact HI901.out | apply IsSPl1Cur.alloc | apply IsSPl1Cur.drewN | apply IsSPl1Cur.drew | apply IsSPl1Cur.set_1 | apply IsSPl1Cur.set_2) | exact HI901.out)); (case side2 => repeat (first | (with_reducible first | exact HB.out | apply below_alloc | apply pw_below_drewN | apply below_drew1 | refine below_set ?_ (IsSPl1Cur.ge HI901.out)) | exact HB.out)); (case side3 => exact CW ((Kd.R_reads' HO909.out).2.2)); (case side4 => exact RI HO909); (case side5 => exact far_slice (IsSPl1Cur.own_ne HI901.out HO909.out (by decide))); rintro e w9 ⟨rfl, hi, hb, hk⟩; refine ⟨_, rfl, ?_⟩; replace HO904 := Aside0.mk (Kd.R_mono (Kd.R_keep (IsSPl1Cur.apart (show IsSPl1Cur w _ gb901 l0 t905 t906 from by repeat (first | (with_reducible first | exact HI901.out | apply IsSPl1Cur.alloc | apply IsSPl1Cur.drewN | apply IsSPl1Cur.drew | apply IsSPl1Cur.set_1 | apply IsSPl1Cur.set_2) | exact HI901.out)) (RW HO904).out (by decide)) hk (fun _ h => h.2)) (fun _ h => h.1)); replace HO909 := Aside0.mk (Kd.R_mono (Kd.R_keep (IsSPl1Cur.apart (show IsSPl1Cur w _ gb901 l0 t905 t906 from by repeat (first | (with_reducible first | exact HI901.out | apply IsSPl1Cur.alloc | apply IsSPl1Cur.drewN | apply IsSPl1Cur.drew | apply IsSPl1Cur.set_1 | apply IsSPl1Cur.set_2) | exact HI901.out)) (RW HO909).out (by decide)) hk (fun _ h => h.2)) (fun _ h => h.1)); replace HB := Aside0.mk (hb); replace HI901 := Aside0.mk (hi); clear hb hk hi))
 go_ret2
 exact ⟨_, TE, by (with_reducible repeat (first | apply Kd.R_alloc | apply Kd.R_drewN | apply Kd.R_drew)); exact Kd.R_mono HO904.out (fun _ hk => trivial), by repeat (first | (with_reducible first | exact HB.out | apply below_alloc | apply pw_below_drewN | apply below_drew1 | refine below_set ?_ (IsSPl1Cur.ge HI901.out)) | exact HB.out)⟩
end
section
/-! ### spec_l1Cur_turn: function 90 -/
mutual
def spec_l1Cur_turn.j0 : Nat → List Int → Int → Int → List Int → List Int → Option (List Int × List Int × Int × Int)
 | 0, _, _, _, _, _ => none
 | k + 1, x1000, x1001, x1002, x927000, x927001 => (spec_l1Cur_pick.f x1000 x1001 x1002 9).bind fun bt937 => (spec_l1Cur_turn.l0 k bt937.1 x1000 bt937.2.1 bt937.2.2 x927000 x927001)
def spec_l1Cur_turn.l0 : Nat → Int → List Int → Int → Int → List Int → List Int → Option (List Int × List Int × Int × Int)
 | 0, _, _, _, _, _, _ => none
 | k + 1, x5, x1000, x1001, x1002, x927000, x927001 => if x5 > 0 then ((spec_NextTurn.f k x927000 x927001).bind fun bt940 => (if bt940.2.2.2 = true then (spec_l1Cur_turn.l0 k (wrap64 (x5 - 1)) x1000 x1001 x1002 bt940.1 bt940.2.1) else (spec_l1Cur_turn.l0 k (wrap64 (x5 - 1)) x1000 x1001 x1002 x927000 x927001))) else ((spec_l1Cur_one.f x1000 x1001 x1002 20).bind fun bt949 => (if bt949.1 = true then (if 0 < (x927001.length : Int) then (some (x927000, (x927001.set (0 : Int).toNat (wrap64 ((rd x927001 0) + 1))), bt949.2.1, bt949.2.2)) else (none)) else (some (x927000, x927001, bt949.2.1, bt949.2.2))))
end
def spec_l1Cur_turn.f (k : Nat) (s0_0 : List Int) (s0_1 : Int) (s0_2 : Int) : Option (List Int × List Int × Int × Int) := (spec_l1Cur_weights.f k s0_0 s0_1 s0_2).bind fun bt914 => ((spec_NewTurn.f k bt914.1).bind fun bt919 => (if bt919.2.2 = true then (spec_l1Cur_turn.j0 k s0_0 bt914.2.1 bt914.2.2 bt919.1 bt919.2.1) else ((spec_NewTurn.f k (([2, 1] : List Int))).bind fun bt930 => (spec_l1Cur_turn.j0 k s0_0 bt914.2.1 bt914.2.2 bt930.1 bt930.2.1))))
theorem spec_l1Cur_turn.calls (k : Nat) (g : Nat) (s0_0 : List Int) (s0_1 : Int) (s0_2 : Int) (r1 : List Int) (r2 : List Int) (r3 : Int) (r4 : Int) (w0 w : World) (hI : IsSPl1Cur w0 w g s0_0 s0_1 s0_2) (hB : Below w0.heap.size w0 w) (h : spec_l1Cur_turn.f k s0_0 s0_1 s0_2 = some (r1, r2, r3, r4)) :
  Calls Try.prog 90 #[.pointer (some ⟨g, 0, none⟩)] w fun e w' => ∃ v0_ v1_ : Value, e = .returned (.agg #[v0_, v1_]) ∧ Kd.R (Kd.int .i64) 3 w' w.heap.size (fun k_ => some k_ ≠ (v1_ : Value).ownBlock) v0_ r1 ∧ Kd.R (Kd.int .i64) 3 w' w.heap.size (fun k_ => some k_ ≠ (v0_ : Value).ownBlock) v1_ r2 ∧ IsSPl1Cur w0 w' g s0_0 r3 r4 ∧ Below w0.heap.size w0 w' ∧ KeepBut w w' g none := by
 have hu40 := Try.underlying40
 have HI0 := Aside0.mk hI
 have HK := Aside0.mk (KeepBut.refl w g none)
 have HL := Aside0.mk hB.size
 clear hI
 have HW0 := Aside0.mk hB.size
 have HB := Aside0.mk hB
 clear hB
 have H : ((spec_l1Cur_weights.f k s0_0 s0_1 s0_2).bind fun bt914 => ((spec_NewTurn.f k bt914.1).bind fun bt919 => (if bt919.2.2 = true then (spec_l1Cur_turn.j0 k s0_0 bt914.2.1 bt914.2.2 bt919.1 bt919.2.1) else ((spec_NewTurn.f k (([2, 1] : List Int))).bind fun bt930 => (spec_l1Cur_turn.j0 k s0_0 bt914.2.1 bt914.2.2 bt930.1 bt930.2.1))))) = some (r1, r2, r3, r4) := h
 clear h
 obtain ⟨⟨t914, t917, t918⟩, A2, H⟩ := bnd H
 try dsimp only at H
 obtain ⟨⟨t919, t922, t925⟩, A3, H⟩ := bnd H
 try dsimp only at H
 have HC4 := Aside0.mk H
 clear H
 go_enter Try.func90, Try.ntmps90
 go_upto_if 16 with (first | ((with_reducible refine gate_dst (N := 2) rfl ?_); refine bE 2 #[.slice none 0 0, .slice none 0 0] 40 ?_; intro gb913 hg w5 hbox hb; replace HB := Aside0.mk (below_step (by repeat (first | (with_reducible first | exact HB.out | apply below_alloc | apply pw_below_drewN | apply below_drew1 | refine below_set ?_ (IsSPl1Cur.ge HI0.out)) | exact HB.out)) hb); have BK913 := Aside0.mk (hbox); have GW913 := Aside0.mk ((by rw [hg]; exact (keep_size (w := w) (g := g) (row := none) (by repeat (first | (with_reducible first | exact HK.out | apply KeepBut.set_ | apply keep_drewN | apply keep_drew | apply keep_alloc) | exact HK.out))) : w.heap.size ≤ gb913)); have GE913 := Aside0.mk ((Nat.le_trans HW0.out (by rw [hg]; exact (keep_size (w := w) (g := g) (row := none) (by repeat (first | (with_reducible first | exact HK.out | apply KeepBut.set_ | apply keep_drewN | apply keep_drew | apply keep_alloc) | exact HK.out))) : w.heap.size ≤ gb913) : w0.heap.size ≤ gb913)); replace HK := Aside0.mk (KeepBut.trans (by repeat (first | (with_reducible first | exact HK.out | apply KeepBut.set_ | apply keep_drewN | apply keep_drew | apply keep_alloc) | exact HK.out)) (KeepBut.of_below hb g none) (.inl rfl)); have NB0_913 := Aside0.mk ((by rw [hg]; exact Nat.ne_of_lt (IsSPl1Cur.lt (show IsSPl1Cur w0 _ g s0_0 s0_1 s0_2 from by repeat (first | (with_reducible first | exact HI0.out | apply IsSPl1Cur.alloc | apply IsSPl1Cur.drewN | apply IsSPl1Cur.drew | apply IsSPl1Cur.set_1 | apply IsSPl1Cur.set_2) | exact HI0.out))) : g ≠ gb913)); have NB913_0 := Aside0.mk ((by rw [hg]; exact Nat.ne_of_gt (IsSPl1Cur.lt (show IsSPl1Cur w0 _ g s0_0 s0_1 s0_2 from by repeat (first | (with_reducible first | exact HI0.out | apply IsSPl1Cur.alloc | apply IsSPl1Cur.drewN | apply IsSPl1Cur.drew | apply IsSPl1Cur.set_1 | apply IsSPl1Cur.set_2) | exact HI0.out))) : gb913 ≠ g)); replace HI0 := Aside0.mk (IsSPl1Cur.below (by repeat (first | (with_reducible first | exact HI0.out | apply IsSPl1Cur.alloc | apply IsSPl1Cur.drewN | apply IsSPl1Cur.drew | apply IsSPl1Cur.set_1 | apply IsSPl1Cur.set_2) | exact HI0.out)) hb); clear hb hbox hg) | ((with_reducible refine gate_callee (f := 76) rfl ?_); refine goesL_ (some 11) rfl rfl Try.func76 KR rfl #[.pointer (some ⟨g, 0, none⟩)] rfl TA ?_; (with_reducible refine (spec_l1Cur_weights.calls k g s0_0 s0_1 s0_2 t914 t917 t918 w0 _ ?side1 ?side2 A2.out).mono ?_); (case side1 => repeat (first | (with_reducible first | exact HI0.out | apply IsSPl1Cur.alloc | apply IsSPl1Cur.drewN | apply IsSPl1Cur.drew | apply IsSPl1Cur.set_1 | apply IsSPl1Cur.set_2 | refine IsSPl1Cur.far ?_ NB0_913.out _) | exact HI0.out)); (case side2 => repeat (first | (with_reducible first | exact HB.out | apply below_alloc | apply pw_below_drewN | apply below_drew1 | refine below_set ?_ (IsSPl1Cur.ge HI0.out) | refine below_set ?_ GE913.out) | exact HB.out)); rintro e w6 ⟨v915, rfl, ho0, hi, hb, hk⟩; refine ⟨_, rfl, ?_⟩; replace BK913 := Aside0.mk (KeepBut.blk hk (g' := gb913) (o := .cells #[.slice none 0 0, .slice none 0 0] 40 (0, 0)) (KW BK913).out NB913_0.out (by simp)); have HO916 := Aside0.mk (Kd.R_lower ho0 (keep_size (w := w) (g := g) (row := none) (by repeat (first | (with_reducible first | exact HK.out | apply KeepBut.set_ | apply keep_drewN | apply keep_drew | apply keep_alloc | refine keep_far ?_ GW913.out _) | exact HK.out)))); replace HK := Aside0.mk (KeepBut.trans (by repeat (first | (with_reducible first | exact HK.out | apply KeepBut.set_ | apply keep_drewN | apply keep_drew | apply keep_alloc | refine keep_far ?_ GW913.out _) | exact HK.out)) hk (.inl rfl)); replace HB := Aside0.mk (hb); replace HI0 := Aside0.mk (hi); clear hb hk hi; (try clear ho0); obtain ⟨Ao7, co7, eo7⟩ := Kd.R_slice HO916.out; subst eo7) | ((with_reducible refine gate_callee (f := 31) rfl ?_); refine goesL_ (some 12) rfl rfl Try.func31 KR rfl #[.slice Ao7 t914.length co7] rfl TA ?_; (with_reducible refine (spec_NewTurn.calls k _ _ t914 t919 t922 t925 _ ?side1 ?side2 A3.out).mono ?_); (case side1 => exact CW ((Kd.R_reads' HO916.out).2.2)); (case side2 => exact RI HO916); rintro e w8 ⟨v920, v923, rfl, ho0, ho1, hb⟩; refine ⟨_, rfl, ?_⟩; have HO921 := Aside0.mk (Kd.R_lower (NW ho0 HO916) (keep_size (w := w) (g := g) (row := none) (by repeat (first | (with_reducible first | exact HK.out | apply KeepBut.set_ | apply keep_drewN | apply keep_drew | apply keep_alloc | refine keep_far ?_ GW913.out _) | exact HK.out)))); have HO924 := Aside0.mk (Kd.R_lower (NW ho1 HO916) (keep_size (w := w) (g := g) (row := none) (by repeat (first | (with_reducible first | exact HK.out | apply KeepBut.set_ | apply keep_drewN | apply keep_drew | apply keep_alloc | refine keep_far ?_ GW913.out _) | exact HK.out)))); replace HO916 := O2 HO916 ho0 ho1 hb; replace BK913 := KB BK913 hb; replace HK := Aside0.mk (KeepBut.trans (by repeat (first | (with_reducible first | exact HK.out | apply KeepBut.set_ | apply keep_drewN | apply keep_drew | apply keep_alloc | refine keep_far ?_ GW913.out _) | exact HK.out)) (KeepBut.of_below hb g none) (.inl rfl)); replace HB := Aside0.mk (below_step (by repeat (first | (with_reducible first | exact HB.out | apply below_alloc | apply pw_below_drewN | apply below_drew1 | refine below_set ?_ (IsSPl1Cur.ge HI0.out) | refine below_set ?_ GE913.out) | exact HB.out)) hb); replace HI0 := Aside0.mk (IsSPl1Cur.below (by repeat (first | (with_reducible first | exact HI0.out | apply IsSPl1Cur.alloc | apply IsSPl1Cur.drewN | apply IsSPl1Cur.drew | apply IsSPl1Cur.set_1 | apply IsSPl1Cur.set_2 | refine IsSPl1Cur.far ?_ NB0_913.out _) | exact HI0.out)) hb); clear hb; (try clear ho0); (try clear ho1)) | ((with_reducible refine gate_dst (N := 3) rfl ?_); refine bE 3 #[.slice none 0 0, .slice none 0 0] 40 ?_; intro gb926 hg w9 hbox hb; replace HO916 := RB HO916 hb; replace HO921 := RB HO921 hb; replace HO924 := RB HO924 hb; replace HB := Aside0.mk (below_step (by repeat (first | (with_reducible first | exact HB.out | apply below_alloc | apply pw_below_drewN | apply below_drew1 | refine below_set ?_ (IsSPl1Cur.ge HI0.out) | refine below_set ?_ GE913.out) | exact HB.out)) hb); have BK926 := Aside0.mk (hbox); have GW926 := Aside0.mk ((by rw [hg]; exact (keep_size (w := w) (g := g) (row := none) (by repeat (first | (with_reducible first | exact HK.out | apply KeepBut.set_ | apply keep_drewN | apply keep_drew | apply keep_alloc | refine keep_far ?_ GW913.out _) | exact HK.out))) : w.heap.size ≤ gb926)); have GE926 := Aside0.mk ((Nat.le_trans HW0.out (by rw [hg]; exact (keep_size (w := w) (g := g) (row := none) (by repeat (first | (with_reducible first | exact HK.out | apply KeepBut.set_ | apply keep_drewN | apply keep_drew | apply keep_alloc | refine keep_far ?_ GW913.out _) | exact HK.out))) : w.heap.size ≤ gb926) : w0.heap.size ≤ gb926)); replace HK := Aside0.mk (KeepBut.trans (by repeat (first | (with_reducible first | exact HK.out | apply KeepBut.set_ | apply keep_drewN | apply keep_drew | apply keep_alloc | refine keep_far ?_ GW913.out _) | exact HK.out)) (KeepBut.of_below hb g none) (.inl rfl)); have NB913_926 := bN BK913 hg; have NB926_913 := bM BK913 hg; replace BK913 := KB BK913 hb; have NB0_926 := Aside0.mk ((by rw [hg]; exact Nat.ne_of_lt (IsSPl1Cur.lt (show IsSPl1Cur w0 _ g s0_0 t917 t918 from by repeat (first | (with_reducible first | exact HI0.out | apply IsSPl1Cur.alloc | apply IsSPl1Cur.drewN | apply IsSPl1Cur.drew | apply IsSPl1Cur.set_1 | apply IsSPl1Cur.set_2 | refine IsSPl1Cur.far ?_ NB0_913.out _) | exact HI0.out))) : g ≠ gb926)); have NB926_0 := Aside0.mk ((by rw [hg]; exact Nat.ne_of_gt (IsSPl1Cur.lt (show IsSPl1Cur w0 _ g s0_0 t917 t918 from by repeat (first | (with_reducible first | exact HI0.out | apply IsSPl1Cur.alloc | apply IsSPl1Cur.drewN | apply IsSPl1Cur.drew | apply IsSPl1Cur.set_1 | apply IsSPl1Cur.set_2 | refine IsSPl1Cur.far ?_ NB0_913.out _) | exact HI0.out))) : gb926 ≠ g)); replace HI0 := Aside0.mk (IsSPl1Cur.below (by repeat (first | (with_reducible first | exact HI0.out | apply IsSPl1Cur.alloc | apply IsSPl1Cur.drewN | apply IsSPl1Cur.drew | apply IsSPl1Cur.set_1 | apply IsSPl1Cur.set_2 | refine IsSPl1Cur.far ?_ NB0_913.out _) | exact HI0.out)) hb); clear hb hbox hg; obtain ⟨Ao10, co10, eo10⟩ := Kd.R_slice HO921.out; subst eo10; obtain ⟨hnb11, hnc11⟩ := nn NB926_913; obtain ⟨hnb12, hnc12⟩ := nn NB926_0; have hcz13 := cz2 BK926; obtain ⟨Ao14, co14, eo14⟩ := Kd.R_slice HO924.out; subst eo14))
 (try simp only [Act.put, List.setIfInBounds_toArray, List.set_cons_zero, List.set_cons_succ])
 go_cut [] (fun wc => ∃ (kq : Nat) (x927000_3 : List Int) (x927001_3 : List Int) (u927000 : Value) (u927001 : Value), Aside0 (spec_l1Cur_turn.j0 kq s0_0 t917 t918 x927000_3 x927001_3 = some (r1, r2, r3, r4)) ∧ Aside0 (kq ≤ k) ∧ Aside0 (Kd.R (Kd.int .i64) 3 wc w.heap.size (fun k_ => some k_ ≠ (u927001 : Value).ownBlock) u927000 x927000_3) ∧ Aside0 (Kd.R (Kd.int .i64) 3 wc w.heap.size (fun k_ => some k_ ≠ (u927000 : Value).ownBlock) u927001 x927001_3) ∧ Aside0 (wc.heap[gb913]? = some (.cells #[(.slice none 0 0), (.slice none 0 0)] 40 (0, 0))) ∧ Aside0 (wc.heap[gb926]? = some (.cells #[u927000, u927001] 40 (0, 0))) ∧ Aside0 (IsSPl1Cur w0 wc g s0_0 t917 t918) ∧ Aside0 (KeepBut w wc g none) ∧ Aside0 (Below w0.heap.size w0 wc))
 case first =>
  have H := HC4.out
  clear HC4
  by_cases c15 : t925 = true
  ·subst c15
   replace H := ift H
   have H' := Aside0.mk H
   clear H
   go_wp2
   go_meet
   case rel => exact ⟨_, (t919), (t922), (.slice Ao10 t919.length co10), (.slice Ao14 t922.length co14), H', ⟨by first | omega | exact Nat.le_refl _⟩, ⟨by (with_reducible repeat (first | apply Kd.R_alloc | apply Kd.R_drewN | apply Kd.R_drew)); exact Kd.R_mono (Kd.R_far (p := ⟨gb926, 1, none⟩) (Kd.R_far (p := ⟨gb926, 0, none⟩) (Kd.R_types HO921.out BK926.out (by decide)) (fun _ hk => hk.2) (.slice Ao10 t919.length co10)) (fun _ hk => hk.2) (.slice Ao14 t922.length co14)) (fun _ hk => hk.1.1)⟩, ⟨by (with_reducible repeat (first | apply Kd.R_alloc | apply Kd.R_drewN | apply Kd.R_drew)); exact Kd.R_mono (Kd.R_far (p := ⟨gb926, 1, none⟩) (Kd.R_far (p := ⟨gb926, 0, none⟩) (Kd.R_types HO924.out BK926.out (by decide)) (fun _ hk => hk.2) (.slice Ao10 t919.length co10)) (fun _ hk => hk.2) (.slice Ao14 t922.length co14)) (fun _ hk => hk.1.1)⟩, ⟨TS⟩, ⟨TS⟩, ⟨by repeat (first | (with_reducible first | exact HI0.out | apply IsSPl1Cur.alloc | apply IsSPl1Cur.drewN | apply IsSPl1Cur.drew | apply IsSPl1Cur.set_1 | apply IsSPl1Cur.set_2 | refine IsSPl1Cur.far ?_ NB0_913.out _ | refine IsSPl1Cur.far ?_ NB0_926.out _) | exact HI0.out)⟩, ⟨by repeat (first | (with_reducible first | exact HK.out | apply KeepBut.set_ | apply keep_drewN | apply keep_drew | apply keep_alloc | refine keep_far ?_ GW913.out _ | refine keep_far ?_ GW926.out _) | exact HK.out)⟩, ⟨by repeat (first | (with_reducible first | exact HB.out | apply below_alloc | apply pw_below_drewN | apply below_drew1 | refine below_set ?_ (IsSPl1Cur.ge HI0.out) | refine below_set ?_ GE913.out | refine below_set ?_ GE926.out) | exact HB.out)⟩⟩
  ·replace c15 := Bool.eq_false_iff.mpr c15
   subst c15
   replace H := iff' H
   obtain ⟨y927, hy927⟩ : ∃ y_ : List Int, y_ = (([2, 1] : List Int)) := ⟨_, rfl⟩
   replace H : ((spec_NewTurn.f k y927).bind fun bt930 => (spec_l1Cur_turn.j0 k s0_0 t917 t918 bt930.1 bt930.2.1)) = some (r1, r2, r3, r4) := by first | (rw [hy927]; with_reducible exact H) | (have H2_ := (Option.bind_some _ _).symm.trans H; rw [hy927]; with_reducible exact H2_) | (have H2_ := (Option.bind_some _ _).symm.trans H; with_reducible exact H2_) | with_reducible exact H | (rw [hy927]; exact H) | exact H
   have Ny927 := Aside0.mk hy927
   clear hy927
   obtain ⟨⟨t930, t933, t936⟩, A16, H⟩ := bnd H
   try dsimp only at H
   have H' := Aside0.mk H
   clear H
   go_wp2_with (first | ((with_reducible refine gate_dst (N := 18) rfl ?_); refine Kd.R_lit (Kd.int .i64) _ 3 ?hg (N := 18) ?hd (xs := ([2, 1] : List Int)) (inner := [.int .i64 2, .int .i64 1]) (ok := fun _ => True) (okp := fun _ => True) ?hr ?hp (fun _ hk => hk) trivial (Below.refl _ _) (Nat.le_refl _) (by simp) ?_; (case hd => rfl); (case hg => rfl); (case hr => first | (go_simp; done) | (go_simp; rfl)); (case hp => exact (Reps.one (show Kd.M (Kd.int .i64) _ _ _ 2 [.int .i64 2] from rfl) (Reps.one (show Kd.M (Kd.int .i64) _ _ _ 1 [.int .i64 1] from rfl) (Reps.none _ _)))); intro v928 w17 ho18 hb hg_ hnew_; clear hg_ hnew_; (first | rw [← Ny927.out] at ho18 | (simp only [Int.reduceToNat] at ho18; rw [← Ny927.out] at ho18)); have HO929 := Aside0.mk (Kd.R_lower (NT (NT (NT ho18 HO916 BK926) HO921 BK926) HO924 BK926) (keep_size (w := w) (g := g) (row := none) (by repeat (first | (with_reducible first | exact HK.out | apply KeepBut.set_ | apply keep_drewN | apply keep_drew | apply keep_alloc | refine keep_far ?_ GW913.out _ | refine keep_far ?_ GW926.out _) | exact HK.out)))); replace HO916 := ET HO916 BK926 ho18 hb; replace HO921 := ET HO921 BK926 ho18 hb; replace HO924 := ET HO924 BK926 ho18 hb; replace BK913 := KF BK913 hb; replace BK926 := KP BK926 #[.slice Ao10 t919.length co10, .slice Ao14 t922.length co14] hb; replace HK := Aside0.mk (KeepBut.trans (by repeat (first | (with_reducible first | exact HK.out | apply KeepBut.set_ | apply keep_drewN | apply keep_drew | apply keep_alloc | refine keep_far ?_ GW913.out _ | refine keep_far ?_ GW926.out _) | exact HK.out)) (KeepBut.of_below hb g none) (.inl rfl)); replace HB := Aside0.mk (below_step (by repeat (first | (with_reducible first | exact HB.out | apply below_alloc | apply pw_below_drewN | apply below_drew1 | refine below_set ?_ (IsSPl1Cur.ge HI0.out) | refine below_set ?_ GE913.out | refine below_set ?_ GE926.out) | exact HB.out)) hb); replace HI0 := Aside0.mk (IsSPl1Cur.below (show IsSPl1Cur w0 ((w9.setCell ⟨gb926, 0, none⟩ (.slice Ao10 t919.length co10)).setCell ⟨gb926, 1, none⟩ (.slice Ao14 t922.length co14)) g s0_0 t917 t918 from by repeat (first | (with_reducible first | exact HI0.out | apply IsSPl1Cur.alloc | apply IsSPl1Cur.drewN | apply IsSPl1Cur.drew | apply IsSPl1Cur.set_1 | apply IsSPl1Cur.set_2 | refine IsSPl1Cur.far ?_ NB0_913.out _ | refine IsSPl1Cur.far ?_ NB0_926.out _) | exact HI0.out)) hb); clear hb ho18; obtain ⟨Ao19, co19, eo19⟩ := Kd.R_slice HO929.out; subst eo19) | ((with_reducible refine gate_callee (f := 31) rfl ?_); refine goesL_ (some 19) rfl rfl Try.func31 KR rfl #[.slice Ao19 y927.length co19] rfl TA ?_; (with_reducible refine (spec_NewTurn.calls k _ _ y927 t930 t933 t936 _ ?side1 ?side2 A16.out).mono ?_); (case side1 => exact CW ((Kd.R_reads' HO929.out).2.2)); (case side2 => exact RI HO929); rintro e w20 ⟨v931, v934, rfl, ho0, ho1, hb⟩; refine ⟨_, rfl, ?_⟩; have HO932 := Aside0.mk (Kd.R_lower (NW (NW (NW (NW ho0 HO916) HO921) HO924) HO929) (keep_size (w := w) (g := g) (row := none) (by repeat (first | (with_reducible first | exact HK.out | apply KeepBut.set_ | apply keep_drewN | apply keep_drew | apply keep_alloc | refine keep_far ?_ GW913.out _ | refine keep_far ?_ GW926.out _) | exact HK.out)))); have HO935 := Aside0.mk (Kd.R_lower (NW (NW (NW (NW ho1 HO916) HO921) HO924) HO929) (keep_size (w := w) (g := g) (row := none) (by repeat (first | (with_reducible first | exact HK.out | apply KeepBut.set_ | apply keep_drewN | apply keep_drew | apply keep_alloc | refine keep_far ?_ GW913.out _ | refine keep_far ?_ GW926.out _) | exact HK.out)))); replace HO916 := O2 HO916 ho0 ho1 hb; replace HO921 := O2 HO921 ho0 ho1 hb; replace HO924 := O2 HO924 ho0 ho1 hb; replace HO929 := O2 HO929 ho0 ho1 hb; replace BK913 := KB BK913 hb; replace BK926 := KB BK926 hb; replace HK := Aside0.mk (KeepBut.trans (by repeat (first | (with_reducible first | exact HK.out | apply KeepBut.set_ | apply keep_drewN | apply keep_drew | apply keep_alloc | refine keep_far ?_ GW913.out _ | refine keep_far ?_ GW926.out _) | exact HK.out)) (KeepBut.of_below hb g none) (.inl rfl)); replace HB := Aside0.mk (below_step (by repeat (first | (with_reducible first | exact HB.out | apply below_alloc | apply pw_below_drewN | apply below_drew1 | refine below_set ?_ (IsSPl1Cur.ge HI0.out) | refine below_set ?_ GE913.out | refine below_set ?_ GE926.out) | exact HB.out)) hb); replace HI0 := Aside0.mk (IsSPl1Cur.below (by repeat (first | (with_reducible first | exact HI0.out | apply IsSPl1Cur.alloc | apply IsSPl1Cur.drewN | apply IsSPl1Cur.drew | apply IsSPl1Cur.set_1 | apply IsSPl1Cur.set_2 | refine IsSPl1Cur.far ?_ NB0_913.out _ | refine IsSPl1Cur.far ?_ NB0_926.out _) | exact HI0.out)) hb); clear hb; (try clear ho0); (try clear ho1); obtain ⟨Ao21, co21, eo21⟩ := Kd.R_slice HO932.out; subst eo21; obtain ⟨hnb22, hnc22⟩ := nn NB926_913; obtain ⟨hnb23, hnc23⟩ := nn NB926_0; have hcz24 := cz2 BK926; obtain ⟨Ao25, co25, eo25⟩ := Kd.R_slice HO935.out; subst eo25))
   go_meet
   case rel => exact ⟨_, (t930), (t933), (.slice Ao21 t930.length co21), (.slice Ao25 t933.length co25), H', ⟨by first | omega | exact Nat.le_refl _⟩, ⟨by (with_reducible repeat (first | apply Kd.R_alloc | apply Kd.R_drewN | apply Kd.R_drew)); exact Kd.R_mono (Kd.R_far (p := ⟨gb926, 1, none⟩) (Kd.R_far (p := ⟨gb926, 0, none⟩) (Kd.R_types HO932.out BK926.out (by decide)) (fun _ hk => hk.2) (.slice Ao21 t930.length co21)) (fun _ hk => hk.2) (.slice Ao25 t933.length co25)) (fun _ hk => hk.1.1.1.1.1)⟩, ⟨by (with_reducible repeat (first | apply Kd.R_alloc | apply Kd.R_drewN | apply Kd.R_drew)); exact Kd.R_mono (Kd.R_far (p := ⟨gb926, 1, none⟩) (Kd.R_far (p := ⟨gb926, 0, none⟩) (Kd.R_types HO935.out BK926.out (by decide)) (fun _ hk => hk.2) (.slice Ao21 t930.length co21)) (fun _ hk => hk.2) (.slice Ao25 t933.length co25)) (fun _ hk => hk.1.1.1.1.1)⟩, ⟨TS⟩, ⟨TS⟩, ⟨by repeat (first | (with_reducible first | exact HI0.out | apply IsSPl1Cur.alloc | apply IsSPl1Cur.drewN | apply IsSPl1Cur.drew | apply IsSPl1Cur.set_1 | apply IsSPl1Cur.set_2 | refine IsSPl1Cur.far ?_ NB0_913.out _ | refine IsSPl1Cur.far ?_ NB0_926.out _) | exact HI0.out)⟩, ⟨by repeat (first | (with_reducible first | exact HK.out | apply KeepBut.set_ | apply keep_drewN | apply keep_drew | apply keep_alloc | refine keep_far ?_ GW913.out _ | refine keep_far ?_ GW926.out _) | exact HK.out)⟩, ⟨by repeat (first | (with_reducible first | exact HB.out | apply below_alloc | apply pw_below_drewN | apply below_drew1 | refine below_set ?_ (IsSPl1Cur.ge HI0.out) | refine below_set ?_ GE913.out | refine below_set ?_ GE926.out) | exact HB.out)⟩⟩
 case rest =>
  clear HC4
  obtain ⟨kq, x927000_3, x927001_3, u927000, u927001, HA, HJ3, HO_927000, HO_927001, BK913, BK926, HI0, HK, HB⟩ := hcut
  cases kq with
  | zero => exact absurd HA.out (by simp [spec_l1Cur_turn.j0])
  | succ kj3 =>
   have H := HA.out
   clear HA
   simp only [spec_l1Cur_turn.j0] at H
   obtain ⟨⟨t937, t938, t939⟩, A26, H⟩ := bnd H
   try dsimp only at H
   have H' := Aside0.mk H
   clear H
   go_wp2_with (first | ((with_reducible refine gate_callee (f := 81) rfl ?_); refine goesL_ (some 23) rfl rfl Try.func81 KR rfl #[.pointer (some ⟨g, 0, none⟩), .int .i64 9] rfl TA ?_; (with_reducible refine (spec_l1Cur_pick.calls g s0_0 t917 t918 9 t937 t938 t939 w0 _ ?side1 ?side2 A26.out).mono ?_); (case side1 => repeat (first | (with_reducible first | exact HI0.out | apply IsSPl1Cur.alloc | apply IsSPl1Cur.drewN | apply IsSPl1Cur.drew | apply IsSPl1Cur.set_1 | apply IsSPl1Cur.set_2 | refine IsSPl1Cur.far ?_ NB0_913.out _ | refine IsSPl1Cur.far ?_ NB0_926.out _) | exact HI0.out)); (case side2 => repeat (first | (with_reducible first | exact HB.out | apply below_alloc | apply pw_below_drewN | apply below_drew1 | refine below_set ?_ (IsSPl1Cur.ge HI0.out) | refine below_set ?_ GE913.out | refine below_set ?_ GE926.out) | exact HB.out)); rintro e w27 ⟨rfl, hi, hb, hk⟩; refine ⟨_, rfl, ?_⟩; replace HO_927000 := Aside0.mk (Kd.R_mono (Kd.R_keep (IsSPl1Cur.apart (show IsSPl1Cur w0 _ g s0_0 t917 t918 from by repeat (first | (with_reducible first | exact HI0.out | apply IsSPl1Cur.alloc | apply IsSPl1Cur.drewN | apply IsSPl1Cur.drew | apply IsSPl1Cur.set_1 | apply IsSPl1Cur.set_2 | refine IsSPl1Cur.far ?_ NB0_913.out _ | refine IsSPl1Cur.far ?_ NB0_926.out _) | exact HI0.out)) (RW HO_927000).out (by decide)) hk (fun _ h => h.2)) (fun _ h => h.1)); replace HO_927001 := Aside0.mk (Kd.R_mono (Kd.R_keep (IsSPl1Cur.apart (show IsSPl1Cur w0 _ g s0_0 t917 t918 from by repeat (first | (with_reducible first | exact HI0.out | apply IsSPl1Cur.alloc | apply IsSPl1Cur.drewN | apply IsSPl1Cur.drew | apply IsSPl1Cur.set_1 | apply IsSPl1Cur.set_2 | refine IsSPl1Cur.far ?_ NB0_913.out _ | refine IsSPl1Cur.far ?_ NB0_926.out _) | exact HI0.out)) (RW HO_927001).out (by decide)) hk (fun _ h => h.2)) (fun _ h => h.1)); replace BK913 := Aside0.mk (KeepBut.blk hk (g' := gb913) (o := .cells #[.slice none 0 0, .slice none 0 0] 40 (0, 0)) (KW BK913).out NB913_0.out (by simp)); replace BK926 := Aside0.mk (KeepBut.blk hk (g' := gb926) (o := .cells #[u927000, u927001] 40 (0, 0)) (KW BK926).out NB926_0.out (by simp)); replace HK := Aside0.mk (KeepBut.trans (by repeat (first | (with_reducible first | exact HK.out | apply KeepBut.set_ | apply keep_drewN | apply keep_drew | apply keep_alloc | refine keep_far ?_ GW913.out _ | refine keep_far ?_ GW926.out _) | exact HK.out)) hk (.inl rfl)); replace HB := Aside0.mk (hb); replace HI0 := Aside0.mk (hi); clear hb hk hi))
   go_loopg [5] kj3 (fun kq v5 w' => ∃ (x5_2 : Int) (x927000_2 : List Int) (x927001_2 : List Int) (u927000 : Value) (u927001 : Value), v5 = .int .i64 x5_2 ∧ Aside0 (spec_l1Cur_turn.l0 kq x5_2 s0_0 t938 t939 x927000_2 x927001_2 = some (r1, r2, r3, r4)) ∧ Aside0 (kq ≤ kj3) ∧ Aside0 (Kd.R (Kd.int .i64) 3 w' w.heap.size (fun k_ => some k_ ≠ (u927001 : Value).ownBlock) u927000 x927000_2) ∧ Aside0 (Kd.R (Kd.int .i64) 3 w' w.heap.size (fun k_ => some k_ ≠ (u927000 : Value).ownBlock) u927001 x927001_2) ∧ Aside0 (w'.heap[gb913]? = some (.cells #[(.slice none 0 0), (.slice none 0 0)] 40 (0, 0))) ∧ Aside0 (w'.heap[gb926]? = some (.cells #[u927000, u927001] 40 (0, 0))) ∧ Aside0 (IsSPl1Cur w0 w' g s0_0 t938 t939) ∧ Aside0 (KeepBut w w' g none) ∧ Aside0 (Below w0.heap.size w0 w'))
   case atStart => exact ⟨(t937), (x927000_3), (x927001_3), (u927000), (u927001), TF, H', ⟨Nat.le_refl _⟩, RW HO_927000, RW HO_927001, KW BK913, KW BK926, ⟨by repeat (first | (with_reducible first | exact HI0.out | apply IsSPl1Cur.alloc | apply IsSPl1Cur.drewN | apply IsSPl1Cur.drew | apply IsSPl1Cur.set_1 | apply IsSPl1Cur.set_2 | refine IsSPl1Cur.far ?_ NB0_913.out _ | refine IsSPl1Cur.far ?_ NB0_926.out _) | exact HI0.out)⟩, ⟨by repeat (first | (with_reducible first | exact HK.out | apply KeepBut.set_ | apply keep_drewN | apply keep_drew | apply keep_alloc | refine keep_far ?_ GW913.out _ | refine keep_far ?_ GW926.out _) | exact HK.out)⟩, ⟨by repeat (first | (with_reducible first | exact HB.out | apply below_alloc | apply pw_below_drewN | apply below_drew1 | refine below_set ?_ (IsSPl1Cur.ge HI0.out) | refine below_set ?_ GE913.out | refine below_set ?_ GE926.out) | exact HB.out)⟩⟩
   case round =>
    clear H'
    obtain ⟨x5_2, x927000_2, x927001_2, u927000, u927001, rfl, HA, HK2, HO_927000, HO_927001, BK913, BK926, HI0, HK, HB⟩ := hrel
    cases gk with
    | zero => exact absurd HA.out (by simp [spec_l1Cur_turn.l0])
    | succ k2 =>
     have H := HA.out
     clear HA
     simp only [spec_l1Cur_turn.l0] at H
     by_cases c28 : x5_2 > 0
     ·rw [if_pos c28] at H
      have c28b0 : decide (0 < x5_2) = true := decide_eq_true c28
      clear c28
      obtain ⟨⟨t940, t943, t946, t947⟩, A29, H⟩ := bnd H
      try dsimp only at H
      by_cases c30 : t947 = true
      ·subst c30
       replace H := ift H
       have H' := Aside0.mk H
       clear H
       have hnb31 := NB926_913.out
       have hnc31 := NB913_926.out
       have hnb32 := NB926_0.out
       have hnc32 := NB0_926.out
       have hcz33 := cz2 BK926
       obtain ⟨Ao34, co34, eo34⟩ := Kd.R_slice HO_927000.out
       subst eo34
       obtain ⟨Ao35, co35, eo35⟩ := Kd.R_slice HO_927001.out
       subst eo35
       go_wp2_with (first | ((with_reducible refine gate_callee (f := 45) rfl ?_); refine goesL_ (some 30) rfl rfl Try.func45 KR rfl #[.agg #[.slice Ao34 x927000_2.length co34, .slice Ao35 x927001_2.length co35]] rfl TA ?_; (with_reducible refine (spec_NextTurn.calls k2 _ _ x927000_2 _ _ x927001_2 t940 t943 t946 true _ ?side1 ?side2 ?side3 ?side4 A29.out).mono ?_); (case side1 => exact CW ((Kd.R_reads' HO_927000.out).2.2)); (case side2 => exact RI HO_927000); (case side3 => exact CW ((Kd.R_reads' HO_927001.out).2.2)); (case side4 => exact RI HO_927001); rintro e w36 ⟨v941, v944, rfl, ho0, ho1, hb⟩; refine ⟨_, rfl, ?_⟩; have HO942 := Aside0.mk (Kd.R_lower (NW (NW ho0 HO_927000) HO_927001) (keep_size (w := w) (g := g) (row := none) (by repeat (first | (with_reducible first | exact HK.out | apply KeepBut.set_ | apply keep_drewN | apply keep_drew | apply keep_alloc | refine keep_far ?_ GW913.out _ | refine keep_far ?_ GW926.out _) | exact HK.out)))); have HO945 := Aside0.mk (Kd.R_lower (NW (NW ho1 HO_927000) HO_927001) (keep_size (w := w) (g := g) (row := none) (by repeat (first | (with_reducible first | exact HK.out | apply KeepBut.set_ | apply keep_drewN | apply keep_drew | apply keep_alloc | refine keep_far ?_ GW913.out _ | refine keep_far ?_ GW926.out _) | exact HK.out)))); replace HO_927000 := O2 HO_927000 ho0 ho1 hb; replace HO_927001 := O2 HO_927001 ho0 ho1 hb; replace BK913 := KB BK913 hb; replace BK926 := KB BK926 hb; replace HK := Aside0.mk (KeepBut.trans (by repeat (first | (with_reducible first | exact HK.out | apply KeepBut.set_ | apply keep_drewN | apply keep_drew | apply keep_alloc | refine keep_far ?_ GW913.out _ | refine keep_far ?_ GW926.out _) | exact HK.out)) (KeepBut.of_below hb g none) (.inl rfl)); replace HB := Aside0.mk (below_step (by repeat (first | (with_reducible first | exact HB.out | apply below_alloc | apply pw_below_drewN | apply below_drew1 | refine below_set ?_ (IsSPl1Cur.ge HI0.out) | refine below_set ?_ GE913.out | refine below_set ?_ GE926.out) | exact HB.out)) hb); replace HI0 := Aside0.mk (IsSPl1Cur.below (by repeat (first | (with_reducible first | exact HI0.out | apply IsSPl1Cur.alloc | apply IsSPl1Cur.drewN | apply IsSPl1Cur.drew | apply IsSPl1Cur.set_1 | apply IsSPl1Cur.set_2 | refine IsSPl1Cur.far ?_ NB0_913.out _ | refine IsSPl1Cur.far ?_ NB0_926.out _) | exact HI0.out)) hb); clear hb; (try clear ho0); (try clear ho1)) | ((with_reducible refine gate_dst (N := 6) rfl ?_); refine bE 6 #[.slice none 0 0, .slice none 0 0] 40 ?_; intro gb948 hg w37 hbox hb; replace HO_927000 := RB HO_927000 hb; replace HO_927001 := RB HO_927001 hb; replace HO942 := RB HO942 hb; replace HO945 := RB HO945 hb; replace HB := Aside0.mk (below_step (by repeat (first | (with_reducible first | exact HB.out | apply below_alloc | apply pw_below_drewN | apply below_drew1 | refine below_set ?_ (IsSPl1Cur.ge HI0.out) | refine below_set ?_ GE913.out | refine below_set ?_ GE926.out) | exact HB.out)) hb); have BK948 := Aside0.mk (hbox); have GW948 := Aside0.mk ((by rw [hg]; exact (keep_size (w := w) (g := g) (row := none) (by repeat (first | (with_reducible first | exact HK.out | apply KeepBut.set_ | apply keep_drewN | apply keep_drew | apply keep_alloc | refine keep_far ?_ GW913.out _ | refine keep_far ?_ GW926.out _) | exact HK.out))) : w.heap.size ≤ gb948)); have GE948 := Aside0.mk ((Nat.le_trans HW0.out (by rw [hg]; exact (keep_size (w := w) (g := g) (row := none) (by repeat (first | (with_reducible first | exact HK.out | apply KeepBut.set_ | apply keep_drewN | apply keep_drew | apply keep_alloc | refine keep_far ?_ GW913.out _ | refine keep_far ?_ GW926.out _) | exact HK.out))) : w.heap.size ≤ gb948) : w0.heap.size ≤ gb948)); replace HK := Aside0.mk (KeepBut.trans (by repeat (first | (with_reducible first | exact HK.out | apply KeepBut.set_ | apply keep_drewN | apply keep_drew | apply keep_alloc | refine keep_far ?_ GW913.out _ | refine keep_far ?_ GW926.out _) | exact HK.out)) (KeepBut.of_below hb g none) (.inl rfl)); have NB913_948 := bN BK913 hg; have NB948_913 := bM BK913 hg; replace BK913 := KB BK913 hb; have NB926_948 := bN BK926 hg; have NB948_926 := bM BK926 hg; replace BK926 := KB BK926 hb; have NB0_948 := Aside0.mk ((by rw [hg]; exact Nat.ne_of_lt (IsSPl1Cur.lt (show IsSPl1Cur w0 _ g s0_0 t938 t939 from by repeat (first | (with_reducible first | exact HI0.out | apply IsSPl1Cur.alloc | apply IsSPl1Cur.drewN | apply IsSPl1Cur.drew | apply IsSPl1Cur.set_1 | apply IsSPl1Cur.set_2 | refine IsSPl1Cur.far ?_ NB0_913.out _ | refine IsSPl1Cur.far ?_ NB0_926.out _) | exact HI0.out))) : g ≠ gb948)); have NB948_0 := Aside0.mk ((by rw [hg]; exact Nat.ne_of_gt (IsSPl1Cur.lt (show IsSPl1Cur w0 _ g s0_0 t938 t939 from by repeat (first | (with_reducible first | exact HI0.out | apply IsSPl1Cur.alloc | apply IsSPl1Cur.drewN | apply IsSPl1Cur.drew | apply IsSPl1Cur.set_1 | apply IsSPl1Cur.set_2 | refine IsSPl1Cur.far ?_ NB0_913.out _ | refine IsSPl1Cur.far ?_ NB0_926.out _) | exact HI0.out))) : gb948 ≠ g)); replace HI0 := Aside0.mk (IsSPl1Cur.below (by repeat (first | (with_reducible first | exact HI0.out | apply IsSPl1Cur.alloc | apply IsSPl1Cur.drewN | apply IsSPl1Cur.drew | apply IsSPl1Cur.set_1 | apply IsSPl1Cur.set_2 | refine IsSPl1Cur.far ?_ NB0_913.out _ | refine IsSPl1Cur.far ?_ NB0_926.out _) | exact HI0.out)) hb); clear hb hbox hg; obtain ⟨Ao38, co38, eo38⟩ := Kd.R_slice HO942.out; subst eo38; obtain ⟨hnb39, hnc39⟩ := nn NB948_913; obtain ⟨hnb40, hnc40⟩ := nn NB948_926; obtain ⟨hnb41, hnc41⟩ := nn NB948_0; have hcz42 := cz2 BK948; obtain ⟨Ao43, co43, eo43⟩ := Kd.R_slice HO945.out; subst eo43; have hcz44 := cz2 BK926))
       go_roundg k2
       case measure => have := HJ3.out; have := HK2.out; omega
       case rel => exact ⟨(wrap64 (x5_2 - 1)), (t940), (t943), (.slice Ao38 t940.length co38), (.slice Ao43 t943.length co43), TF, H', ⟨by have := HJ3.out; have := HK2.out; omega⟩, ⟨by (with_reducible repeat (first | apply Kd.R_alloc | apply Kd.R_drewN | apply Kd.R_drew)); exact Kd.R_mono (Kd.R_far (p := ⟨gb926, 1, none⟩) (Kd.R_far (p := ⟨gb926, 0, none⟩) (Kd.R_far (p := ⟨gb948, 1, none⟩) (Kd.R_far (p := ⟨gb948, 0, none⟩) (Kd.R_types (Kd.R_types HO942.out BK948.out (by decide)) BK926.out (by decide)) (fun _ hk => hk.1.2) (.slice Ao38 t940.length co38)) (fun _ hk => hk.1.2) (.slice Ao43 t943.length co43)) (fun _ hk => hk.2) (.slice Ao38 t940.length co38)) (fun _ hk => hk.2) (.slice Ao43 t943.length co43)) (fun _ hk => hk.1.1.1.1)⟩, ⟨by (with_reducible repeat (first | apply Kd.R_alloc | apply Kd.R_drewN | apply Kd.R_drew)); exact Kd.R_mono (Kd.R_far (p := ⟨gb926, 1, none⟩) (Kd.R_far (p := ⟨gb926, 0, none⟩) (Kd.R_far (p := ⟨gb948, 1, none⟩) (Kd.R_far (p := ⟨gb948, 0, none⟩) (Kd.R_types (Kd.R_types HO945.out BK948.out (by decide)) BK926.out (by decide)) (fun _ hk => hk.1.2) (.slice Ao38 t940.length co38)) (fun _ hk => hk.1.2) (.slice Ao43 t943.length co43)) (fun _ hk => hk.2) (.slice Ao38 t940.length co38)) (fun _ hk => hk.2) (.slice Ao43 t943.length co43)) (fun _ hk => hk.1.1.1.1)⟩, ⟨TS⟩, ⟨by (with_reducible repeat (first | refine blk_drewN ?_ _ | refine blk_drew ?_ | refine blk_alloc ?_ _)); refine blk_put (cs := #[.slice Ao38 t940.length co38, .slice Ao35 x927001_2.length co35]) ?_ 1 _ rfl; (with_reducible repeat (first | refine blk_drewN ?_ _ | refine blk_drew ?_ | refine blk_alloc ?_ _)); refine blk_put (cs := #[.slice Ao34 x927000_2.length co34, .slice Ao35 x927001_2.length co35]) ?_ 0 _ rfl; (with_reducible repeat (first | refine blk_drewN ?_ _ | refine blk_drew ?_ | refine blk_alloc ?_ _)); refine blk_far ?_ NB926_948.out _; (with_reducible repeat (first | refine blk_drewN ?_ _ | refine blk_drew ?_ | refine blk_alloc ?_ _)); refine blk_far ?_ NB926_948.out _; (with_reducible repeat (first | refine blk_drewN ?_ _ | refine blk_drew ?_ | refine blk_alloc ?_ _)); exact BK926.out⟩, ⟨by repeat (first | (with_reducible first | exact HI0.out | apply IsSPl1Cur.alloc | apply IsSPl1Cur.drewN | apply IsSPl1Cur.drew | apply IsSPl1Cur.set_1 | apply IsSPl1Cur.set_2 | refine IsSPl1Cur.far ?_ NB0_913.out _ | refine IsSPl1Cur.far ?_ NB0_926.out _ | refine IsSPl1Cur.far ?_ NB0_948.out _) | exact HI0.out)⟩, ⟨by repeat (first | (with_reducible first | exact HK.out | apply KeepBut.set_ | apply keep_drewN | apply keep_drew | apply keep_alloc | refine keep_far ?_ GW913.out _ | refine keep_far ?_ GW926.out _ | refine keep_far ?_ GW948.out _) | exact HK.out)⟩, ⟨by repeat (first | (with_reducible first | exact HB.out | apply below_alloc | apply pw_below_drewN | apply below_drew1 | refine below_set ?_ (IsSPl1Cur.ge HI0.out) | refine below_set ?_ GE913.out | refine below_set ?_ GE926.out | refine below_set ?_ GE948.out) | exact HB.out)⟩⟩
      ·replace c30 := Bool.eq_false_iff.mpr c30
       subst c30
       replace H := iff' H
       have H' := Aside0.mk H
       clear H
       have hnb45 := NB926_913.out
       have hnc45 := NB913_926.out
       have hnb46 := NB926_0.out
       have hnc46 := NB0_926.out
       have hcz47 := cz2 BK926
       obtain ⟨Ao48, co48, eo48⟩ := Kd.R_slice HO_927000.out
       subst eo48
       obtain ⟨Ao49, co49, eo49⟩ := Kd.R_slice HO_927001.out
       subst eo49
       go_wp2_with (first | ((with_reducible refine gate_callee (f := 45) rfl ?_); refine goesL_ (some 30) rfl rfl Try.func45 KR rfl #[.agg #[.slice Ao48 x927000_2.length co48, .slice Ao49 x927001_2.length co49]] rfl TA ?_; (with_reducible refine (spec_NextTurn.calls k2 _ _ x927000_2 _ _ x927001_2 t940 t943 t946 false _ ?side1 ?side2 ?side3 ?side4 A29.out).mono ?_); (case side1 => exact CW ((Kd.R_reads' HO_927000.out).2.2)); (case side2 => exact RI HO_927000); (case side3 => exact CW ((Kd.R_reads' HO_927001.out).2.2)); (case side4 => exact RI HO_927001); rintro e w50 ⟨v941, v944, rfl, ho0, ho1, hb⟩; refine ⟨_, rfl, ?_⟩; have HO942 := Aside0.mk (Kd.R_lower (NW (NW ho0 HO_927000) HO_927001) (keep_size (w := w) (g := g) (row := none) (by repeat (first | (with_reducible first | exact HK.out | apply KeepBut.set_ | apply keep_drewN | apply keep_drew | apply keep_alloc | refine keep_far ?_ GW913.out _ | refine keep_far ?_ GW926.out _) | exact HK.out)))); have HO945 := Aside0.mk (Kd.R_lower (NW (NW ho1 HO_927000) HO_927001) (keep_size (w := w) (g := g) (row := none) (by repeat (first | (with_reducible first | exact HK.out | apply KeepBut.set_ | apply keep_drewN | apply keep_drew | apply keep_alloc | refine keep_far ?_ GW913.out _ | refine keep_far ?_ GW926.out _) | exact HK.out)))); replace HO_927000 := O2 HO_927000 ho0 ho1 hb; replace HO_927001 := O2 HO_927001 ho0 ho1 hb; replace BK913 := KB BK913 hb; replace BK926 := KB BK926 hb; replace HK := Aside0.mk (KeepBut.trans (by repeat (first | (with_reducible first | exact HK.out | apply KeepBut.set_ | apply keep_drewN | apply keep_drew | apply keep_alloc | refine keep_far ?_ GW913.out _ | refine keep_far ?_ GW926.out _) | exact HK.out)) (KeepBut.of_below hb g none) (.inl rfl)); replace HB := Aside0.mk (below_step (by repeat (first | (with_reducible first | exact HB.out | apply below_alloc | apply pw_below_drewN | apply below_drew1 | refine below_set ?_ (IsSPl1Cur.ge HI0.out) | refine below_set ?_ GE913.out | refine below_set ?_ GE926.out) | exact HB.out)) hb); replace HI0 := Aside0.mk (IsSPl1Cur.below (by repeat (first | (with_reducible first | exact HI0.out | apply IsSPl1Cur.alloc | apply IsSPl1Cur.drewN | apply IsSPl1Cur.drew | apply IsSPl1Cur.set_1 | apply IsSPl1Cur.set_2 | refine IsSPl1Cur.far ?_ NB0_913.out _ | refine IsSPl1Cur.far ?_ NB0_926.out _) | exact HI0.out)) hb); clear hb; (try clear ho0); (try clear ho1)) | ((with_reducible refine gate_dst (N := 6) rfl ?_); refine bE 6 #[.slice none 0 0, .slice none 0 0] 40 ?_; intro gb948 hg w51 hbox hb; replace HO_927000 := RB HO_927000 hb; replace HO_927001 := RB HO_927001 hb; replace HO942 := RB HO942 hb; replace HO945 := RB HO945 hb; replace HB := Aside0.mk (below_step (by repeat (first | (with_reducible first | exact HB.out | apply below_alloc | apply pw_below_drewN | apply below_drew1 | refine below_set ?_ (IsSPl1Cur.ge HI0.out) | refine below_set ?_ GE913.out | refine below_set ?_ GE926.out) | exact HB.out)) hb); have BK948 := Aside0.mk (hbox); have GW948 := Aside0.mk ((by rw [hg]; exact (keep_size (w := w) (g := g) (row := none) (by repeat (first | (with_reducible first | exact HK.out | apply KeepBut.set_ | apply keep_drewN | apply keep_drew | apply keep_alloc | refine keep_far ?_ GW913.out _ | refine keep_far ?_ GW926.out _) | exact HK.out))) : w.heap.size ≤ gb948)); have GE948 := Aside0.mk ((Nat.le_trans HW0.out (by rw [hg]; exact (keep_size (w := w) (g := g) (row := none) (by repeat (first | (with_reducible first | exact HK.out | apply KeepBut.set_ | apply keep_drewN | apply keep_drew | apply keep_alloc | refine keep_far ?_ GW913.out _ | refine keep_far ?_ GW926.out _) | exact HK.out))) : w.heap.size ≤ gb948) : w0.heap.size ≤ gb948)); replace HK := Aside0.mk (KeepBut.trans (by repeat (first | (with_reducible first | exact HK.out | apply KeepBut.set_ | apply keep_drewN | apply keep_drew | apply keep_alloc | refine keep_far ?_ GW913.out _ | refine keep_far ?_ GW926.out _) | exact HK.out)) (KeepBut.of_below hb g none) (.inl rfl)); have NB913_948 := bN BK913 hg; have NB948_913 := bM BK913 hg; replace BK913 := KB BK913 hb; have NB926_948 := bN BK926 hg; have NB948_926 := bM BK926 hg; replace BK926 := KB BK926 hb; have NB0_948 := Aside0.mk ((by rw [hg]; exact Nat.ne_of_lt (IsSPl1Cur.lt (show IsSPl1Cur w0 _ g s0_0 t938 t939 from by repeat (first | (with_reducible first | exact HI0.out | apply IsSPl1Cur.alloc | apply IsSPl1Cur.drewN | apply IsSPl1Cur.drew | apply IsSPl1Cur.set_1 | apply IsSPl1Cur.set_2 | refine IsSPl1Cur.far ?_ NB0_913.out _ | refine IsSPl1Cur.far ?_ NB0_926.out _) | exact HI0.out))) : g ≠ gb948)); have NB948_0 := Aside0.mk ((by rw [hg]; exact Nat.ne_of_gt (IsSPl1Cur.lt (show IsSPl1Cur w0 _ g s0_0 t938 t939 from by repeat (first | (with_reducible first | exact HI0.out | apply IsSPl1Cur.alloc | apply IsSPl1Cur.drewN | apply IsSPl1Cur.drew | apply IsSPl1Cur.set_1 | apply IsSPl1Cur.set_2 | refine IsSPl1Cur.far ?_ NB0_913.out _ | refine IsSPl1Cur.far ?_ NB0_926.out _) | exact HI0.out))) : gb948 ≠ g)); replace HI0 := Aside0.mk (IsSPl1Cur.below (by repeat (first | (with_reducible first | exact HI0.out | apply IsSPl1Cur.alloc | apply IsSPl1Cur.drewN | apply IsSPl1Cur.drew | apply IsSPl1Cur.set_1 | apply IsSPl1Cur.set_2 | refine IsSPl1Cur.far ?_ NB0_913.out _ | refine IsSPl1Cur.far ?_ NB0_926.out _) | exact HI0.out)) hb); clear hb hbox hg; obtain ⟨Ao52, co52, eo52⟩ := Kd.R_slice HO942.out; subst eo52; obtain ⟨hnb53, hnc53⟩ := nn NB948_913; obtain ⟨hnb54, hnc54⟩ := nn NB948_926; obtain ⟨hnb55, hnc55⟩ := nn NB948_0; have hcz56 := cz2 BK948; obtain ⟨Ao57, co57, eo57⟩ := Kd.R_slice HO945.out; subst eo57))
       go_roundg k2
       case measure => have := HJ3.out; have := HK2.out; omega
       case rel => exact ⟨(wrap64 (x5_2 - 1)), (x927000_2), (x927001_2), (.slice Ao48 x927000_2.length co48), (.slice Ao49 x927001_2.length co49), TF, H', ⟨by have := HJ3.out; have := HK2.out; omega⟩, ⟨by (with_reducible repeat (first | apply Kd.R_alloc | apply Kd.R_drewN | apply Kd.R_drew)); exact Kd.R_mono (Kd.R_far (p := ⟨gb948, 1, none⟩) (Kd.R_far (p := ⟨gb948, 0, none⟩) (Kd.R_types HO_927000.out BK948.out (by decide)) (fun _ hk => hk.2) (.slice Ao52 t940.length co52)) (fun _ hk => hk.2) (.slice Ao57 t943.length co57)) (fun _ hk => hk.1.1.1)⟩, ⟨by (with_reducible repeat (first | apply Kd.R_alloc | apply Kd.R_drewN | apply Kd.R_drew)); exact Kd.R_mono (Kd.R_far (p := ⟨gb948, 1, none⟩) (Kd.R_far (p := ⟨gb948, 0, none⟩) (Kd.R_types HO_927001.out BK948.out (by decide)) (fun _ hk => hk.2) (.slice Ao52 t940.length co52)) (fun _ hk => hk.2) (.slice Ao57 t943.length co57)) (fun _ hk => hk.1.1.1)⟩, ⟨TS⟩, ⟨TS⟩, ⟨by repeat (first | (with_reducible first | exact HI0.out | apply IsSPl1Cur.alloc | apply IsSPl1Cur.drewN | apply IsSPl1Cur.drew | apply IsSPl1Cur.set_1 | apply IsSPl1Cur.set_2 | refine IsSPl1Cur.far ?_ NB0_913.out _ | refine IsSPl1Cur.far ?_ NB0_926.out _ | refine IsSPl1Cur.far ?_ NB0_948.out _) | exact HI0.out)⟩, ⟨by repeat (first | (with_reducible first | exact HK.out | apply KeepBut.set_ | apply keep_drewN | apply keep_drew | apply keep_alloc | refine keep_far ?_ GW913.out _ | refine keep_far ?_ GW926.out _ | refine keep_far ?_ GW948.out _) | exact HK.out)⟩, ⟨by repeat (first | (with_reducible first | exact HB.out | apply below_alloc | apply pw_below_drewN | apply below_drew1 | refine below_set ?_ (IsSPl1Cur.ge HI0.out) | refine below_set ?_ GE913.out | refine below_set ?_ GE926.out | refine below_set ?_ GE948.out) | exact HB.out)⟩⟩
     ·rw [if_neg c28] at H
      have c28b0 : decide (0 < x5_2) = false := decide_eq_false c28
      clear c28
      obtain ⟨⟨t949, t950, t951⟩, A58, H⟩ := bnd H
      try dsimp only at H
      by_cases c59 : t949 = true
      ·subst c59
       replace H := ift H
       obtain ⟨c60, H⟩ := ifn H
       have c60b0 : decide (0 < (x927001_2.length : Int)) = true := decide_eq_true c60
       have c60b1 : decide (0 < x927001_2.length) = true := decide_eq_true (by omega)
       clear c60
       obtain ⟨y953, hy953⟩ : ∃ y_ : List Int, y_ = (x927001_2.set (0 : Int).toNat (wrap64 ((rd x927001_2 0) + 1))) := ⟨_, rfl⟩
       replace H : (some (x927000_2, y953, t950, t951)) = some (r1, r2, r3, r4) := by first | (rw [hy953]; with_reducible exact H) | (have H2_ := (Option.bind_some _ _).symm.trans H; rw [hy953]; with_reducible exact H2_) | (have H2_ := (Option.bind_some _ _).symm.trans H; with_reducible exact H2_) | with_reducible exact H | (rw [hy953]; exact H) | exact H
       have Ny953 := Aside0.mk hy953
       clear hy953
       simp only [Option.some.injEq, Prod.mk.injEq] at H
       obtain ⟨rfl, rfl, rfl, rfl⟩ := H
       go_wp2_with (first | ((with_reducible refine gate_callee (f := 89) rfl ?_); refine goesL_ (some 37) rfl rfl Try.func89 KR rfl #[.pointer (some ⟨g, 0, none⟩), .int .i64 20] rfl TA ?_; (with_reducible refine (spec_l1Cur_one.calls g s0_0 t938 t939 20 true t950 t951 w0 _ ?side1 ?side2 A58.out).mono ?_); (case side1 => repeat (first | (with_reducible first | exact HI0.out | apply IsSPl1Cur.alloc | apply IsSPl1Cur.drewN | apply IsSPl1Cur.drew | apply IsSPl1Cur.set_1 | apply IsSPl1Cur.set_2 | refine IsSPl1Cur.far ?_ NB0_913.out _ | refine IsSPl1Cur.far ?_ NB0_926.out _) | exact HI0.out)); (case side2 => repeat (first | (with_reducible first | exact HB.out | apply below_alloc | apply pw_below_drewN | apply below_drew1 | refine below_set ?_ (IsSPl1Cur.ge HI0.out) | refine below_set ?_ GE913.out | refine below_set ?_ GE926.out) | exact HB.out)); rintro e w62 ⟨rfl, hi, hb, hk⟩; refine ⟨_, rfl, ?_⟩; replace HO_927000 := Aside0.mk (Kd.R_mono (Kd.R_keep (IsSPl1Cur.apart (show IsSPl1Cur w0 _ g s0_0 t938 t939 from by repeat (first | (with_reducible first | exact HI0.out | apply IsSPl1Cur.alloc | apply IsSPl1Cur.drewN | apply IsSPl1Cur.drew | apply IsSPl1Cur.set_1 | apply IsSPl1Cur.set_2 | refine IsSPl1Cur.far ?_ NB0_913.out _ | refine IsSPl1Cur.far ?_ NB0_926.out _) | exact HI0.out)) (RW HO_927000).out (by decide)) hk (fun _ h => h.2)) (fun _ h => h.1)); replace HO_927001 := Aside0.mk (Kd.R_mono (Kd.R_keep (IsSPl1Cur.apart (show IsSPl1Cur w0 _ g s0_0 t938 t939 from by repeat (first | (with_reducible first | exact HI0.out | apply IsSPl1Cur.alloc | apply IsSPl1Cur.drewN | apply IsSPl1Cur.drew | apply IsSPl1Cur.set_1 | apply IsSPl1Cur.set_2 | refine IsSPl1Cur.far ?_ NB0_913.out _ | refine IsSPl1Cur.far ?_ NB0_926.out _) | exact HI0.out)) (RW HO_927001).out (by decide)) hk (fun _ h => h.2)) (fun _ h => h.1)); replace BK913 := Aside0.mk (KeepBut.blk hk (g' := gb913) (o := .cells #[.slice none 0 0, .slice none 0 0] 40 (0, 0)) (KW BK913).out NB913_0.out (by simp)); replace BK926 := Aside0.mk (KeepBut.blk hk (g' := gb926) (o := .cells #[u927000, u927001] 40 (0, 0)) (KW BK926).out NB926_0.out (by simp)); replace HK := Aside0.mk (KeepBut.trans (by repeat (first | (with_reducible first | exact HK.out | apply KeepBut.set_ | apply keep_drewN | apply keep_drew | apply keep_alloc | refine keep_far ?_ GW913.out _ | refine keep_far ?_ GW926.out _) | exact HK.out)) hk (.inl rfl)); replace HB := Aside0.mk (hb); replace HI0 := Aside0.mk (hi); clear hb hk hi; obtain ⟨hnb63, hnc63⟩ := nn NB926_913; obtain ⟨hnb64, hnc64⟩ := nn NB926_0; have hcz65 := cz2 BK926; obtain ⟨Ao66, co66, eo66⟩ := Kd.R_slice HO_927001.out; subst eo66; have p952 : 0 ≤ (0 : Int) := (by omega); have q952 : 0 < (x927001_2.length : Int) := TD; obtain ⟨ad952, e952, hx952_0⟩ := Kd.at_int (Kd.R_reads' HO_927001.out).2.2 0 p952 q952; cases e952; have qi952 : (0 < x927001_2.length) = True := eq_true (by omega); (try rw [show ((0 : Int)).toNat = 0 from rfl] at hx952_0); (try rw [Addr.add_zero'] at hx952_0); replace p952 := eq_true p952; replace q952 := eq_true q952; have p61 : 0 ≤ (0 : Int) := (by omega); have q61 : (0 : Int) < ((x927001_2.length : Int) : Int) := TD; have qi61 : (0 < x927001_2.length) = True := eq_true (by omega); obtain ⟨go61, co61, eo61, gb61, gl61, cl61, HG61⟩ := Kd.R_form HO_927001.out (by omega); (first | cases eo61 | (injection eo61 with ea_ en_ ec_; (first | subst ea_ | (injection ea_ with ea_; subst ea_)); subst ec_; clear en_)); have GB61 := Aside0.mk gb61; have GG61 := Aside0.mk HG61; clear gb61 gl61 HG61; (first | simp only [add_plain] at hx952_0 | skip); obtain ⟨hx61_0, hf61_0⟩ := Kd.R_celln 0 HO_927001.out (0 : Int) p61 q61; (try rw [show ((0 : Int)).toNat = 0 from rfl] at hx61_0); (try simp only [Nat.reduceMul, Nat.zero_mul, Nat.zero_add, Nat.reduceAdd] at hx61_0); (try rw [show ((0 : Int)).toNat = 0 from rfl] at hf61_0); (try simp only [Nat.reduceMul, Nat.zero_mul, Nat.zero_add, Nat.reduceAdd] at hf61_0); replace p61 := eq_true p61; replace q61 := eq_true q61; obtain ⟨hy67_, hz67_⟩ := Kd.R_celln 0 HO_927001.out (0 : Int) (by omega) TD; (try simp only [Int.reduceToNat, Int.toNat_zero, Int.toNat_ofNat, Nat.reduceMul, Nat.zero_mul, Nat.zero_add] at hy67_ hz67_); (try rw [show ((0 : Int)).toNat = 0 from rfl] at hy67_); (try rw [show ((0 : Int)).toNat = 0 from rfl] at hz67_); have HP67 := Kd.R_putg HO_927001.out (0 : Int) (wrap64 ((rd x927001_2 0) + 1))) | ((with_reducible refine gate_store (t := 3) (p := 43) rfl ?_); refine store_event (t := 3) (p := 43) (v := ?vo_w68) (w1 := (w62.setCell ⟨go61, (0 : Int).toNat, none⟩ (.int .i64 (wrap64 ((rd x927001_2 0) + 1))))) ?hg ?ho ?hn ?hr ?_; (case ho => rfl); (case hg => rfl); (case hn => rfl); (case hr => first | (go_simp; done) | (go_simp; rfl)); intro w68 hw; have hg : w62.grownBy w68 (some go61) := (by rw [hw]; exact HP67.2); have hp_ : Kd.R (Kd.int .i64) 3 w68 w.heap.size (fun k_ => some k_ ≠ (u927000 : Value).ownBlock) (.slice (some ⟨go61, 0, none⟩) x927001_2.length co66) y953 := (by rw [hw, Ny953.out]; exact HP67.1); clear HP67; replace HO_927000 := Aside0.mk (Kd.R_after (v := (.slice (some ⟨go61, 0, none⟩) x927001_2.length co66)) (v1 := (.slice (some ⟨go61, 0, none⟩) x927001_2.length co66)) (ok := (fun _ => True)) (by (with_reducible repeat (first | apply Kd.R_alloc | apply Kd.R_drewN | apply Kd.R_drew)); exact Kd.R_mono HO_927000.out (fun _ hk => ⟨trivial, hk⟩)) hg (.inl rfl)); replace BK913 := Aside0.mk (blk_grown (g := gb913) (o := .cells #[.slice none 0 0, .slice none 0 0] 40 (0, 0)) (KW BK913).out hg (Kd.R_ne HO_927001.out BK913.out (by decide))); replace BK926 := Aside0.mk (blk_grown (g := gb926) (o := .cells #[u927000, .slice (some ⟨go61, 0, none⟩) x927001_2.length co66] 40 (0, 0)) (KW BK926).out hg (Kd.R_ne HO_927001.out BK926.out (by decide))); replace HI0 := Aside0.mk (IsSPl1Cur.grown (by repeat (first | (with_reducible first | exact HI0.out | apply IsSPl1Cur.alloc | apply IsSPl1Cur.drewN | apply IsSPl1Cur.drew | apply IsSPl1Cur.set_1 | apply IsSPl1Cur.set_2 | refine IsSPl1Cur.far ?_ NB0_913.out _ | refine IsSPl1Cur.far ?_ NB0_926.out _) | exact HI0.out)) hg (IsSPl1Cur.own_ne HI0.out HO_927001.out (by decide))); replace HB := Aside0.mk ((by rw [hw]; exact below_set (HB.out) (Nat.le_trans HL.out GB61.out) : Below w0.heap.size w0 w68)); replace HK := Aside0.mk (KeepBut.trans (by repeat (first | (with_reducible first | exact HK.out | apply KeepBut.set_ | apply keep_drewN | apply keep_drew | apply keep_alloc | refine keep_far ?_ GW913.out _ | refine keep_far ?_ GW926.out _) | exact HK.out)) (KeepBut.of_grown hg g) (Kd.R_base2 HO_927001.out)); replace HO_927001 := Aside0.mk (hp_); clear hg hw hp_; have hcz69 := cz2 BK926; obtain ⟨Ao70, co70, eo70⟩ := Kd.R_slice HO_927000.out; subst eo70; obtain ⟨hnb71, hnc71⟩ := nn NB913_0; have hcz72 := cz2 BK913))
       refine bodyPost_ret (results_cell_row rfl _ _ gb913 40 #[.slice Ao70 x927000_2.length co70, .slice (some ⟨go61, 0, none⟩) x927001_2.length co66] (0, 0) _ rfl (by (with_reducible repeat (first | refine blk_drewN ?_ _ | refine blk_drew ?_ | refine blk_alloc ?_ _)); refine blk_put (cs := #[.slice Ao70 x927000_2.length co70, .slice none 0 0]) ?_ 1 _ rfl; (with_reducible repeat (first | refine blk_drewN ?_ _ | refine blk_drew ?_ | refine blk_alloc ?_ _)); refine blk_put (cs := #[.slice none 0 0, .slice none 0 0]) ?_ 0 _ rfl; (with_reducible repeat (first | refine blk_drewN ?_ _ | refine blk_drew ?_ | refine blk_alloc ?_ _)); exact BK913.out) Try.underlying40 rfl KR) rfl ?_
       exact ⟨_, _, TE, by (with_reducible repeat (first | apply Kd.R_alloc | apply Kd.R_drewN | apply Kd.R_drew)); exact Kd.R_mono (Kd.R_far (p := ⟨gb913, 1, none⟩) (Kd.R_far (p := ⟨gb913, 0, none⟩) (Kd.R_types HO_927000.out BK913.out (by decide)) (fun _ hk => hk.2) (.slice Ao70 x927000_2.length co70)) (fun _ hk => hk.2) (.slice (some ⟨go61, 0, none⟩) x927001_2.length co66)) (fun _ hk => hk.1.2), by (with_reducible repeat (first | apply Kd.R_alloc | apply Kd.R_drewN | apply Kd.R_drew)); exact Kd.R_mono (Kd.R_far (p := ⟨gb913, 1, none⟩) (Kd.R_far (p := ⟨gb913, 0, none⟩) (Kd.R_types HO_927001.out BK913.out (by decide)) (fun _ hk => hk.2) (.slice Ao70 x927000_2.length co70)) (fun _ hk => hk.2) (.slice (some ⟨go61, 0, none⟩) x927001_2.length co66)) (fun _ hk => hk.1), by repeat (first | (with_reducible first | exact HI0.out | apply IsSPl1Cur.alloc | apply IsSPl1Cur.drewN | apply IsSPl1Cur.drew | apply IsSPl1Cur.set_1 | apply IsSPl1Cur.set_2 | refine IsSPl1Cur.far ?_ NB0_913.out _ | refine IsSPl1Cur.far ?_ NB0_926.out _) | exact HI0.out), by repeat (first | (with_reducible first | exact HB.out | apply below_alloc | apply pw_below_drewN | apply below_drew1 | refine below_set ?_ (IsSPl1Cur.ge HI0.out) | refine below_set ?_ GE913.out | refine below_set ?_ GE926.out) | exact HB.out), by repeat (first | (with_reducible first | exact HK.out | apply KeepBut.set_ | apply keep_drewN | apply keep_drew | apply keep_alloc | refine keep_far ?_ GW913.out _ | refine keep_far ?_ GW926.out _) | exact HK.out)⟩
      ·replace c59 := Bool.eq_false_iff.mpr c59
       subst c59
       replace H := iff' H
       simp only [Option.some.injEq, Prod.mk.injEq] at H
       obtain ⟨rfl, rfl, rfl, rfl⟩ := H
       go_wp2_with (first | ((with_reducible refine gate_callee (f := 89) rfl ?_); refine goesL_ (some 37) rfl rfl Try.func89 KR rfl #[.pointer (some ⟨g, 0, none⟩), .int .i64 20] rfl TA ?_; (with_reducible refine (spec_l1Cur_one.calls g s0_0 t938 t939 20 false t950 t951 w0 _ ?side1 ?side2 A58.out).mono ?_); (case side1 => repeat (first | (with_reducible first | exact HI0.out | apply IsSPl1Cur.alloc | apply IsSPl1Cur.drewN | apply IsSPl1Cur.drew | apply IsSPl1Cur.set_1 | apply IsSPl1Cur.set_2 | refine IsSPl1Cur.far ?_ NB0_913.out _ | refine IsSPl1Cur.far ?_ NB0_926.out _) | exact HI0.out)); (case side2 => repeat (first | (with_reducible first | exact HB.out | apply below_alloc | apply pw_below_drewN | apply below_drew1 | refine below_set ?_ (IsSPl1Cur.ge HI0.out) | refine below_set ?_ GE913.out | refine below_set ?_ GE926.out) | exact HB.out)); rintro e w73 ⟨rfl, hi, hb, hk⟩; refine ⟨_, rfl, ?_⟩; replace HO_927000 := Aside0.mk (Kd.R_mono (Kd.R_keep (IsSPl1Cur.apart (show IsSPl1Cur w0 _ g s0_0 t938 t939 from by repeat (first | (with_reducible first | exact HI0.out | apply IsSPl1Cur.alloc | apply IsSPl1Cur.drewN | apply IsSPl1Cur.drew | apply IsSPl1Cur.set_1 | apply IsSPl1Cur.set_2 | refine IsSPl1Cur.far ?_ NB0_913.out _ | refine IsSPl1Cur.far ?_ NB0_926.out _) | exact HI0.out)) (RW HO_927000).out (by decide)) hk (fun _ h => h.2)) (fun _ h => h.1)); replace HO_927001 := Aside0.mk (Kd.R_mono (Kd.R_keep (IsSPl1Cur.apart (show IsSPl1Cur w0 _ g s0_0 t938 t939 from by repeat (first | (with_reducible first | exact HI0.out | apply IsSPl1Cur.alloc | apply IsSPl1Cur.drewN | apply IsSPl1Cur.drew | apply IsSPl1Cur.set_1 | apply IsSPl1Cur.set_2 | refine IsSPl1Cur.far ?_ NB0_913.out _ | refine IsSPl1Cur.far ?_ NB0_926.out _) | exact HI0.out)) (RW HO_927001).out (by decide)) hk (fun _ h => h.2)) (fun _ h => h.1)); replace BK913 := Aside0.mk (KeepBut.blk hk (g' := gb913) (o := .cells #[.slice none 0 0, .slice none 0 0] 40 (0, 0)) (KW BK913).out NB913_0.out (by simp)); replace BK926 := Aside0.mk (KeepBut.blk hk (g' := gb926) (o := .cells #[u927000, u927001] 40 (0, 0)) (KW BK926).out NB926_0.out (by simp)); replace HK := Aside0.mk (KeepBut.trans (by repeat (first | (with_reducible first | exact HK.out | apply KeepBut.set_ | apply keep_drewN | apply keep_drew | apply keep_alloc | refine keep_far ?_ GW913.out _ | refine keep_far ?_ GW926.out _) | exact HK.out)) hk (.inl rfl)); replace HB := Aside0.mk (hb); replace HI0 := Aside0.mk (hi); clear hb hk hi; obtain ⟨hnb74, hnc74⟩ := nn NB926_913; obtain ⟨hnb75, hnc75⟩ := nn NB926_0; have hcz76 := cz2 BK926; obtain ⟨Ao77, co77, eo77⟩ := Kd.R_slice HO_927000.out; subst eo77; obtain ⟨hnb78, hnc78⟩ := nn NB913_0; have hcz79 := cz2 BK913; obtain ⟨Ao80, co80, eo80⟩ := Kd.R_slice HO_927001.out; subst eo80))
       refine bodyPost_ret (results_cell_row rfl _ _ gb913 40 #[.slice Ao77 x927000_2.length co77, .slice Ao80 x927001_2.length co80] (0, 0) _ rfl (by (with_reducible repeat (first | refine blk_drewN ?_ _ | refine blk_drew ?_ | refine blk_alloc ?_ _)); refine blk_put (cs := #[.slice Ao77 x927000_2.length co77, .slice none 0 0]) ?_ 1 _ rfl; (with_reducible repeat (first | refine blk_drewN ?_ _ | refine blk_drew ?_ | refine blk_alloc ?_ _)); refine blk_put (cs := #[.slice none 0 0, .slice none 0 0]) ?_ 0 _ rfl; (with_reducible repeat (first | refine blk_drewN ?_ _ | refine blk_drew ?_ | refine blk_alloc ?_ _)); exact BK913.out) Try.underlying40 rfl KR) rfl ?_
       exact ⟨_, _, TE, by (with_reducible repeat (first | apply Kd.R_alloc | apply Kd.R_drewN | apply Kd.R_drew)); exact Kd.R_mono (Kd.R_far (p := ⟨gb913, 1, none⟩) (Kd.R_far (p := ⟨gb913, 0, none⟩) (Kd.R_types HO_927000.out BK913.out (by decide)) (fun _ hk => hk.2) (.slice Ao77 x927000_2.length co77)) (fun _ hk => hk.2) (.slice Ao80 x927001_2.length co80)) (fun _ hk => hk.1), by (with_reducible repeat (first | apply Kd.R_alloc | apply Kd.R_drewN | apply Kd.R_drew)); exact Kd.R_mono (Kd.R_far (p := ⟨gb913, 1, none⟩) (Kd.R_far (p := ⟨gb913, 0, none⟩) (Kd.R_types HO_927001.out BK913.out (by decide)) (fun _ hk => hk.2) (.slice Ao77 x927000_2.length co77)) (fun _ hk => hk.2) (.slice Ao80 x927001_2.length co80)) (fun _ hk => hk.1), by repeat (first | (with_reducible first | exact HI0.out | apply IsSPl1Cur.alloc | apply IsSPl1Cur.drewN | apply IsSPl1Cur.drew | apply IsSPl1Cur.set_1 | apply IsSPl1Cur.set_2 | refine IsSPl1Cur.far ?_ NB0_913.out _ | refine IsSPl1Cur.far ?_ NB0_926.out _) | exact HI0.out), by repeat (first | (with_reducible first | exact HB.out | apply below_alloc | apply pw_below_drewN | apply below_drew1 | refine below_set ?_ (IsSPl1Cur.ge HI0.out) | refine below_set ?_ GE913.out | refine below_set ?_ GE926.out) | exact HB.out), by repeat (first | (with_reducible first | exact HK.out | apply KeepBut.set_ | apply keep_drewN | apply keep_drew | apply keep_alloc | refine keep_far ?_ GW913.out _ | refine keep_far ?_ GW926.out _) | exact HK.out)⟩
end
section
/-! ### spec_DrawGoodTurn: function 78 -/
def spec_DrawGoodTurn.f (k : Nat) (l0 : List Int) : Option (List Int × List Int) := (spec_l1Cur_turn.f k l0 0 0).bind fun bt956 => (some (bt956.1, bt956.2.1))
theorem spec_DrawGoodTurn.calls (k : Nat) (A0 : Option Addr) (c0 : Nat) (l0 : List Int) (r1 : List Int) (r2 : List Int) (w : World) (hr0 : Kd.C (Kd.int .u8) w A0 l0.length l0) (hc0 : l0.length ≤ c0) (h : spec_DrawGoodTurn.f k l0 = some (r1, r2)) :
  Calls Try.prog 78 #[.slice A0 l0.length c0] w fun e w' => ∃ v0_ v1_ : Value, e = .returned (.agg #[v0_, v1_]) ∧ Kd.R (Kd.int .i64) 3 w' w.heap.size (fun k_ => some k_ ≠ (v1_ : Value).ownBlock) v0_ r1 ∧ Kd.R (Kd.int .i64) 3 w' w.heap.size (fun k_ => some k_ ≠ (v0_ : Value).ownBlock) v1_ r2 ∧ Below w.heap.size w w' := by
 have hu40 := Try.underlying40
 have hu93 := Try.underlying93
 have HR0 := Aside0.mk hr0
 have HC0 := Aside0.mk hc0
 clear hr0 hc0
 have HB := Aside0.mk (Below.refl w.heap.size w)
 have H : ((spec_l1Cur_turn.f k l0 0 0).bind fun bt956 => (some (bt956.1, bt956.2.1))) = some (r1, r2) := h
 clear h
 obtain ⟨⟨t956, t959, t962, t963⟩, A2, H⟩ := bnd H
 try dsimp only at H
 simp only [Option.some.injEq, Prod.mk.injEq] at H
 obtain ⟨rfl, rfl⟩ := H
 go_enter Try.func78, Try.ntmps78
 go_wp2_with (first | ((with_reducible refine gate_dst (N := 2) rfl ?_); refine bE 2 #[.slice none 0 0, .slice none 0 0] 40 ?_; intro gb954 hg w3 hbox hb; have BK954 := Aside0.mk (hbox); have GE954 := bG hg; replace HB := BS hb; clear hb hbox hg) | ((with_reducible refine gate_dst (N := 6) rfl ?_); refine bE 6 #[.slice A0 l0.length c0, .int .i64 0, .int .u64 0] 93 ?_; intro gb955 hg w4 hbox hb; have HI955 := Aside0.mk ((⟨_, _, hbox, by rw [hg]; exact (below_size TB), HR0.out⟩ : IsSPl1Cur w w4 gb955 l0 0 0)); replace HB := BS hb; have NB954_955 := bN BK954 hg; have NB955_954 := bM BK954 hg; replace BK954 := KB BK954 hb; clear hb hbox hg) | ((with_reducible refine gate_callee (f := 90) rfl ?_); refine goesL_ (some 8) rfl rfl Try.func90 KR rfl #[.pointer (some ⟨gb955, 0, none⟩)] rfl TA ?_; (with_reducible refine (spec_l1Cur_turn.calls k gb955 l0 0 0 t956 t959 t962 t963 w _ ?side1 ?side2 A2.out).mono ?_); (case side1 => repeat (first | (with_reducible first | exact HI955.out | apply IsSPl1Cur.alloc | apply IsSPl1Cur.drewN | apply IsSPl1Cur.drew | apply IsSPl1Cur.set_1 | apply IsSPl1Cur.set_2 | refine IsSPl1Cur.far ?_ NB955_954.out _) | exact HI955.out)); (case side2 => repeat (first | (with_reducible first | exact HB.out | apply below_alloc | apply pw_below_drewN | apply below_drew1 | refine below_set ?_ (IsSPl1Cur.ge HI955.out) | refine below_set ?_ GE954.out) | exact HB.out)); rintro e w5 ⟨v957, v960, rfl, ho0, ho1, hi, hb, hk⟩; refine ⟨_, rfl, ?_⟩; replace BK954 := Aside0.mk (KeepBut.blk hk (g' := gb954) (o := .cells #[.slice none 0 0, .slice none 0 0] 40 (0, 0)) (KW BK954).out NB954_955.out (by simp)); have HO958 := Aside0.mk (Kd.R_lower ho0 (below_size (by repeat (first | (with_reducible first | exact HB.out | apply below_alloc | apply pw_below_drewN | apply below_drew1 | refine below_set ?_ (IsSPl1Cur.ge HI955.out) | refine below_set ?_ GE954.out) | exact HB.out)))); have HO961 := Aside0.mk (Kd.R_lower ho1 (below_size (by repeat (first | (with_reducible first | exact HB.out | apply below_alloc | apply pw_below_drewN | apply below_drew1 | refine below_set ?_ (IsSPl1Cur.ge HI955.out) | refine below_set ?_ GE954.out) | exact HB.out)))); replace HB := Aside0.mk (hb); replace HI955 := Aside0.mk (hi); clear hb hk hi; (try clear ho0); (try clear ho1); obtain ⟨Ao6, co6, eo6⟩ := Kd.R_slice HO958.out; subst eo6; obtain ⟨hnb7, hnc7⟩ := nn NB954_955; have hcz8 := cz2 BK954; obtain ⟨Ao9, co9, eo9⟩ := Kd.R_slice HO961.out; subst eo9))
 refine bodyPost_ret (results_cell_row rfl _ _ gb954 40 #[.slice Ao6 t956.length co6, .slice Ao9 t959.length co9] (0, 0) _ rfl (by (with_reducible repeat (first | refine blk_drewN ?_ _ | refine blk_drew ?_ | refine blk_alloc ?_ _)); refine blk_put (cs := #[.slice Ao6 t956.length co6, .slice none 0 0]) ?_ 1 _ rfl; (with_reducible repeat (first | refine blk_drewN ?_ _ | refine blk_drew ?_ | refine blk_alloc ?_ _)); refine blk_put (cs := #[.slice none 0 0, .slice none 0 0]) ?_ 0 _ rfl; (with_reducible repeat (first | refine blk_drewN ?_ _ | refine blk_drew ?_ | refine blk_alloc ?_ _)); exact BK954.out) Try.underlying40 rfl KR) rfl ?_
 exact ⟨_, _, TE, by (with_reducible repeat (first | apply Kd.R_alloc | apply Kd.R_drewN | apply Kd.R_drew)); exact Kd.R_mono (Kd.R_far (p := ⟨gb954, 1, none⟩) (Kd.R_far (p := ⟨gb954, 0, none⟩) (Kd.R_types HO958.out BK954.out (by decide)) (fun _ hk => hk.2) (.slice Ao6 t956.length co6)) (fun _ hk => hk.2) (.slice Ao9 t959.length co9)) (fun _ hk => hk.1), by (with_reducible repeat (first | apply Kd.R_alloc | apply Kd.R_drewN | apply Kd.R_drew)); exact Kd.R_mono (Kd.R_far (p := ⟨gb954, 1, none⟩) (Kd.R_far (p := ⟨gb954, 0, none⟩) (Kd.R_types HO961.out BK954.out (by decide)) (fun _ hk => hk.2) (.slice Ao6 t956.length co6)) (fun _ hk => hk.2) (.slice Ao9 t959.length co9)) (fun _ hk => hk.1), by repeat (first | (with_reducible first | exact HB.out | apply below_alloc | apply pw_below_drewN | apply below_drew1 | refine below_set ?_ (IsSPl1Cur.ge HI955.out) | refine below_set ?_ GE954.out) | exact HB.out)⟩
end
section
/-! ### spec_DrawNextTurn: function 49 -/
def spec_DrawNextTurn.f (k : Nat) (l0 : List Int) : Option (List Int × List Int) := (spec_DrawGoodTurn.f k l0).bind fun bt965 => (some (bt965.1, bt965.2))
theorem spec_DrawNextTurn.calls (k : Nat) (A0 : Option Addr) (c0 : Nat) (l0 : List Int) (r1 : List Int) (r2 : List Int) (w : World) (hr0 : Kd.C (Kd.int .u8) w A0 l0.length l0) (hc0 : l0.length ≤ c0) (h : spec_DrawNextTurn.f k l0 = some (r1, r2)) :
  Calls Try.prog 49 #[.slice A0 l0.length c0] w fun e w' => ∃ v0_ v1_ : Value, e = .returned (.agg #[v0_, v1_]) ∧ Kd.R (Kd.int .i64) 3 w' w.heap.size (fun k_ => some k_ ≠ (v1_ : Value).ownBlock) v0_ r1 ∧ Kd.R (Kd.int .i64) 3 w' w.heap.size (fun k_ => some k_ ≠ (v0_ : Value).ownBlock) v1_ r2 ∧ Below w.heap.size w w' := by
 have hu40 := Try.underlying40
 have HR0 := Aside0.mk hr0
 have HC0 := Aside0.mk hc0
 clear hr0 hc0
 have HB := Aside0.mk (Below.refl w.heap.size w)
 have H : ((spec_DrawGoodTurn.f k l0).bind fun bt965 => (some (bt965.1, bt965.2))) = some (r1, r2) := h
 clear h
 obtain ⟨⟨t965, t968⟩, A2, H⟩ := bnd H
 try dsimp only at H
 simp only [Option.some.injEq, Prod.mk.injEq] at H
 obtain ⟨rfl, rfl⟩ := H
 go_enter Try.func49, Try.ntmps49
 go_wp2_with (first | ((with_reducible refine gate_dst (N := 2) rfl ?_); refine bE 2 #[.slice none 0 0, .slice none 0 0] 40 ?_; intro gb964 hg w3 hbox hb; have BK964 := Aside0.mk (hbox); have GE964 := bG hg; replace HB := BS hb; clear hb hbox hg) | ((with_reducible refine gate_callee (f := 78) rfl ?_); refine goesL_ (some 4) rfl rfl Try.func78 KR rfl #[.slice A0 l0.length c0] rfl TA ?_; (with_reducible refine (spec_DrawGoodTurn.calls k _ _ l0 t965 t968 _ ?side1 ?side2 A2.out).mono ?_); (case side1 => exact CW ((Kd.C_below HR0.out HB.out))); (case side2 => exact HC0.out); rintro e w4 ⟨v966, v969, rfl, ho0, ho1, hb⟩; refine ⟨_, rfl, ?_⟩; have HO967 := RL ho0; have HO970 := RL ho1; replace BK964 := KB BK964 hb; replace HB := BS hb; clear hb; (try clear ho0); (try clear ho1); obtain ⟨Ao5, co5, eo5⟩ := Kd.R_slice HO967.out; subst eo5; have hcz6 := cz2 BK964; obtain ⟨Ao7, co7, eo7⟩ := Kd.R_slice HO970.out; subst eo7))
 refine bodyPost_ret (results_cell_row rfl _ _ gb964 40 #[.slice Ao5 t965.length co5, .slice Ao7 t968.length co7] (0, 0) _ rfl (by (with_reducible repeat (first | refine blk_drewN ?_ _ | refine blk_drew ?_ | refine blk_alloc ?_ _)); refine blk_put (cs := #[.slice Ao5 t965.length co5, .slice none 0 0]) ?_ 1 _ rfl; (with_reducible repeat (first | refine blk_drewN ?_ _ | refine blk_drew ?_ | refine blk_alloc ?_ _)); refine blk_put (cs := #[.slice none 0 0, .slice none 0 0]) ?_ 0 _ rfl; (with_reducible repeat (first | refine blk_drewN ?_ _ | refine blk_drew ?_ | refine blk_alloc ?_ _)); exact BK964.out) Try.underlying40 rfl KR) rfl ?_
 exact ⟨_, _, TE, by (with_reducible repeat (first | apply Kd.R_alloc | apply Kd.R_drewN | apply Kd.R_drew)); exact Kd.R_mono (Kd.R_far (p := ⟨gb964, 1, none⟩) (Kd.R_far (p := ⟨gb964, 0, none⟩) (Kd.R_types HO967.out BK964.out (by decide)) (fun _ hk => hk.2) (.slice Ao5 t965.length co5)) (fun _ hk => hk.2) (.slice Ao7 t968.length co7)) (fun _ hk => hk.1), by (with_reducible repeat (first | apply Kd.R_alloc | apply Kd.R_drewN | apply Kd.R_drew)); exact Kd.R_mono (Kd.R_far (p := ⟨gb964, 1, none⟩) (Kd.R_far (p := ⟨gb964, 0, none⟩) (Kd.R_types HO970.out BK964.out (by decide)) (fun _ hk => hk.2) (.slice Ao5 t965.length co5)) (fun _ hk => hk.2) (.slice Ao7 t968.length co7)) (fun _ hk => hk.1), TB⟩
end
section
/-! ### spec_DrawGoodWeights: function 79 -/
def spec_DrawGoodWeights.f (k : Nat) (l0 : List Int) : Option (List Int) := (spec_l1Cur_weights.f k l0 0 0).bind fun bt144 => (some bt144.1)
theorem spec_DrawGoodWeights.calls (k : Nat) (A0 : Option Addr) (c0 : Nat) (l0 : List Int) (r : List Int) (w : World) (hr0 : Kd.C (Kd.int .u8) w A0 l0.length l0) (hc0 : l0.length ≤ c0) (h : spec_DrawGoodWeights.f k l0 = some r) :
  Calls Try.prog 79 #[.slice A0 l0.length c0] w fun e w' => ∃ v0_ : Value, e = .returned (v0_) ∧ Kd.R (Kd.int .i64) 3 w' w.heap.size (fun _ => True) v0_ r ∧ Below w.heap.size w w' := by
 have hu93 := Try.underlying93
 have HR0 := Aside0.mk hr0
 have HC0 := Aside0.mk hc0
 clear hr0 hc0
 have HB := Aside0.mk (Below.refl w.heap.size w)
 have H : ((spec_l1Cur_weights.f k l0 0 0).bind fun bt144 => (some bt144.1)) = some r := h
 clear h
 obtain ⟨⟨t144, t147, t148⟩, A2, H⟩ := bnd H
 try dsimp only at H
 obtain rfl := Option.some.inj H
 go_enter Try.func79, Try.ntmps79
 go_wp2_with (first | ((with_reducible refine gate_dst (N := 6) rfl ?_); refine bE 6 #[.slice A0 l0.length c0, .int .i64 0, .int .u64 0] 93 ?_; intro gb143 hg w3 hbox hb; have HI143 := Aside0.mk ((⟨_, _, hbox, by rw [hg]; exact (below_size TB), HR0.out⟩ : IsSPl1Cur w w3 gb143 l0 0 0)); replace HB := BS hb; clear hb hbox hg) | ((with_reducible refine gate_callee (f := 76) rfl ?_); refine goesL_ (some 8) rfl rfl Try.func76 KR rfl #[.pointer (some ⟨gb143, 0, none⟩)] rfl TA ?_; (with_reducible refine (spec_l1Cur_weights.calls k gb143 l0 0 0 t144 t147 t148 w _ ?side1 ?side2 A2.out).mono ?_); (case side1 => repeat (first | (with_reducible first | exact HI143.out | apply IsSPl1Cur.alloc | apply IsSPl1Cur.drewN | apply IsSPl1Cur.drew | apply IsSPl1Cur.set_1 | apply IsSPl1Cur.set_2) | exact HI143.out)); (case side2 => repeat (first | (with_reducible first | exact HB.out | apply below_alloc | apply pw_below_drewN | apply below_drew1 | refine below_set ?_ (IsSPl1Cur.ge HI143.out)) | exact HB.out)); rintro e w4 ⟨v145, rfl, ho0, hi, hb, hk⟩; refine ⟨_, rfl, ?_⟩; have HO146 := Aside0.mk (Kd.R_lower ho0 (below_size (by repeat (first | (with_reducible first | exact HB.out | apply below_alloc | apply pw_below_drewN | apply below_drew1 | refine below_set ?_ (IsSPl1Cur.ge HI143.out)) | exact HB.out)))); replace HB := Aside0.mk (hb); replace HI143 := Aside0.mk (hi); clear hb hk hi; (try clear ho0)))
 go_ret
 exact ⟨_, TE, (RW HO146).out, by repeat (first | (with_reducible first | exact HB.out | apply below_alloc | apply pw_below_drewN | apply below_drew1 | refine below_set ?_ (IsSPl1Cur.ge HI143.out)) | exact HB.out)⟩
end
section
/-! ### spec_DrawNewTurn: function 50 -/
def spec_DrawNewTurn.f (k : Nat) (l0 : List Int) : Option (List Int) := (spec_DrawGoodWeights.f k l0).bind fun t971 => (some t971)
theorem spec_DrawNewTurn.calls (k : Nat) (A0 : Option Addr) (c0 : Nat) (l0 : List Int) (r : List Int) (w : World) (hr0 : Kd.C (Kd.int .u8) w A0 l0.length l0) (hc0 : l0.length ≤ c0) (h : spec_DrawNewTurn.f k l0 = some r) :
  Calls Try.prog 50 #[.slice A0 l0.length c0] w fun e w' => ∃ v0_ : Value, e = .returned (v0_) ∧ Kd.R (Kd.int .i64) 3 w' w.heap.size (fun _ => True) v0_ r ∧ Below w.heap.size w w' := by
 have HR0 := Aside0.mk hr0
 have HC0 := Aside0.mk hc0
 clear hr0 hc0
 have HB := Aside0.mk (Below.refl w.heap.size w)
 have H : ((spec_DrawGoodWeights.f k l0).bind fun t971 => (some t971)) = some r := h
 clear h
 obtain ⟨t971, A2, H⟩ := bnd H
 obtain rfl := Option.some.inj H
 go_enter Try.func50, Try.ntmps50
 go_wp2_with (first | ((with_reducible refine gate_callee (f := 79) rfl ?_); refine goesL_ (some 4) rfl rfl Try.func79 KR rfl #[.slice A0 l0.length c0] rfl TA ?_; (with_reducible refine (spec_DrawGoodWeights.calls k _ _ l0 t971 _ ?side1 ?side2 A2.out).mono ?_); (case side1 => exact CW (HR0.out)); (case side2 => exact HC0.out); rintro e w3 ⟨v972, rfl, ho0, hb⟩; refine ⟨_, rfl, ?_⟩; have HO973 := RL ho0; replace HB := BS hb; clear hb; (try clear ho0)))
 go_ret
 exact ⟨_, TE, (RW HO973).out, TB⟩
end
section
/-! ### laws_FnTurns: function 12 -/
mutual
def laws_FnTurns.j0 : Nat → List Int → List Int → List Int → Bool → Bool → Option (Bool)
 | 0, _, _, _, _, _ => none
 | k + 1, x1, x5, x7, x8, x64 => if x64 = true then (some false) else (if x8 = true then (laws_FnTurns.l0 k x1 x5 x7 0 x5 (x5.length : Int) 0) else (laws_FnTurns.j5 k x1))
def laws_FnTurns.j5 : Nat → List Int → Option (Bool)
 | 0, _ => none
 | k + 1, x1 => (spec_DrawNextTurn.f k x1).bind fun bt1001 => ((impl_NextTurn.f k bt1001.1 bt1001.2).bind fun bt1008 => ((spec_NextTurn.f k bt1001.1 bt1001.2).bind fun bt1017 => (if (bt1008.2.2.2 != bt1017.2.2.2) = true then (laws_FnTurns.j6 k x1 bt1008.2.2.2 true bt1008.1 bt1008.2.1) else (if bt1008.2.2.1 = bt1017.2.2.1 then ((laws_sameInts.f k bt1008.2.1 bt1017.2.1).bind fun t1026 => (if t1026 = true then ((impl_GoodTurn.f k bt1001.1 bt1001.2).bind fun t1027 => ((spec_GoodTurn.f k bt1001.1 bt1001.2).bind fun t1028 => (laws_FnTurns.j6 k x1 bt1008.2.2.2 (t1027 != t1028) bt1008.1 bt1008.2.1))) else (laws_FnTurns.j6 k x1 bt1008.2.2.2 true bt1008.1 bt1008.2.1))) else (laws_FnTurns.j6 k x1 bt1008.2.2.2 true bt1008.1 bt1008.2.1)))))
def laws_FnTurns.j6 : Nat → List Int → Bool → Bool → List Int → List Int → Option (Bool)
 | 0, _, _, _, _, _ => none
 | k + 1, x1, x24, x158, x1017000, x1017001 => if x158 = true then (some false) else ((spec_DrawNewTurn.f k x1).bind fun t1029 => ((impl_NewTurn.f k t1029).bind fun bt1032 => ((spec_NewTurn.f k t1029).bind fun bt1040 => (if (bt1032.2.2 == bt1040.2.2) = true then ((laws_sameInts.f k bt1032.2.1 bt1040.2.1).bind fun t1048 => (if t1048 = true then (if x24 = true then ((impl_GoodTurn.f k x1017000 x1017001).bind fun t1049 => (some t1049)) else (some true)) else (some false))) else (some false)))))
def laws_FnTurns.l0 : Nat → List Int → List Int → List Int → Int → List Int → Int → Int → Option (Bool)
 | 0, _, _, _, _, _, _, _ => none
 | k + 1, x1, x5, x7, x11, x66, x67, x68 => if x68 < x67 then (if 0 ≤ x68 then (if x68 < (x66.length : Int) then (laws_FnTurns.l0 k x1 x5 x7 (wrap64 (x11 + (rd x66 x68))) x66 x67 (wrap64 (x68 + 1))) else (none)) else (none)) else ((impl_TurnsOf.f k x5 x11).bind fun bt988 => (if 0 ≤ (x5.length : Int) then (if ((x5.length : Int) : Int).toNat ≤ 35184372088832 then (laws_FnTurns.l1 k x1 x5 x7 x11 bt988.1 bt988.2 (List.replicate ((x5.length : Int) : Int).toNat 0) bt988.1 (bt988.1.length : Int) 0) else (none)) else (none)))
def laws_FnTurns.l1 : Nat → List Int → List Int → List Int → Int → List Int → Bool → List Int → List Int → Int → Int → Option (Bool)
 | 0, _, _, _, _, _, _, _, _, _, _ => none
 | k + 1, x1, x5, x7, x11, x14, x15, x16, x85, x86, x87 => if x87 < x86 then (if 0 ≤ x87 then (if x87 < (x85.length : Int) then (if 0 ≤ (rd x85 x87) then (if (rd x85 x87) < (x16.length : Int) then (laws_FnTurns.l1 k x1 x5 x7 x11 x14 x15 (x16.set ((rd x85 x87) : Int).toNat (wrap64 ((rd x16 (rd x85 x87)) + 1))) x85 x86 (wrap64 (x87 + 1))) else (none)) else (none)) else (none)) else (none)) else (if x15 = true then ((laws_sameInts.f k x16 x5).bind fun t998 => (laws_FnTurns.j3 k x1 x7 x11 x14 (!t998))) else (laws_FnTurns.j3 k x1 x7 x11 x14 true))
def laws_FnTurns.j3 : Nat → List Int → List Int → Int → List Int → Bool → Option (Bool)
 | 0, _, _, _, _, _ => none
 | k + 1, x1, x7, x11, x14, x105 => if x105 = true then (some false) else (laws_FnTurns.l2 k x1 x11 x14 x7 (x7.length : Int) 0)
def laws_FnTurns.l2 : Nat → List Int → Int → List Int → List Int → Int → Int → Option (Bool)
 | 0, _, _, _, _, _, _ => none
 | k + 1, x1, x11, x14, x106, x107, x108 => if x108 < x107 then (if 0 ≤ x108 then (if x108 < (x106.length : Int) then (if x11 = 0 then (none) else (if 0 ≤ (Int.tmod x108 x11) then (if (Int.tmod x108 x11) < (x14.length : Int) then (if (rd x106 x108) = (rd x14 (Int.tmod x108 x11)) then (laws_FnTurns.l2 k x1 x11 x14 x106 x107 (wrap64 (x108 + 1))) else (some false)) else (none)) else (none))) else (none)) else (none)) else (laws_FnTurns.j5 k x1)
end
def laws_FnTurns.f (k : Nat) (l0 : List Int) (l1 : List Int) : Option (Bool) := if (wrap64 ((l0.length : Int) + (l1.length : Int))) > 1048576 then (some true) else ((spec_DrawTurnsOf.f k l0).bind fun bt974 => ((impl_TurnsOf.f k bt974.1 bt974.2).bind fun bt978 => ((spec_TurnsOf.f k bt974.1 bt974.2).bind fun bt982 => (if (bt978.2 != bt982.2) = true then (laws_FnTurns.j0 k l1 bt974.1 bt978.1 bt978.2 true) else ((laws_sameInts.f k bt978.1 bt982.1).bind fun t986 => (laws_FnTurns.j0 k l1 bt974.1 bt978.1 bt978.2 (!t986)))))))
def laws_FnTurns.T33 : Bool × List (List Nat × List Nat) := (true, [([], []), ([], []), ([0, 1], [0, 1]), ([2], [2]), ([3], [3]), ([3], [3]), ([4, 5, 3], [3, 4, 5]), ([3, 6], [3, 6]), ([7, 3], [7]), ([8], [8]), ([9, 8], [8, 9]), ([8], [8]), ([11, 8], [8, 11]), ([10, 12, 8, 8], [8, 10, 12]), ([13, 8], [8, 13]), ([8, 14], [8, 14]), ([15, 13], [15]), ([16], [16]), ([17, 16, 16], [16, 17]), ([16], [16]), ([19, 18, 16], [16, 19]), ([18, 20, 16], [16, 18, 20]), ([16, 21], [16, 21])])
def laws_FnTurns.B33 : List Nat := [0, 0, 3, 7, 15, 15, 63, 127, 255, 511, 1023, 511, 2559, 8191, 16383, 32767, 65535, 131071, 262143, 131071, 1048575, 2097151, 4194303]
theorem laws_FnTurns.tab33 : rtab .any (opsOf Try.f12 33) = laws_FnTurns.T33 := by kernel_rfl
theorem laws_FnTurns.bits33 : waitsOk laws_FnTurns.T33.2 laws_FnTurns.B33 = true := by kernel_rfl
theorem laws_FnTurns.calls (k : Nat) (A0 : Option Addr) (c0 : Nat) (l0 : List Int) (A1 : Option Addr) (c1 : Nat) (l1 : List Int) (r : Bool) (w : World) (hr0 : Kd.C (Kd.int .u8) w A0 l0.length l0) (hc0 : l0.length ≤ c0) (hr1 : Kd.C (Kd.int .u8) w A1 l1.length l1) (hc1 : l1.length ≤ c1) (h : laws_FnTurns.f k l0 l1 = some r) :
  Calls Try.prog 12 #[.slice A0 l0.length c0, .slice A1 l1.length c1] w fun e w' => e = .returned (.bool r) ∧ Below w.heap.size w w' := by
 have hu40 := Try.underlying40
 have HR0 := Aside0.mk hr0
 have HC0 := Aside0.mk hc0
 clear hr0 hc0
 have HR1 := Aside0.mk hr1
 have HC1 := Aside0.mk hc1
 clear hr1 hc1
 have HB := Aside0.mk (Below.refl w.heap.size w)
 have H : (if (wrap64 ((l0.length : Int) + (l1.length : Int))) > 1048576 then (some true) else ((spec_DrawTurnsOf.f k l0).bind fun bt974 => ((impl_TurnsOf.f k bt974.1 bt974.2).bind fun bt978 => ((spec_TurnsOf.f k bt974.1 bt974.2).bind fun bt982 => (if (bt978.2 != bt982.2) = true then (laws_FnTurns.j0 k l1 bt974.1 bt978.1 bt978.2 true) else ((laws_sameInts.f k bt978.1 bt982.1).bind fun t986 => (laws_FnTurns.j0 k l1 bt974.1 bt978.1 bt978.2 (!t986)))))))) = some r := h
 clear h
 by_cases c3 : (wrap64 ((l0.length : Int) + (l1.length : Int))) > 1048576
 ·rw [if_pos c3] at H
  have c3b0 : decide (1048576 < (wrap64 ((l0.length : Int) + (l1.length : Int)))) = true := decide_eq_true c3
  clear c3
  obtain rfl := Option.some.inj H
  go_enter Try.func12, Try.ntmps12
  go_wp2
  go_ret
  exact ⟨TE, TB⟩
 ·rw [if_neg c3] at H
  have c3b0 : decide (1048576 < (wrap64 ((l0.length : Int) + (l1.length : Int)))) = false := decide_eq_false c3
  clear c3
  obtain ⟨⟨t974, t975⟩, A4, H⟩ := bnd H
  try dsimp only at H
  obtain ⟨⟨t978, t979⟩, A5, H⟩ := bnd H
  try dsimp only at H
  obtain ⟨⟨t982, t983⟩, A6, H⟩ := bnd H
  try dsimp only at H
  have HC7 := Aside0.mk H
  clear H
  go_enter Try.func12, Try.ntmps12
  go_upto_region 6 with (first | ((with_reducible refine gate_callee (f := 47) rfl ?_); refine goesL_ (some 41) rfl rfl Try.func47 KR rfl #[.slice A0 l0.length c0] rfl TA ?_; (with_reducible refine (spec_DrawTurnsOf.calls k _ _ l0 t974 t975 _ ?side1 ?side2 A4.out).mono ?_); (case side1 => exact CW (HR0.out)); (case side2 => exact HC0.out); rintro e w8 ⟨v976, rfl, ho0, hb⟩; refine ⟨_, rfl, ?_⟩; have HO977 := RL ho0; replace HB := BS hb; clear hb; (try clear ho0); obtain ⟨Ao9, co9, eo9⟩ := Kd.R_slice HO977.out; subst eo9) | ((with_reducible refine gate_callee (f := 41) rfl ?_); refine goesL_ (some 47) rfl rfl Try.func41 KR rfl #[.slice Ao9 t974.length co9, .int .i64 t975] rfl TA ?_; (with_reducible refine (impl_TurnsOf.calls k _ _ t974 t975 t978 t979 _ ?side1 ?side2 A5.out).mono ?_); (case side1 => exact CW ((Kd.R_reads' HO977.out).2.2)); (case side2 => exact RI HO977); rintro e w10 ⟨v980, rfl, ho0, hb⟩; refine ⟨_, rfl, ?_⟩; have HO981 := RL (NW ho0 HO977); replace HO977 := EL HO977 ho0 hb; replace HB := BS hb; clear hb; (try clear ho0)) | ((with_reducible refine gate_callee (f := 40) rfl ?_); refine goesL_ (some 53) rfl rfl Try.func40 KR rfl #[.slice Ao9 t974.length co9, .int .i64 t975] rfl TA ?_; (with_reducible refine (spec_TurnsOf.calls k _ _ t974 t975 t982 t983 _ ?side1 ?side2 A6.out).mono ?_); (case side1 => exact CW ((Kd.R_reads' HO977.out).2.2)); (case side2 => exact RI HO977); rintro e w11 ⟨v984, rfl, ho0, hb⟩; refine ⟨_, rfl, ?_⟩; have HO985 := RL (NW (NW ho0 HO977) HO981); replace HO977 := EL HO977 ho0 hb; replace HO981 := EL HO981 ho0 hb; replace HB := BS hb; clear hb; (try clear ho0)))
  (try simp only [Act.put, List.setIfInBounds_toArray, List.set_cons_zero, List.set_cons_succ])
  go_cut [64] (fun v64 wc => ∃ (kq : Nat) (x64_6 : Bool), v64 = .bool x64_6 ∧ Aside0 (laws_FnTurns.j0 kq l1 t974 t978 t979 x64_6 = some r) ∧ Aside0 (kq ≤ k) ∧ Aside0 (Kd.R (Kd.int .i64) 3 wc w.heap.size (fun k_ => some k_ ≠ (v980 : Value).ownBlock) (.slice Ao9 t974.length co9) t974) ∧ Aside0 (Kd.R (Kd.int .i64) 3 wc w.heap.size (fun k_ => some k_ ≠ ((.slice Ao9 t974.length co9) : Value).ownBlock) v980 t978) ∧ Aside0 (Below w.heap.size w wc))
  case first =>
   as_aux_lemma =>
    have H := HC7.out
    clear HC7
    by_cases c12 : (t979 != t983) = true
    ·rw [if_pos c12] at H
     have c12b0 : (t979 != t983) = true := c12
     (try (have c12b1 : decide (t979 = t983) = false := by simpa using c12))
     (try (have c12b2 : (t979 == t983) = false := by simpa using c12))
     (try (have c12b3 : ¬ (t979 = t983) := by simpa using c12))
     clear c12
     (first | rw [c12b0] | (simp only [i64_w, i32_w]; rw [c12b0]) | skip)
     have H' := Aside0.mk H
     clear H
     go_wp2
     go_meet
     case rel => exact ⟨_, (true), TF, H', ⟨by first | omega | exact Nat.le_refl _⟩, MO HO977, MO HO981, ⟨TB⟩⟩
    ·rw [if_neg c12] at H
     have c12b0 : (t979 != t983) = false := by simpa using c12
     (try (have c12b1 : decide (t979 = t983) = true := by simpa using c12))
     (try (have c12b2 : (t979 == t983) = true := by simpa using c12))
     clear c12
     (first | rw [c12b0] | (simp only [i64_w, i32_w]; rw [c12b0]) | skip)
     obtain ⟨t986, A13, H⟩ := bnd H
     have H' := Aside0.mk H
     clear H
     obtain ⟨Ao14, co14, eo14⟩ := Kd.R_slice HO981.out
     subst eo14
     obtain ⟨Ao15, co15, eo15⟩ := Kd.R_slice HO985.out
     subst eo15
     go_wp2_with (first | (go_at_call 48; (with_reducible refine (laws_sameInts.calls k _ _ t978 _ _ t982 t986 _ ?side1 ?side2 ?side3 ?side4 A13.out).mono ?_); (case side1 => exact CW ((Kd.R_reads' HO981.out).2.2)); (case side2 => exact RI HO981); (case side3 => exact CW ((Kd.R_reads' HO985.out).2.2)); (case side4 => exact RI HO985); rintro e w' ⟨rfl, ⟨nd, rfl⟩⟩))
     go_meet
     case rel => exact ⟨_, (!t986), TF, H', ⟨by first | omega | exact Nat.le_refl _⟩, MO HO977, MO HO981, ⟨TB⟩⟩
  case rest =>
   as_aux_lemma =>
    clear HC7
    obtain ⟨kq, x64_6, rfl, HA, HJ6, HO_5, HO_7, HB⟩ := hcut
    cases kq with
    | zero => exact absurd HA.out (by simp [laws_FnTurns.j0])
    | succ kj6 =>
     have H := HA.out
     clear HA
     simp only [laws_FnTurns.j0] at H
     by_cases c16 : x64_6 = true
     ·subst c16
      replace H := ift H
      obtain rfl := Option.some.inj H
      go_wp2
      go_ret
      exact ⟨TE, TB⟩
     ·replace c16 := Bool.eq_false_iff.mpr c16
      subst c16
      replace H := iff' H
      have HC17 := Aside0.mk H
      clear H
      go_upto_if 65 with (fail)
      go_cut [] (fun wc => ∃ (kq : Nat), Aside0 (laws_FnTurns.j5 kq l1 = some r) ∧ Aside0 (kq ≤ kj6) ∧ Aside0 (Below w.heap.size w wc))
      case first =>
       as_aux_lemma =>
        have H := HC17.out
        clear HC17
        by_cases c18 : t979 = true
        ·subst c18
         replace H := ift H
         have H' := Aside0.mk H
         clear H
         go_wp2
         go_loopg [11, 68] kj6 (fun kq v11 v68 w' => ∃ (x11_2 : Int) (x68_2 : Int), v11 = .int .i64 x11_2 ∧ v68 = .int .i64 x68_2 ∧ Aside0 (laws_FnTurns.l0 kq l1 t974 t978 x11_2 t974 (t974.length : Int) x68_2 = some r) ∧ Aside0 (kq ≤ kj6) ∧ Aside0 (Kd.R (Kd.int .i64) 3 w' w.heap.size (fun k_ => some k_ ≠ (v980 : Value).ownBlock) (.slice Ao9 t974.length co9) t974) ∧ Aside0 (Kd.R (Kd.int .i64) 3 w' w.heap.size (fun k_ => some k_ ≠ ((.slice Ao9 t974.length co9) : Value).ownBlock ∧ some k_ ≠ ((.slice Ao9 t974.length co9) : Value).ownBlock) v980 t978) ∧ Aside0 (Kd.R (Kd.int .i64) 3 w' w.heap.size (fun k_ => some k_ ≠ (v980 : Value).ownBlock) (.slice Ao9 t974.length co9) t974) ∧ Aside0 (Below w.heap.size w w'))
         case atStart => exact ⟨(0), (0), TF, TF, H', ⟨Nat.le_refl _⟩, RW HO_5, MO HO_7, RW HO_5, ⟨TB⟩⟩
         case round =>
          as_aux_lemma =>
           clear H'
           obtain ⟨x11_2, x68_2, rfl, rfl, HA, HK2, HO_5, HO_7, HO_66, HB⟩ := hrel
           cases gk with
           | zero => exact absurd HA.out (by simp [laws_FnTurns.l0])
           | succ k2 =>
            have H := HA.out
            clear HA
            simp only [laws_FnTurns.l0] at H
            by_cases c19 : x68_2 < (t974.length : Int)
            ·rw [if_pos c19] at H
             have c19b0 : decide (x68_2 < (t974.length : Int)) = true := decide_eq_true c19
             clear c19
             (first | rw [c19b0] | (simp only [i64_w, i32_w]; rw [c19b0]) | skip)
             obtain ⟨c20, H⟩ := ifn H
             have c20b0 : decide (0 ≤ x68_2) = true := decide_eq_true c20
             clear c20
             obtain ⟨c21, H⟩ := ifn H
             have c21b0 : decide (x68_2 < (t974.length : Int)) = true := decide_eq_true c21
             clear c21
             have H' := Aside0.mk H
             clear H
             have p987 : 0 ≤ (x68_2 : Int) := TD
             have q987 : x68_2 < (t974.length : Int) := TD
             obtain ⟨ad987, e987, hx987_0⟩ := Kd.at_int (Kd.R_reads' HO_66.out).2.2 x68_2 p987 q987
             cases e987
             replace p987 := eq_true p987
             replace q987 := eq_true q987
             go_wp2
             go_roundg k2
             case measure => have := HJ6.out; have := HK2.out; omega
             case rel => exact ⟨(wrap64 (x11_2 + (rd t974 x68_2))), (wrap64 (x68_2 + 1)), TF, TF, H', ⟨by have := HJ6.out; have := HK2.out; omega⟩, RW HO_5, RW HO_7, RW HO_66, ⟨TB⟩⟩
            ·rw [if_neg c19] at H
             have c19b0 : decide (x68_2 < (t974.length : Int)) = false := decide_eq_false c19
             clear c19
             (first | rw [c19b0] | (simp only [i64_w, i32_w]; rw [c19b0]) | skip)
             obtain ⟨⟨t988, t989⟩, A22, H⟩ := bnd H
             try dsimp only at H
             obtain ⟨c23, H⟩ := ifn H
             have c23b0 := eq_true c23
             have c23b1 : decide (0 ≤ (t974.length : Int)) = true := decide_eq_true c23
             clear c23
             obtain ⟨c24, H⟩ := ifn H
             have c24b0 := eq_true c24
             have c24b1 : decide (((t974.length : Int) : Int).toNat ≤ 35184372088832) = true := decide_eq_true c24
             clear c24
             obtain ⟨y992, hy992⟩ : ∃ y_ : List Int, y_ = (List.replicate ((t974.length : Int) : Int).toNat 0) := ⟨_, rfl⟩
             replace H : (laws_FnTurns.l1 k2 l1 t974 t978 x11_2 t988 t989 y992 t988 (t988.length : Int) 0) = some r := by first | (rw [hy992]; with_reducible exact H) | (have H2_ := (Option.bind_some _ _).symm.trans H; rw [hy992]; with_reducible exact H2_) | (have H2_ := (Option.bind_some _ _).symm.trans H; with_reducible exact H2_) | with_reducible exact H | (rw [hy992]; exact H) | exact H
             have Ny992 := Aside0.mk hy992
             clear hy992
             have H' := Aside0.mk H
             clear H
             go_wp2_with (first | ((with_reducible refine gate_callee (f := 41) rfl ?_); refine goesL_ (some 79) rfl rfl Try.func41 KR rfl #[.slice Ao9 t974.length co9, .int .i64 x11_2] rfl TA ?_; (with_reducible refine (impl_TurnsOf.calls k2 _ _ t974 x11_2 t988 t989 _ ?side1 ?side2 A22.out).mono ?_); (case side1 => exact CW ((Kd.R_reads' HO_5.out).2.2)); (case side2 => exact RI HO_5); rintro e w25 ⟨v990, rfl, ho0, hb⟩; refine ⟨_, rfl, ?_⟩; have HO991 := RL (NW (NW (NW ho0 HO_5) HO_7) HO_66); replace HO_5 := EL HO_5 ho0 hb; replace HO_7 := EL HO_7 ho0 hb; replace HO_66 := EL HO_66 ho0 hb; replace HB := BS hb; clear hb; (try clear ho0)) | ((with_reducible refine gate_dst (N := 84) rfl ?_); refine Kd.R_make (Kd.int .i64) _ 3 rfl (N := 84) rfl 22 _ _ rfl (t974.length : Int) rfl rfl Try.underlying22 (.int .i64 0) 8 info3 rfl (by decide) (by omega) 0 (ok := fun _ => True) (okp := fun _ => True) rfl (fun _ hk => hk) trivial TD (Nat.le_trans (Nat.mul_le_mul_right _ (TD : (t974.length : Int).toNat ≤ 35184372088832)) (by omega)) (Below.refl _ _) (Nat.le_refl _) ?_; intro v993 w26 ho27 hb hg_ hnew_; clear hg_ hnew_; (first | rw [← Ny992.out] at ho27 | (simp only [Int.reduceToNat] at ho27; rw [← Ny992.out] at ho27)); have HO994 := RL (NW (NW (NW (NW ho27 HO_5) HO_7) HO_66) HO991); replace HO_5 := EL HO_5 ho27 hb; replace HO_7 := EL HO_7 ho27 hb; replace HO_66 := EL HO_66 ho27 hb; replace HO991 := EL HO991 ho27 hb; replace HB := BS hb; clear hb ho27; obtain ⟨Ao28, co28, eo28⟩ := Kd.R_slice HO991.out; subst eo28))
             go_loopg [87] k2 (fun kq v87 w' => ∃ (x16_3 : List Int) (x87_3 : Int), v87 = .int .i64 x87_3 ∧ Aside0 (laws_FnTurns.l1 kq l1 t974 t978 x11_2 t988 t989 x16_3 t988 (t988.length : Int) x87_3 = some r) ∧ Aside0 (kq ≤ k2) ∧ Aside0 (Kd.R (Kd.int .i64) 3 w' w.heap.size (fun k_ => some k_ ≠ (v980 : Value).ownBlock ∧ some k_ ≠ ((.slice Ao28 t988.length co28) : Value).ownBlock ∧ some k_ ≠ (v993 : Value).ownBlock ∧ some k_ ≠ ((.slice Ao28 t988.length co28) : Value).ownBlock) (.slice Ao9 t974.length co9) t974) ∧ Aside0 (Kd.R (Kd.int .i64) 3 w' w.heap.size (fun k_ => some k_ ≠ ((.slice Ao9 t974.length co9) : Value).ownBlock ∧ some k_ ≠ ((.slice Ao28 t988.length co28) : Value).ownBlock ∧ some k_ ≠ (v993 : Value).ownBlock ∧ some k_ ≠ ((.slice Ao28 t988.length co28) : Value).ownBlock) v980 t978) ∧ Aside0 (Kd.R (Kd.int .i64) 3 w' w.heap.size (fun k_ => some k_ ≠ ((.slice Ao9 t974.length co9) : Value).ownBlock ∧ some k_ ≠ (v980 : Value).ownBlock ∧ some k_ ≠ (v993 : Value).ownBlock) (.slice Ao28 t988.length co28) t988) ∧ Aside0 (Kd.R (Kd.int .i64) 3 w' w.heap.size (fun k_ => some k_ ≠ ((.slice Ao9 t974.length co9) : Value).ownBlock ∧ some k_ ≠ (v980 : Value).ownBlock ∧ some k_ ≠ ((.slice Ao28 t988.length co28) : Value).ownBlock ∧ some k_ ≠ ((.slice Ao28 t988.length co28) : Value).ownBlock) v993 x16_3) ∧ Aside0 (Kd.R (Kd.int .i64) 3 w' w.heap.size (fun k_ => some k_ ≠ ((.slice Ao9 t974.length co9) : Value).ownBlock ∧ some k_ ≠ (v980 : Value).ownBlock ∧ some k_ ≠ (v993 : Value).ownBlock) (.slice Ao28 t988.length co28) t988) ∧ Aside0 (Below w.heap.size w w'))
             case atStart => exact ⟨(y992), (0), TF, H', ⟨Nat.le_refl _⟩, MO HO_5, MO HO_7, MO HO991, MO HO994, MO HO991, ⟨TB⟩⟩
             case round =>
              as_aux_lemma =>
               clear H'
               obtain ⟨x16_3, x87_3, rfl, HA, HK3, HO_5, HO_7, HO_14, HO_16, HO_85, HB⟩ := hrel
               cases gk with
               | zero => exact absurd HA.out (by simp [laws_FnTurns.l1])
               | succ k3 =>
                have H := HA.out
                clear HA
                simp only [laws_FnTurns.l1] at H
                by_cases c29 : x87_3 < (t988.length : Int)
                ·rw [if_pos c29] at H
                 have c29b0 : decide (x87_3 < (t988.length : Int)) = true := decide_eq_true c29
                 clear c29
                 obtain ⟨c30, H⟩ := ifn H
                 have c30b0 : decide (0 ≤ x87_3) = true := decide_eq_true c30
                 clear c30
                 obtain ⟨c31, H⟩ := ifn H
                 have c31b0 : decide (x87_3 < (t988.length : Int)) = true := decide_eq_true c31
                 clear c31
                 obtain ⟨c32, H⟩ := ifn H
                 have c32b0 : decide (0 ≤ (rd t988 x87_3)) = true := decide_eq_true c32
                 clear c32
                 obtain ⟨c33, H⟩ := ifn H
                 have c33b0 : decide ((rd t988 x87_3) < (x16_3.length : Int)) = true := decide_eq_true c33
                 clear c33
                 obtain ⟨y997, hy997⟩ : ∃ y_ : List Int, y_ = (x16_3.set ((rd t988 x87_3) : Int).toNat (wrap64 ((rd x16_3 (rd t988 x87_3)) + 1))) := ⟨_, rfl⟩
                 replace H : (laws_FnTurns.l1 k3 l1 t974 t978 x11_2 t988 t989 y997 t988 (t988.length : Int) (wrap64 (x87_3 + 1))) = some r := by first | (rw [hy997]; with_reducible exact H) | (have H2_ := (Option.bind_some _ _).symm.trans H; rw [hy997]; with_reducible exact H2_) | (have H2_ := (Option.bind_some _ _).symm.trans H; with_reducible exact H2_) | with_reducible exact H | (rw [hy997]; exact H) | exact H
                 have Ny997 := Aside0.mk hy997
                 clear hy997
                 have H' := Aside0.mk H
                 clear H
                 have p995 : 0 ≤ (x87_3 : Int) := TD
                 have q995 : x87_3 < (t988.length : Int) := TD
                 obtain ⟨ad995, e995, hx995_0⟩ := Kd.at_int (Kd.R_reads' HO_85.out).2.2 x87_3 p995 q995
                 cases e995
                 replace p995 := eq_true p995
                 replace q995 := eq_true q995
                 obtain ⟨Ao35, co35, eo35⟩ := Kd.R_slice HO_16.out
                 subst eo35
                 have p996 : 0 ≤ ((rd t988 x87_3) : Int) := TD
                 have q996 : (rd t988 x87_3) < (x16_3.length : Int) := TD
                 obtain ⟨ad996, e996, hx996_0⟩ := Kd.at_int (Kd.R_reads' HO_16.out).2.2 (rd t988 x87_3) p996 q996
                 cases e996
                 replace p996 := eq_true p996
                 replace q996 := eq_true q996
                 have p34 : 0 ≤ ((rd t988 x87_3) : Int) := TD
                 have q34 : ((rd t988 x87_3) : Int) < ((x16_3.length : Int) : Int) := TD
                 obtain ⟨go34, co34, eo34, gb34, gl34, cl34, HG34⟩ := Kd.R_form HO_16.out (by omega)
                 (first | cases eo34 | (injection eo34 with ea_ en_ ec_; (first | subst ea_ | (injection ea_ with ea_; subst ea_)); subst ec_; clear en_))
                 have GB34 := Aside0.mk gb34
                 have GG34 := Aside0.mk HG34
                 clear gb34 gl34 HG34
                 (first | simp only [add_plain] at hx996_0 | skip)
                 obtain ⟨hx34_0, hf34_0⟩ := Kd.R_celln 0 HO_16.out ((rd t988 x87_3) : Int) p34 q34
                 replace p34 := eq_true p34
                 replace q34 := eq_true q34
                 have HP36 := Kd.R_putg HO_16.out ((rd t988 x87_3) : Int) (wrap64 ((rd x16_3 (rd t988 x87_3)) + 1))
                 go_wp2_with (first | ((with_reducible refine gate_store (t := 3) (p := 96) rfl ?_); refine store_event (t := 3) (p := 96) (v := ?vo_w37) (w1 := (wr.setCell ⟨go34, ((rd t988 x87_3) : Int).toNat, none⟩ (.int .i64 (wrap64 ((rd x16_3 (rd t988 x87_3)) + 1))))) ?hg ?ho ?hn ?hr ?_; (case ho => rfl); (case hg => rfl); (case hn => rfl); (case hr => first | (go_simp; done) | (go_simp; rfl)); intro w37 hw; have hg : wr.grownBy w37 (some go34) := (by rw [hw]; exact HP36.2); have hp_ : Kd.R (Kd.int .i64) 3 w37 w.heap.size (fun k_ => some k_ ≠ (.slice Ao9 t974.length co9 : Value).ownBlock ∧ some k_ ≠ (v980 : Value).ownBlock ∧ some k_ ≠ (.slice (some ad995) t988.length co28 : Value).ownBlock ∧ some k_ ≠ (.slice (some ad995) t988.length co28 : Value).ownBlock) (.slice (some ⟨go34, 0, none⟩) x16_3.length co35) y997 := (by rw [hw, Ny997.out]; exact HP36.1); clear HP36; replace HO_5 := Aside0.mk (Kd.R_after (v := (.slice (some ⟨go34, 0, none⟩) x16_3.length co35)) (v1 := (.slice (some ⟨go34, 0, none⟩) x16_3.length co35)) (ok := (fun k_ => some k_ ≠ (v980 : Value).ownBlock ∧ some k_ ≠ (.slice (some ad995) t988.length co28 : Value).ownBlock ∧ some k_ ≠ (.slice (some ad995) t988.length co28 : Value).ownBlock)) (MO HO_5).out hg (.inl rfl)); replace HO_7 := Aside0.mk (Kd.R_after (v := (.slice (some ⟨go34, 0, none⟩) x16_3.length co35)) (v1 := (.slice (some ⟨go34, 0, none⟩) x16_3.length co35)) (ok := (fun k_ => some k_ ≠ (.slice Ao9 t974.length co9 : Value).ownBlock ∧ some k_ ≠ (.slice (some ad995) t988.length co28 : Value).ownBlock ∧ some k_ ≠ (.slice (some ad995) t988.length co28 : Value).ownBlock)) (MO HO_7).out hg (.inl rfl)); replace HO_14 := Aside0.mk (Kd.R_after (v := (.slice (some ⟨go34, 0, none⟩) x16_3.length co35)) (v1 := (.slice (some ⟨go34, 0, none⟩) x16_3.length co35)) (ok := (fun k_ => some k_ ≠ (.slice Ao9 t974.length co9 : Value).ownBlock ∧ some k_ ≠ (v980 : Value).ownBlock)) (MO HO_14).out hg (.inl rfl)); replace HO_16 := Aside0.mk (hp_); replace HO_85 := Aside0.mk (Kd.R_after (v := (.slice (some ⟨go34, 0, none⟩) x16_3.length co35)) (v1 := (.slice (some ⟨go34, 0, none⟩) x16_3.length co35)) (ok := (fun k_ => some k_ ≠ (.slice Ao9 t974.length co9 : Value).ownBlock ∧ some k_ ≠ (v980 : Value).ownBlock)) (MO HO_85).out hg (.inl rfl)); replace HB := Aside0.mk ((by rw [hw]; exact below_set (HB.out) GB34.out : Below w.heap.size w w37)); clear hg hw hp_))
                 go_roundg k3
                 case measure => have := HJ6.out; have := HK2.out; have := HK3.out; omega
                 case rel => exact ⟨(y997), (wrap64 (x87_3 + 1)), TF, H', ⟨by have := HJ6.out; have := HK2.out; have := HK3.out; omega⟩, MO HO_5, MO HO_7, MO HO_14, RW HO_16, MO HO_85, ⟨TB⟩⟩
                ·rw [if_neg c29] at H
                 have c29b0 : decide (x87_3 < (t988.length : Int)) = false := decide_eq_false c29
                 clear c29
                 have HC38 := Aside0.mk H
                 clear H
                 go_upto_region 22 with (fail)
                 go_cut [105] (fun v105 wc => ∃ (kq : Nat) (x105_37 : Bool), v105 = .bool x105_37 ∧ Aside0 (laws_FnTurns.j3 kq l1 t978 x11_2 t988 x105_37 = some r) ∧ Aside0 (kq ≤ k3) ∧ Aside0 (Kd.R (Kd.int .i64) 3 wc w.heap.size (fun k_ => some k_ ≠ ((.slice Ao28 t988.length co28) : Value).ownBlock) v980 t978) ∧ Aside0 (Kd.R (Kd.int .i64) 3 wc w.heap.size (fun k_ => some k_ ≠ (v980 : Value).ownBlock) (.slice Ao28 t988.length co28) t988) ∧ Aside0 (Below w.heap.size w wc))
                 case first =>
                  as_aux_lemma =>
                   have H := HC38.out
                   clear HC38
                   by_cases c39 : t989 = true
                   ·subst c39
                    replace H := ift H
                    obtain ⟨t998, A40, H⟩ := bnd H
                    have H' := Aside0.mk H
                    clear H
                    obtain ⟨Ao41, co41, eo41⟩ := Kd.R_slice HO_16.out
                    subst eo41
                    go_wp2_with (first | (go_at_call 48; (with_reducible refine (laws_sameInts.calls k3 _ _ x16_3 _ _ t974 t998 _ ?side1 ?side2 ?side3 ?side4 A40.out).mono ?_); (case side1 => exact CW ((Kd.R_reads' HO_16.out).2.2)); (case side2 => exact RI HO_16); (case side3 => exact CW ((Kd.R_reads' HO_5.out).2.2)); (case side4 => exact RI HO_5); rintro e w' ⟨rfl, ⟨nd, rfl⟩⟩))
                    go_meet
                    case rel => exact ⟨_, (!t998), TF, H', ⟨by have := HJ6.out; have := HK2.out; have := HK3.out; first | omega | exact Nat.le_refl _⟩, MO HO_7, MO HO_14, ⟨TB⟩⟩
                   ·replace c39 := Bool.eq_false_iff.mpr c39
                    subst c39
                    replace H := iff' H
                    have H' := Aside0.mk H
                    clear H
                    go_wp2
                    go_meet
                    case rel => exact ⟨_, (true), TF, H', ⟨by have := HJ6.out; have := HK2.out; have := HK3.out; first | omega | exact Nat.le_refl _⟩, MO HO_7, MO HO_14, ⟨TB⟩⟩
                 case rest =>
                  as_aux_lemma =>
                   clear HC38
                   obtain ⟨kq, x105_37, rfl, HA, HJ37, HO_7, HO_14, HB⟩ := hcut
                   cases kq with
                   | zero => exact absurd HA.out (by simp [laws_FnTurns.j3])
                   | succ kj37 =>
                    have H := HA.out
                    clear HA
                    simp only [laws_FnTurns.j3] at H
                    by_cases c42 : x105_37 = true
                    ·subst c42
                     replace H := ift H
                     obtain rfl := Option.some.inj H
                     go_wp2
                     go_ret
                     exact ⟨TE, TB⟩
                    ·replace c42 := Bool.eq_false_iff.mpr c42
                     subst c42
                     replace H := iff' H
                     have H' := Aside0.mk H
                     clear H
                     obtain ⟨Ao43, co43, eo43⟩ := Kd.R_slice HO_7.out
                     subst eo43
                     go_wp2
                     go_loopg [108] kj37 (fun kq v108 w' => ∃ (x108_5 : Int), v108 = .int .i64 x108_5 ∧ Aside0 (laws_FnTurns.l2 kq l1 x11_2 t988 t978 (t978.length : Int) x108_5 = some r) ∧ Aside0 (kq ≤ kj37) ∧ Aside0 (Kd.R (Kd.int .i64) 3 w' w.heap.size (fun k_ => some k_ ≠ ((.slice Ao43 t978.length co43) : Value).ownBlock) (.slice Ao28 t988.length co28) t988) ∧ Aside0 (Kd.R (Kd.int .i64) 3 w' w.heap.size (fun k_ => some k_ ≠ ((.slice Ao28 t988.length co28) : Value).ownBlock) (.slice Ao43 t978.length co43) t978) ∧ Aside0 (Below w.heap.size w w'))
                     case atStart => exact ⟨(0), TF, H', ⟨Nat.le_refl _⟩, RW HO_14, RW HO_7, ⟨TB⟩⟩
                     case round =>
                      as_aux_lemma =>
                       clear H'
                       obtain ⟨x108_5, rfl, HA, HK5, HO_14, HO_106, HB⟩ := hrel
                       cases gk with
                       | zero => exact absurd HA.out (by simp [laws_FnTurns.l2])
                       | succ k5 =>
                        have H := HA.out
                        clear HA
                        simp only [laws_FnTurns.l2] at H
                        by_cases c44 : x108_5 < (t978.length : Int)
                        ·rw [if_pos c44] at H
                         have c44b0 : decide (x108_5 < (t978.length : Int)) = true := decide_eq_true c44
                         clear c44
                         obtain ⟨c45, H⟩ := ifn H
                         have c45b0 : decide (0 ≤ x108_5) = true := decide_eq_true c45
                         clear c45
                         obtain ⟨c46, H⟩ := ifn H
                         have c46b0 : decide (x108_5 < (t978.length : Int)) = true := decide_eq_true c46
                         clear c46
                         obtain ⟨c47, H⟩ := ifm H
                         have c47b0 : (x11_2 == 0) = false := beq_eq_false_iff_ne.mpr c47
                         have c47b1 : (x11_2 != 0) = true := bne_iff_ne.mpr c47
                         obtain ⟨ji48, hji48⟩ : ∃ j_ : Int, (Int.tmod x108_5 x11_2) = j_ := ⟨_, rfl⟩
                         replace H : (if 0 ≤ (ji48) then (if (ji48) < (t988.length : Int) then (if (rd t978 x108_5) = (rd t988 (ji48)) then (laws_FnTurns.l2 k5 l1 x11_2 t988 t978 (t978.length : Int) (wrap64 (x108_5 + 1))) else (some false)) else (none)) else (none)) = some r := by first | (rw [hji48] at H; exact H) | (simp only [hji48] at H ⊢; exact H)
                         obtain ⟨c49, H⟩ := ifn H
                         have c49b0 : decide (0 ≤ (ji48)) = true := decide_eq_true c49
                         clear c49
                         obtain ⟨c50, H⟩ := ifn H
                         have c50b0 : decide ((ji48) < (t988.length : Int)) = true := decide_eq_true c50
                         clear c50
                         by_cases c51 : (rd t978 x108_5) = (rd t988 (ji48))
                         ·rw [if_pos c51] at H
                          have c51b0 : ((rd t978 x108_5) == (rd t988 (ji48))) = true := beq_iff_eq.mpr c51
                          have c51b1 : ((rd t978 x108_5) != (rd t988 (ji48))) = false := bne_eq_false_iff_eq.mpr c51
                          clear c51
                          have H' := Aside0.mk H
                          clear H
                          have p999 : 0 ≤ (x108_5 : Int) := TD
                          have q999 : x108_5 < (t978.length : Int) := TD
                          obtain ⟨ad999, e999, hx999_0⟩ := Kd.at_int (Kd.R_reads' HO_106.out).2.2 x108_5 p999 q999
                          cases e999
                          replace p999 := eq_true p999
                          replace q999 := eq_true q999
                          have p1000 : 0 ≤ ((ji48) : Int) := TD
                          have q1000 : (ji48) < (t988.length : Int) := TD
                          obtain ⟨ad1000, e1000, hx1000_0⟩ := Kd.at_int (Kd.R_reads' HO_14.out).2.2 (ji48) p1000 q1000
                          cases e1000
                          replace p1000 := eq_true p1000
                          replace q1000 := eq_true q1000
                          go_wp2
                          go_roundg k5
                          case measure => have := HJ6.out; have := HK2.out; have := HK3.out; have := HJ37.out; have := HK5.out; omega
                          case rel => exact ⟨(wrap64 (x108_5 + 1)), TF, H', ⟨by have := HJ6.out; have := HK2.out; have := HK3.out; have := HJ37.out; have := HK5.out; omega⟩, RW HO_14, RW HO_106, ⟨TB⟩⟩
                         ·rw [if_neg c51] at H
                          have c51b0 : ((rd t978 x108_5) == (rd t988 (ji48))) = false := beq_eq_false_iff_ne.mpr c51
                          have c51b1 : ((rd t978 x108_5) != (rd t988 (ji48))) = true := bne_iff_ne.mpr c51
                          obtain rfl := Option.some.inj H
                          have p999 : 0 ≤ (x108_5 : Int) := TD
                          have q999 : x108_5 < (t978.length : Int) := TD
                          obtain ⟨ad999, e999, hx999_0⟩ := Kd.at_int (Kd.R_reads' HO_106.out).2.2 x108_5 p999 q999
                          cases e999
                          replace p999 := eq_true p999
                          replace q999 := eq_true q999
                          have p1000 : 0 ≤ ((ji48) : Int) := TD
                          have q1000 : (ji48) < (t988.length : Int) := TD
                          obtain ⟨ad1000, e1000, hx1000_0⟩ := Kd.at_int (Kd.R_reads' HO_14.out).2.2 (ji48) p1000 q1000
                          cases e1000
                          replace p1000 := eq_true p1000
                          replace q1000 := eq_true q1000
                          go_wp2
                          go_ret
                          exact ⟨by first | rfl | (simp [errW_none, errW_some] <;> rfl) | (simp only [← hji48]; first | rfl | (simp [errW_none, errW_some] <;> rfl)) | (simp [*, errW_none, errW_some] <;> rfl), TB⟩
                        ·rw [if_neg c44] at H
                         have c44b0 : decide (x108_5 < (t978.length : Int)) = false := decide_eq_false c44
                         clear c44
                         have H' := Aside0.mk H
                         clear H
                         go_wp2
                         go_meet
                         case rel => exact ⟨_, H', ⟨by have := HJ6.out; have := HK2.out; have := HK3.out; have := HJ37.out; have := HK5.out; first | omega | exact Nat.le_refl _⟩, ⟨TB⟩⟩
        ·replace c18 := Bool.eq_false_iff.mpr c18
         subst c18
         replace H := iff' H
         have H' := Aside0.mk H
         clear H
         go_wp2
         go_meet
         case rel => exact ⟨_, H', ⟨by have := HJ6.out; first | omega | exact Nat.le_refl _⟩, ⟨TB⟩⟩
      case rest =>
       as_aux_lemma =>
        clear HC17
        obtain ⟨kq, HA, HJ16, HB⟩ := hcut
        cases kq with
        | zero => exact absurd HA.out (by simp [laws_FnTurns.j5])
        | succ kj16 =>
         have H := HA.out
         clear HA
         simp only [laws_FnTurns.j5] at H
         obtain ⟨⟨t1001, t1004⟩, A52, H⟩ := bnd H
         try dsimp only at H
         obtain ⟨⟨t1008, t1011, t1014, t1015⟩, A53, H⟩ := bnd H
         try dsimp only at H
         obtain ⟨⟨t1017, t1020, t1023, t1024⟩, A54, H⟩ := bnd H
         try dsimp only at H
         have HC55 := Aside0.mk H
         clear H
         go_upto_region 33 with (first | ((with_reducible refine gate_callee (f := 49) rfl ?_); refine goesL_ (some 123) rfl rfl Try.func49 KR rfl #[.slice A1 l1.length c1] rfl TA ?_; (with_reducible refine (spec_DrawNextTurn.calls kj16 _ _ l1 t1001 t1004 _ ?side1 ?side2 A52.out).mono ?_); (case side1 => exact CW ((Kd.C_below HR1.out HB.out))); (case side2 => exact HC1.out); rintro e w56 ⟨v1002, v1005, rfl, ho0, ho1, hb⟩; refine ⟨_, rfl, ?_⟩; have HO1003 := RL ho0; have HO1006 := RL ho1; replace HB := BS hb; clear hb; (try clear ho0); (try clear ho1)) | ((with_reducible refine gate_dst (N := 21) rfl ?_); refine bE 21 #[.slice none 0 0, .slice none 0 0] 40 ?_; intro gb1007 hg w57 hbox hb; replace HO1003 := RB HO1003 hb; replace HO1006 := RB HO1006 hb; have BK1007 := Aside0.mk (hbox); have GE1007 := bG hg; replace HB := BS hb; clear hb hbox hg; obtain ⟨Ao58, co58, eo58⟩ := Kd.R_slice HO1003.out; subst eo58; have hcz59 := cz2 BK1007; obtain ⟨Ao60, co60, eo60⟩ := Kd.R_slice HO1006.out; subst eo60) | ((with_reducible refine gate_callee (f := 46) rfl ?_); refine goesL_ (some 126) rfl rfl Try.func46 KR rfl #[.agg #[.slice Ao58 t1001.length co58, .slice Ao60 t1004.length co60]] rfl TA ?_; (with_reducible refine (impl_NextTurn.calls kj16 _ _ t1001 _ _ t1004 t1008 t1011 t1014 t1015 _ ?side1 ?side2 ?side3 ?side4 A53.out).mono ?_); (case side1 => exact RC (RT HO1003 BK1007)); (case side2 => exact RI HO1003); (case side3 => exact RC (RT HO1006 BK1007)); (case side4 => exact RI HO1006); rintro e w61 ⟨v1009, v1012, rfl, ho0, ho1, hb⟩; refine ⟨_, rfl, ?_⟩; have HO1010 := RL (NT (NT ho0 HO1003 BK1007) HO1006 BK1007); have HO1013 := RL (NT (NT ho1 HO1003 BK1007) HO1006 BK1007); replace HO1003 := Aside0.mk (Kd.R_mono (Kd.R_told (Kd.R_told (Kd.R_old (RT HO1003 BK1007).out hb) (Kd.R_base ho0)) (Kd.R_base ho1)) (fun _ h_ => h_.1)); replace HO1006 := Aside0.mk (Kd.R_mono (Kd.R_told (Kd.R_told (Kd.R_old (RT HO1006 BK1007).out hb) (Kd.R_base ho0)) (Kd.R_base ho1)) (fun _ h_ => h_.1)); replace BK1007 := KP BK1007 #[.slice Ao58 t1001.length co58, .slice Ao60 t1004.length co60] hb; replace HB := BS hb; clear hb; (try clear ho0); (try clear ho1)) | ((with_reducible refine gate_dst (N := 22) rfl ?_); refine bE 22 #[.slice none 0 0, .slice none 0 0] 40 ?_; intro gb1016 hg w62 hbox hb; replace HO1003 := RB HO1003 hb; replace HO1006 := RB HO1006 hb; replace HO1010 := RB HO1010 hb; replace HO1013 := RB HO1013 hb; have BK1016 := Aside0.mk (hbox); have GE1016 := bG hg; replace HB := BS hb; have NB1007_1016 := bN BK1007 hg; have NB1016_1007 := bM BK1007 hg; replace BK1007 := KB BK1007 hb; clear hb hbox hg; obtain ⟨Ao63, co63, eo63⟩ := Kd.R_slice HO1010.out; subst eo63; obtain ⟨hnb64, hnc64⟩ := nn NB1016_1007; have hcz65 := cz2 BK1016; obtain ⟨Ao66, co66, eo66⟩ := Kd.R_slice HO1013.out; subst eo66; have hcz67 := cz2 BK1007) | ((with_reducible refine gate_callee (f := 45) rfl ?_); refine goesL_ (some 132) rfl rfl Try.func45 KR rfl #[.agg #[.slice Ao58 t1001.length co58, .slice Ao60 t1004.length co60]] rfl TA ?_; (with_reducible refine (spec_NextTurn.calls kj16 _ _ t1001 _ _ t1004 t1017 t1020 t1023 t1024 _ ?side1 ?side2 ?side3 ?side4 A54.out).mono ?_); (case side1 => exact RC (RT HO1003 BK1016)); (case side2 => exact RI HO1003); (case side3 => exact RC (RT HO1006 BK1016)); (case side4 => exact RI HO1006); rintro e w68 ⟨v1018, v1021, rfl, ho0, ho1, hb⟩; refine ⟨_, rfl, ?_⟩; have HO1019 := RL (NT (NT (NT (NT ho0 HO1003 BK1016) HO1006 BK1016) HO1010 BK1016) HO1013 BK1016); have HO1022 := RL (NT (NT (NT (NT ho1 HO1003 BK1016) HO1006 BK1016) HO1010 BK1016) HO1013 BK1016); replace HO1003 := Aside0.mk (Kd.R_mono (Kd.R_told (Kd.R_told (Kd.R_old (RT HO1003 BK1016).out hb) (Kd.R_base ho0)) (Kd.R_base ho1)) (fun _ h_ => h_.1)); replace HO1006 := Aside0.mk (Kd.R_mono (Kd.R_told (Kd.R_told (Kd.R_old (RT HO1006 BK1016).out hb) (Kd.R_base ho0)) (Kd.R_base ho1)) (fun _ h_ => h_.1)); replace HO1010 := Aside0.mk (Kd.R_mono (Kd.R_told (Kd.R_told (Kd.R_old (RT HO1010 BK1016).out hb) (Kd.R_base ho0)) (Kd.R_base ho1)) (fun _ h_ => h_.1)); replace HO1013 := Aside0.mk (Kd.R_mono (Kd.R_told (Kd.R_told (Kd.R_old (RT HO1013 BK1016).out hb) (Kd.R_base ho0)) (Kd.R_base ho1)) (fun _ h_ => h_.1)); replace BK1007 := KF BK1007 hb; replace BK1016 := KP BK1016 #[.slice Ao63 t1008.length co63, .slice Ao66 t1011.length co66] hb; replace HB := BS hb; clear hb; (try clear ho0); (try clear ho1)) | ((with_reducible refine gate_dst (N := 25) rfl ?_); refine bE 25 #[.slice none 0 0, .slice none 0 0] 40 ?_; intro gb1025 hg w69 hbox hb; replace HO1003 := RB HO1003 hb; replace HO1006 := RB HO1006 hb; replace HO1010 := RB HO1010 hb; replace HO1013 := RB HO1013 hb; replace HO1019 := RB HO1019 hb; replace HO1022 := RB HO1022 hb; have BK1025 := Aside0.mk (hbox); have GE1025 := bG hg; replace HB := BS hb; have NB1007_1025 := bN BK1007 hg; have NB1025_1007 := bM BK1007 hg; replace BK1007 := KB BK1007 hb; have NB1016_1025 := bN BK1016 hg; have NB1025_1016 := bM BK1016 hg; replace BK1016 := KB BK1016 hb; clear hb hbox hg; obtain ⟨Ao70, co70, eo70⟩ := Kd.R_slice HO1019.out; subst eo70; obtain ⟨hnb71, hnc71⟩ := nn NB1025_1007; obtain ⟨hnb72, hnc72⟩ := nn NB1025_1016; have hcz73 := cz2 BK1025; obtain ⟨Ao74, co74, eo74⟩ := Kd.R_slice HO1022.out; subst eo74))
         (try simp only [Act.put, List.setIfInBounds_toArray, List.set_cons_zero, List.set_cons_succ])
         go_cut [158] (fun v158 wc => ∃ (kq : Nat) (x158_54 : Bool), v158 = .bool x158_54 ∧ Aside0 (laws_FnTurns.j6 kq l1 t1015 x158_54 t1008 t1011 = some r) ∧ Aside0 (kq ≤ kj16) ∧ Aside0 (Kd.R (Kd.int .i64) 3 wc w.heap.size (fun k_ => some k_ ≠ ((.slice Ao60 t1004.length co60) : Value).ownBlock ∧ some k_ ≠ ((.slice Ao63 t1008.length co63) : Value).ownBlock ∧ some k_ ≠ ((.slice Ao66 t1011.length co66) : Value).ownBlock ∧ some k_ ≠ ((.slice Ao70 t1017.length co70) : Value).ownBlock ∧ some k_ ≠ ((.slice Ao74 t1020.length co74) : Value).ownBlock) (.slice Ao58 t1001.length co58) t1001) ∧ Aside0 (Kd.R (Kd.int .i64) 3 wc w.heap.size (fun k_ => some k_ ≠ ((.slice Ao58 t1001.length co58) : Value).ownBlock ∧ some k_ ≠ ((.slice Ao63 t1008.length co63) : Value).ownBlock ∧ some k_ ≠ ((.slice Ao66 t1011.length co66) : Value).ownBlock ∧ some k_ ≠ ((.slice Ao70 t1017.length co70) : Value).ownBlock ∧ some k_ ≠ ((.slice Ao74 t1020.length co74) : Value).ownBlock) (.slice Ao60 t1004.length co60) t1004) ∧ Aside0 (Kd.R (Kd.int .i64) 3 wc w.heap.size (fun k_ => some k_ ≠ ((.slice Ao58 t1001.length co58) : Value).ownBlock ∧ some k_ ≠ ((.slice Ao60 t1004.length co60) : Value).ownBlock ∧ some k_ ≠ ((.slice Ao66 t1011.length co66) : Value).ownBlock ∧ some k_ ≠ ((.slice Ao70 t1017.length co70) : Value).ownBlock ∧ some k_ ≠ ((.slice Ao74 t1020.length co74) : Value).ownBlock) (.slice Ao63 t1008.length co63) t1008) ∧ Aside0 (Kd.R (Kd.int .i64) 3 wc w.heap.size (fun k_ => some k_ ≠ ((.slice Ao58 t1001.length co58) : Value).ownBlock ∧ some k_ ≠ ((.slice Ao60 t1004.length co60) : Value).ownBlock ∧ some k_ ≠ ((.slice Ao63 t1008.length co63) : Value).ownBlock ∧ some k_ ≠ ((.slice Ao70 t1017.length co70) : Value).ownBlock ∧ some k_ ≠ ((.slice Ao74 t1020.length co74) : Value).ownBlock) (.slice Ao66 t1011.length co66) t1011) ∧ Aside0 (Kd.R (Kd.int .i64) 3 wc w.heap.size (fun k_ => some k_ ≠ ((.slice Ao58 t1001.length co58) : Value).ownBlock ∧ some k_ ≠ ((.slice Ao60 t1004.length co60) : Value).ownBlock ∧ some k_ ≠ ((.slice Ao63 t1008.length co63) : Value).ownBlock ∧ some k_ ≠ ((.slice Ao66 t1011.length co66) : Value).ownBlock ∧ some k_ ≠ ((.slice Ao74 t1020.length co74) : Value).ownBlock) (.slice Ao70 t1017.length co70) t1017) ∧ Aside0 (Kd.R (Kd.int .i64) 3 wc w.heap.size (fun k_ => some k_ ≠ ((.slice Ao58 t1001.length co58) : Value).ownBlock ∧ some k_ ≠ ((.slice Ao60 t1004.length co60) : Value).ownBlock ∧ some k_ ≠ ((.slice Ao63 t1008.length co63) : Value).ownBlock ∧ some k_ ≠ ((.slice Ao66 t1011.length co66) : Value).ownBlock ∧ some k_ ≠ ((.slice Ao70 t1017.length co70) : Value).ownBlock) (.slice Ao74 t1020.length co74) t1020) ∧ Aside0 (wc.heap[gb1007]? = some (.cells #[(.slice Ao58 t1001.length co58), (.slice Ao60 t1004.length co60)] 40 (0, 0))) ∧ Aside0 (wc.heap[gb1016]? = some (.cells #[(.slice Ao63 t1008.length co63), (.slice Ao66 t1011.length co66)] 40 (0, 0))) ∧ Aside0 (wc.heap[gb1025]? = some (.cells #[(.slice Ao70 t1017.length co70), (.slice Ao74 t1020.length co74)] 40 (0, 0))) ∧ Aside0 (Below w.heap.size w wc))
         case first =>
          as_aux_lemma =>
           have H := HC55.out
           clear HC55
           by_cases c75 : (t1015 != t1024) = true
           ·rw [if_pos c75] at H
            have c75b0 : (t1015 != t1024) = true := c75
            (try (have c75b1 : decide (t1015 = t1024) = false := by simpa using c75))
            (try (have c75b2 : (t1015 == t1024) = false := by simpa using c75))
            (try (have c75b3 : ¬ (t1015 = t1024) := by simpa using c75))
            clear c75
            (first | rw [c75b0] | (simp only [i64_w, i32_w]; rw [c75b0]) | skip)
            have H' := Aside0.mk H
            clear H
            try go_wp2
            have n0_ : Aside0 (Kd.R (Kd.int .i64) 3 ((w69.setCell ⟨gb1025, 0, none⟩ (.slice Ao70 t1017.length co70)).setCell ⟨gb1025, 1, none⟩ (.slice Ao74 t1020.length co74)) w.heap.size (fun k_ => some k_ ≠ (.slice Ao60 t1004.length co60 : Value).ownBlock ∧ some k_ ≠ (.slice Ao63 t1008.length co63 : Value).ownBlock ∧ some k_ ≠ (.slice Ao66 t1011.length co66 : Value).ownBlock ∧ some k_ ≠ (.slice Ao70 t1017.length co70 : Value).ownBlock ∧ some k_ ≠ (.slice Ao74 t1020.length co74 : Value).ownBlock) (.slice Ao58 t1001.length co58) t1001) := ⟨by (with_reducible repeat (first | apply Kd.R_alloc | apply Kd.R_drewN | apply Kd.R_drew)); exact Kd.R_mono (Kd.R_far (p := ⟨gb1025, 1, none⟩) (Kd.R_far (p := ⟨gb1025, 0, none⟩) (Kd.R_types HO1003.out BK1025.out (by decide)) (fun _ hk => hk.2) (.slice Ao70 t1017.length co70)) (fun _ hk => hk.2) (.slice Ao74 t1020.length co74)) (fun _ hk => ⟨hk.1.1.1.1.1, ⟨hk.1.1.1.1.2, ⟨hk.1.1.1.2, ⟨hk.1.1.2, hk.1.2⟩⟩⟩⟩)⟩
            have n1_ : Aside0 (Kd.R (Kd.int .i64) 3 ((w69.setCell ⟨gb1025, 0, none⟩ (.slice Ao70 t1017.length co70)).setCell ⟨gb1025, 1, none⟩ (.slice Ao74 t1020.length co74)) w.heap.size (fun k_ => some k_ ≠ (.slice Ao58 t1001.length co58 : Value).ownBlock ∧ some k_ ≠ (.slice Ao63 t1008.length co63 : Value).ownBlock ∧ some k_ ≠ (.slice Ao66 t1011.length co66 : Value).ownBlock ∧ some k_ ≠ (.slice Ao70 t1017.length co70 : Value).ownBlock ∧ some k_ ≠ (.slice Ao74 t1020.length co74 : Value).ownBlock) (.slice Ao60 t1004.length co60) t1004) := ⟨by (with_reducible repeat (first | apply Kd.R_alloc | apply Kd.R_drewN | apply Kd.R_drew)); exact Kd.R_mono (Kd.R_far (p := ⟨gb1025, 1, none⟩) (Kd.R_far (p := ⟨gb1025, 0, none⟩) (Kd.R_types HO1006.out BK1025.out (by decide)) (fun _ hk => hk.2) (.slice Ao70 t1017.length co70)) (fun _ hk => hk.2) (.slice Ao74 t1020.length co74)) (fun _ hk => ⟨hk.1.1.1.1.1, ⟨hk.1.1.1.1.2, ⟨hk.1.1.1.2, ⟨hk.1.1.2, hk.1.2⟩⟩⟩⟩)⟩
            have n2_ : Aside0 (Kd.R (Kd.int .i64) 3 ((w69.setCell ⟨gb1025, 0, none⟩ (.slice Ao70 t1017.length co70)).setCell ⟨gb1025, 1, none⟩ (.slice Ao74 t1020.length co74)) w.heap.size (fun k_ => some k_ ≠ (.slice Ao58 t1001.length co58 : Value).ownBlock ∧ some k_ ≠ (.slice Ao60 t1004.length co60 : Value).ownBlock ∧ some k_ ≠ (.slice Ao66 t1011.length co66 : Value).ownBlock ∧ some k_ ≠ (.slice Ao70 t1017.length co70 : Value).ownBlock ∧ some k_ ≠ (.slice Ao74 t1020.length co74 : Value).ownBlock) (.slice Ao63 t1008.length co63) t1008) := ⟨by (with_reducible repeat (first | apply Kd.R_alloc | apply Kd.R_drewN | apply Kd.R_drew)); exact Kd.R_mono (Kd.R_far (p := ⟨gb1025, 1, none⟩) (Kd.R_far (p := ⟨gb1025, 0, none⟩) (Kd.R_types HO1010.out BK1025.out (by decide)) (fun _ hk => hk.2) (.slice Ao70 t1017.length co70)) (fun _ hk => hk.2) (.slice Ao74 t1020.length co74)) (fun _ hk => ⟨hk.1.1.1.1.2, ⟨hk.1.1.1.2, ⟨hk.1.1.1.1.1, ⟨hk.1.1.2, hk.1.2⟩⟩⟩⟩)⟩
            have n3_ : Aside0 (Kd.R (Kd.int .i64) 3 ((w69.setCell ⟨gb1025, 0, none⟩ (.slice Ao70 t1017.length co70)).setCell ⟨gb1025, 1, none⟩ (.slice Ao74 t1020.length co74)) w.heap.size (fun k_ => some k_ ≠ (.slice Ao58 t1001.length co58 : Value).ownBlock ∧ some k_ ≠ (.slice Ao60 t1004.length co60 : Value).ownBlock ∧ some k_ ≠ (.slice Ao63 t1008.length co63 : Value).ownBlock ∧ some k_ ≠ (.slice Ao70 t1017.length co70 : Value).ownBlock ∧ some k_ ≠ (.slice Ao74 t1020.length co74 : Value).ownBlock) (.slice Ao66 t1011.length co66) t1011) := ⟨by (with_reducible repeat (first | apply Kd.R_alloc | apply Kd.R_drewN | apply Kd.R_drew)); exact Kd.R_mono (Kd.R_far (p := ⟨gb1025, 1, none⟩) (Kd.R_far (p := ⟨gb1025, 0, none⟩) (Kd.R_types HO1013.out BK1025.out (by decide)) (fun _ hk => hk.2) (.slice Ao70 t1017.length co70)) (fun _ hk => hk.2) (.slice Ao74 t1020.length co74)) (fun _ hk => ⟨hk.1.1.1.1.2, ⟨hk.1.1.1.2, ⟨hk.1.1.1.1.1, ⟨hk.1.1.2, hk.1.2⟩⟩⟩⟩)⟩
            have n4_ : Aside0 (Kd.R (Kd.int .i64) 3 ((w69.setCell ⟨gb1025, 0, none⟩ (.slice Ao70 t1017.length co70)).setCell ⟨gb1025, 1, none⟩ (.slice Ao74 t1020.length co74)) w.heap.size (fun k_ => some k_ ≠ (.slice Ao58 t1001.length co58 : Value).ownBlock ∧ some k_ ≠ (.slice Ao60 t1004.length co60 : Value).ownBlock ∧ some k_ ≠ (.slice Ao63 t1008.length co63 : Value).ownBlock ∧ some k_ ≠ (.slice Ao66 t1011.length co66 : Value).ownBlock ∧ some k_ ≠ (.slice Ao74 t1020.length co74 : Value).ownBlock) (.slice Ao70 t1017.length co70) t1017) := ⟨by (with_reducible repeat (first | apply Kd.R_alloc | apply Kd.R_drewN | apply Kd.R_drew)); exact Kd.R_mono (Kd.R_far (p := ⟨gb1025, 1, none⟩) (Kd.R_far (p := ⟨gb1025, 0, none⟩) (Kd.R_types HO1019.out BK1025.out (by decide)) (fun _ hk => hk.2) (.slice Ao70 t1017.length co70)) (fun _ hk => hk.2) (.slice Ao74 t1020.length co74)) (fun _ hk => ⟨hk.1.1.1.1.2, ⟨hk.1.1.1.2, ⟨hk.1.1.2, ⟨hk.1.2, hk.1.1.1.1.1⟩⟩⟩⟩)⟩
            have n5_ : Aside0 (Kd.R (Kd.int .i64) 3 ((w69.setCell ⟨gb1025, 0, none⟩ (.slice Ao70 t1017.length co70)).setCell ⟨gb1025, 1, none⟩ (.slice Ao74 t1020.length co74)) w.heap.size (fun k_ => some k_ ≠ (.slice Ao58 t1001.length co58 : Value).ownBlock ∧ some k_ ≠ (.slice Ao60 t1004.length co60 : Value).ownBlock ∧ some k_ ≠ (.slice Ao63 t1008.length co63 : Value).ownBlock ∧ some k_ ≠ (.slice Ao66 t1011.length co66 : Value).ownBlock ∧ some k_ ≠ (.slice Ao70 t1017.length co70 : Value).ownBlock) (.slice Ao74 t1020.length co74) t1020) := ⟨by (with_reducible repeat (first | apply Kd.R_alloc | apply Kd.R_drewN | apply Kd.R_drew)); exact Kd.R_mono (Kd.R_far (p := ⟨gb1025, 1, none⟩) (Kd.R_far (p := ⟨gb1025, 0, none⟩) (Kd.R_types HO1022.out BK1025.out (by decide)) (fun _ hk => hk.2) (.slice Ao70 t1017.length co70)) (fun _ hk => hk.2) (.slice Ao74 t1020.length co74)) (fun _ hk => ⟨hk.1.1.1.1.2, ⟨hk.1.1.1.2, ⟨hk.1.1.2, ⟨hk.1.2, hk.1.1.1.1.1⟩⟩⟩⟩)⟩
            have n6_ : Aside0 (((w69.setCell ⟨gb1025, 0, none⟩ (.slice Ao70 t1017.length co70)).setCell ⟨gb1025, 1, none⟩ (.slice Ao74 t1020.length co74)).heap[gb1007]? = some (.cells #[.slice Ao58 t1001.length co58, .slice Ao60 t1004.length co60] 40 (0, 0))) := ⟨TS⟩
            have n7_ : Aside0 (((w69.setCell ⟨gb1025, 0, none⟩ (.slice Ao70 t1017.length co70)).setCell ⟨gb1025, 1, none⟩ (.slice Ao74 t1020.length co74)).heap[gb1016]? = some (.cells #[.slice Ao63 t1008.length co63, .slice Ao66 t1011.length co66] 40 (0, 0))) := ⟨TS⟩
            have n8_ : Aside0 (((w69.setCell ⟨gb1025, 0, none⟩ (.slice Ao70 t1017.length co70)).setCell ⟨gb1025, 1, none⟩ (.slice Ao74 t1020.length co74)).heap[gb1025]? = some (.cells #[.slice Ao70 t1017.length co70, .slice Ao74 t1020.length co74] 40 (0, 0))) := ⟨TS⟩
            have n9_ : Aside0 (Below w.heap.size w ((w69.setCell ⟨gb1025, 0, none⟩ (.slice Ao70 t1017.length co70)).setCell ⟨gb1025, 1, none⟩ (.slice Ao74 t1020.length co74))) := ⟨TB⟩
            (try clear HO1003)
            (try clear HO1006)
            (try clear HO1010)
            (try clear HO1013)
            (try clear HO1019)
            (try clear HO1022)
            (try clear BK1007)
            (try clear BK1016)
            (try clear BK1025)
            (try clear HB)
            generalize ((w69.setCell ⟨gb1025, 0, none⟩ (.slice Ao70 t1017.length co70)).setCell ⟨gb1025, 1, none⟩ (.slice Ao74 t1020.length co74)) = w76 at n0_ n1_ n2_ n3_ n4_ n5_ n6_ n7_ n8_ n9_ ⊢
            have HO1003 := n0_
            have HO1006 := n1_
            have HO1010 := n2_
            have HO1013 := n3_
            have HO1019 := n4_
            have HO1022 := n5_
            have BK1007 := n6_
            have BK1016 := n7_
            have BK1025 := n8_
            have HB := n9_
            clear n0_ n1_ n2_ n3_ n4_ n5_ n6_ n7_ n8_ n9_
            replace HO1003 := Aside0.mk (Kd.R_drew HO1003.out)
            replace HO1006 := Aside0.mk (Kd.R_drew HO1006.out)
            replace HO1010 := Aside0.mk (Kd.R_drew HO1010.out)
            replace HO1013 := Aside0.mk (Kd.R_drew HO1013.out)
            replace HO1019 := Aside0.mk (Kd.R_drew HO1019.out)
            replace HO1022 := Aside0.mk (Kd.R_drew HO1022.out)
            replace BK1007 := Aside0.mk (blk_drew BK1007.out)
            replace BK1016 := Aside0.mk (blk_drew BK1016.out)
            replace BK1025 := Aside0.mk (blk_drew BK1025.out)
            replace HB := Aside0.mk (below_drew1 HB.out)
            refine start_ (n := 23) (S := fun w' => True) (ds := []) #[false, false, false, false, false, false, false, false, false, false, false, false, false, false, false, false, false, false, false, false, false, false, false] KR rfl rfl trivial (fun hHeld => ?_); refine with_tabW laws_FnTurns.tab33 laws_FnTurns.bits33 (fun HT_ HW_ => ?_)
            generalize w76.drew = w77 at HO1003 HO1006 HO1010 HO1013 HO1019 HO1022 BK1007 BK1016 BK1025 HB hHeld ⊢
            refine pA 0 136 (mL 23 1) HT_ rfl rfl ?_
            refine pA 1 137 (mL 23 3) HT_ rfl rfl ?_
            refine pA 2 138 (mL 23 7) HT_ rfl rfl ?_
            refine pA 3 139 (mL 23 15) HT_ rfl rfl ?_
            refine pU 4 140 (mL 23 31) HT_ rfl rfl ?_
            refine pU 5 141 (mL 23 63) HT_ rfl rfl ?_
            refine pU 6 142 (mL 23 127) HT_ rfl rfl ?_
            refine pA 7 143 (mL 23 255) HT_ rfl rfl ?_
            refine pA 8 144 (mL 23 511) HT_ rfl rfl ?_
            refine pU 9 145 (mL 23 1023) HT_ rfl rfl ?_
            refine pU 10 146 (mL 23 2047) HT_ rfl rfl ?_
            refine pU 11 147 (mL 23 4095) HT_ rfl rfl ?_
            refine pU 12 148 (mL 23 8191) HT_ rfl rfl ?_
            refine pU 13 149 (mL 23 16383) HT_ rfl rfl ?_
            refine pU 14 150 (mL 23 32767) HT_ rfl rfl ?_
            refine pA 15 151 (mL 23 65535) HT_ rfl rfl ?_
            refine pA 16 152 (mL 23 131071) HT_ rfl rfl ?_
            refine pU 17 153 (mL 23 262143) HT_ rfl rfl ?_
            refine pU 18 154 (mL 23 524287) HT_ rfl rfl ?_
            refine pU 19 155 (mL 23 1048575) HT_ rfl rfl ?_
            refine pU 20 156 (mL 23 2097151) HT_ rfl rfl ?_
            refine pU 21 157 (mL 23 4194303) HT_ rfl rfl ?_
            refine pA 22 158 (mL 23 8388607) HT_ rfl rfl ?_
            refine done_ (done_of HT_.out KR) ?_
            try go_wp2
            go_meet
            case rel => exact ⟨_, (true), TF, H', ⟨by have := HJ6.out; have := HJ16.out; first | omega | exact Nat.le_refl _⟩, RW HO1003, RW HO1006, RW HO1010, RW HO1013, RW HO1019, RW HO1022, KW BK1007, KW BK1016, KW BK1025, ⟨TB⟩⟩
           ·rw [if_neg c75] at H
            have c75b0 : (t1015 != t1024) = false := by simpa using c75
            (try (have c75b1 : decide (t1015 = t1024) = true := by simpa using c75))
            (try (have c75b2 : (t1015 == t1024) = true := by simpa using c75))
            clear c75
            (first | rw [c75b0] | (simp only [i64_w, i32_w]; rw [c75b0]) | skip)
            by_cases c78 : t1014 = t1023
            ·rw [if_pos c78] at H
             have c78b0 : (t1014 == t1023) = true := beq_iff_eq.mpr c78
             have c78b1 : (t1014 != t1023) = false := bne_eq_false_iff_eq.mpr c78
             clear c78
             obtain ⟨t1026, A79, H⟩ := bnd H
             by_cases c80 : t1026 = true
             ·subst c80
              replace H := ift H
              obtain ⟨t1027, A81, H⟩ := bnd H
              obtain ⟨t1028, A82, H⟩ := bnd H
              have H' := Aside0.mk H
              clear H
              try go_wp2
              have n0_ : Aside0 (Kd.R (Kd.int .i64) 3 ((w69.setCell ⟨gb1025, 0, none⟩ (.slice Ao70 t1017.length co70)).setCell ⟨gb1025, 1, none⟩ (.slice Ao74 t1020.length co74)) w.heap.size (fun k_ => some k_ ≠ (.slice Ao60 t1004.length co60 : Value).ownBlock ∧ some k_ ≠ (.slice Ao63 t1008.length co63 : Value).ownBlock ∧ some k_ ≠ (.slice Ao66 t1011.length co66 : Value).ownBlock ∧ some k_ ≠ (.slice Ao70 t1017.length co70 : Value).ownBlock ∧ some k_ ≠ (.slice Ao74 t1020.length co74 : Value).ownBlock) (.slice Ao58 t1001.length co58) t1001) := ⟨by (with_reducible repeat (first | apply Kd.R_alloc | apply Kd.R_drewN | apply Kd.R_drew)); exact Kd.R_mono (Kd.R_far (p := ⟨gb1025, 1, none⟩) (Kd.R_far (p := ⟨gb1025, 0, none⟩) (Kd.R_types HO1003.out BK1025.out (by decide)) (fun _ hk => hk.2) (.slice Ao70 t1017.length co70)) (fun _ hk => hk.2) (.slice Ao74 t1020.length co74)) (fun _ hk => ⟨hk.1.1.1.1.1, ⟨hk.1.1.1.1.2, ⟨hk.1.1.1.2, ⟨hk.1.1.2, hk.1.2⟩⟩⟩⟩)⟩
              have n1_ : Aside0 (Kd.R (Kd.int .i64) 3 ((w69.setCell ⟨gb1025, 0, none⟩ (.slice Ao70 t1017.length co70)).setCell ⟨gb1025, 1, none⟩ (.slice Ao74 t1020.length co74)) w.heap.size (fun k_ => some k_ ≠ (.slice Ao58 t1001.length co58 : Value).ownBlock ∧ some k_ ≠ (.slice Ao63 t1008.length co63 : Value).ownBlock ∧ some k_ ≠ (.slice Ao66 t1011.length co66 : Value).ownBlock ∧ some k_ ≠ (.slice Ao70 t1017.length co70 : Value).ownBlock ∧ some k_ ≠ (.slice Ao74 t1020.length co74 : Value).ownBlock) (.slice Ao60 t1004.length co60) t1004) := ⟨by (with_reducible repeat (first | apply Kd.R_alloc | apply Kd.R_drewN | apply Kd.R_drew)); exact Kd.R_mono (Kd.R_far (p := ⟨gb1025, 1, none⟩) (Kd.R_far (p := ⟨gb1025, 0, none⟩) (Kd.R_types HO1006.out BK1025.out (by decide)) (fun _ hk => hk.2) (.slice Ao70 t1017.length co70)) (fun _ hk => hk.2) (.slice Ao74 t1020.length co74)) (fun _ hk => ⟨hk.1.1.1.1.1, ⟨hk.1.1.1.1.2, ⟨hk.1.1.1.2, ⟨hk.1.1.2, hk.1.2⟩⟩⟩⟩)⟩
              have n2_ : Aside0 (Kd.R (Kd.int .i64) 3 ((w69.setCell ⟨gb1025, 0, none⟩ (.slice Ao70 t1017.length co70)).setCell ⟨gb1025, 1, none⟩ (.slice Ao74 t1020.length co74)) w.heap.size (fun k_ => some k_ ≠ (.slice Ao58 t1001.length co58 : Value).ownBlock ∧ some k_ ≠ (.slice Ao60 t1004.length co60 : Value).ownBlock ∧ some k_ ≠ (.slice Ao66 t1011.length co66 : Value).ownBlock ∧ some k_ ≠ (.slice Ao70 t1017.length co70 : Value).ownBlock ∧ some k_ ≠ (.slice Ao74 t1020.length co74 : Value).ownBlock) (.slice Ao63 t1008.length co63) t1008) := ⟨by (with_reducible repeat (first | apply Kd.R_alloc | apply Kd.R_drewN | apply Kd.R_drew)); exact Kd.R_mono (Kd.R_far (p := ⟨gb1025, 1, none⟩) (Kd.R_far (p := ⟨gb1025, 0, none⟩) (Kd.R_types HO1010.out BK1025.out (by decide)) (fun _ hk => hk.2) (.slice Ao70 t1017.length co70)) (fun _ hk => hk.2) (.slice Ao74 t1020.length co74)) (fun _ hk => ⟨hk.1.1.1.1.2, ⟨hk.1.1.1.2, ⟨hk.1.1.1.1.1, ⟨hk.1.1.2, hk.1.2⟩⟩⟩⟩)⟩
              have n3_ : Aside0 (Kd.R (Kd.int .i64) 3 ((w69.setCell ⟨gb1025, 0, none⟩ (.slice Ao70 t1017.length co70)).setCell ⟨gb1025, 1, none⟩ (.slice Ao74 t1020.length co74)) w.heap.size (fun k_ => some k_ ≠ (.slice Ao58 t1001.length co58 : Value).ownBlock ∧ some k_ ≠ (.slice Ao60 t1004.length co60 : Value).ownBlock ∧ some k_ ≠ (.slice Ao63 t1008.length co63 : Value).ownBlock ∧ some k_ ≠ (.slice Ao70 t1017.length co70 : Value).ownBlock ∧ some k_ ≠ (.slice Ao74 t1020.length co74 : Value).ownBlock) (.slice Ao66 t1011.length co66) t1011) := ⟨by (with_reducible repeat (first | apply Kd.R_alloc | apply Kd.R_drewN | apply Kd.R_drew)); exact Kd.R_mono (Kd.R_far (p := ⟨gb1025, 1, none⟩) (Kd.R_far (p := ⟨gb1025, 0, none⟩) (Kd.R_types HO1013.out BK1025.out (by decide)) (fun _ hk => hk.2) (.slice Ao70 t1017.length co70)) (fun _ hk => hk.2) (.slice Ao74 t1020.length co74)) (fun _ hk => ⟨hk.1.1.1.1.2, ⟨hk.1.1.1.2, ⟨hk.1.1.1.1.1, ⟨hk.1.1.2, hk.1.2⟩⟩⟩⟩)⟩
              have n4_ : Aside0 (Kd.R (Kd.int .i64) 3 ((w69.setCell ⟨gb1025, 0, none⟩ (.slice Ao70 t1017.length co70)).setCell ⟨gb1025, 1, none⟩ (.slice Ao74 t1020.length co74)) w.heap.size (fun k_ => some k_ ≠ (.slice Ao58 t1001.length co58 : Value).ownBlock ∧ some k_ ≠ (.slice Ao60 t1004.length co60 : Value).ownBlock ∧ some k_ ≠ (.slice Ao63 t1008.length co63 : Value).ownBlock ∧ some k_ ≠ (.slice Ao66 t1011.length co66 : Value).ownBlock ∧ some k_ ≠ (.slice Ao74 t1020.length co74 : Value).ownBlock) (.slice Ao70 t1017.length co70) t1017) := ⟨by (with_reducible repeat (first | apply Kd.R_alloc | apply Kd.R_drewN | apply Kd.R_drew)); exact Kd.R_mono (Kd.R_far (p := ⟨gb1025, 1, none⟩) (Kd.R_far (p := ⟨gb1025, 0, none⟩) (Kd.R_types HO1019.out BK1025.out (by decide)) (fun _ hk => hk.2) (.slice Ao70 t1017.length co70)) (fun _ hk => hk.2) (.slice Ao74 t1020.length co74)) (fun _ hk => ⟨hk.1.1.1.1.2, ⟨hk.1.1.1.2, ⟨hk.1.1.2, ⟨hk.1.2, hk.1.1.1.1.1⟩⟩⟩⟩)⟩
              have n5_ : Aside0 (Kd.R (Kd.int .i64) 3 ((w69.setCell ⟨gb1025, 0, none⟩ (.slice Ao70 t1017.length co70)).setCell ⟨gb1025, 1, none⟩ (.slice Ao74 t1020.length co74)) w.heap.size (fun k_ => some k_ ≠ (.slice Ao58 t1001.length co58 : Value).ownBlock ∧ some k_ ≠ (.slice Ao60 t1004.length co60 : Value).ownBlock ∧ some k_ ≠ (.slice Ao63 t1008.length co63 : Value).ownBlock ∧ some k_ ≠ (.slice Ao66 t1011.length co66 : Value).ownBlock ∧ some k_ ≠ (.slice Ao70 t1017.length co70 : Value).ownBlock) (.slice Ao74 t1020.length co74) t1020) := ⟨by (with_reducible repeat (first | apply Kd.R_alloc | apply Kd.R_drewN | apply Kd.R_drew)); exact Kd.R_mono (Kd.R_far (p := ⟨gb1025, 1, none⟩) (Kd.R_far (p := ⟨gb1025, 0, none⟩) (Kd.R_types HO1022.out BK1025.out (by decide)) (fun _ hk => hk.2) (.slice Ao70 t1017.length co70)) (fun _ hk => hk.2) (.slice Ao74 t1020.length co74)) (fun _ hk => ⟨hk.1.1.1.1.2, ⟨hk.1.1.1.2, ⟨hk.1.1.2, ⟨hk.1.2, hk.1.1.1.1.1⟩⟩⟩⟩)⟩
              have n6_ : Aside0 (((w69.setCell ⟨gb1025, 0, none⟩ (.slice Ao70 t1017.length co70)).setCell ⟨gb1025, 1, none⟩ (.slice Ao74 t1020.length co74)).heap[gb1007]? = some (.cells #[.slice Ao58 t1001.length co58, .slice Ao60 t1004.length co60] 40 (0, 0))) := ⟨TS⟩
              have n7_ : Aside0 (((w69.setCell ⟨gb1025, 0, none⟩ (.slice Ao70 t1017.length co70)).setCell ⟨gb1025, 1, none⟩ (.slice Ao74 t1020.length co74)).heap[gb1016]? = some (.cells #[.slice Ao63 t1008.length co63, .slice Ao66 t1011.length co66] 40 (0, 0))) := ⟨TS⟩
              have n8_ : Aside0 (((w69.setCell ⟨gb1025, 0, none⟩ (.slice Ao70 t1017.length co70)).setCell ⟨gb1025, 1, none⟩ (.slice Ao74 t1020.length co74)).heap[gb1025]? = some (.cells #[.slice Ao70 t1017.length co70, .slice Ao74 t1020.length co74] 40 (0, 0))) := ⟨TS⟩
              have n9_ : Aside0 (Below w.heap.size w ((w69.setCell ⟨gb1025, 0, none⟩ (.slice Ao70 t1017.length co70)).setCell ⟨gb1025, 1, none⟩ (.slice Ao74 t1020.length co74))) := ⟨TB⟩
              (try clear HO1003)
              (try clear HO1006)
              (try clear HO1010)
              (try clear HO1013)
              (try clear HO1019)
              (try clear HO1022)
              (try clear BK1007)
              (try clear BK1016)
              (try clear BK1025)
              (try clear HB)
              generalize ((w69.setCell ⟨gb1025, 0, none⟩ (.slice Ao70 t1017.length co70)).setCell ⟨gb1025, 1, none⟩ (.slice Ao74 t1020.length co74)) = w83 at n0_ n1_ n2_ n3_ n4_ n5_ n6_ n7_ n8_ n9_ ⊢
              have HO1003 := n0_
              have HO1006 := n1_
              have HO1010 := n2_
              have HO1013 := n3_
              have HO1019 := n4_
              have HO1022 := n5_
              have BK1007 := n6_
              have BK1016 := n7_
              have BK1025 := n8_
              have HB := n9_
              clear n0_ n1_ n2_ n3_ n4_ n5_ n6_ n7_ n8_ n9_
              replace HO1003 := Aside0.mk (Kd.R_drew HO1003.out)
              replace HO1006 := Aside0.mk (Kd.R_drew HO1006.out)
              replace HO1010 := Aside0.mk (Kd.R_drew HO1010.out)
              replace HO1013 := Aside0.mk (Kd.R_drew HO1013.out)
              replace HO1019 := Aside0.mk (Kd.R_drew HO1019.out)
              replace HO1022 := Aside0.mk (Kd.R_drew HO1022.out)
              replace BK1007 := Aside0.mk (blk_drew BK1007.out)
              replace BK1016 := Aside0.mk (blk_drew BK1016.out)
              replace BK1025 := Aside0.mk (blk_drew BK1025.out)
              replace HB := Aside0.mk (below_drew1 HB.out)
              refine start_ (n := 23) (S := fun w' => w'.cell? ⟨gb1016, 0, none⟩ = some (.slice Ao63 t1008.length co63) ∧ w'.cell? ⟨gb1016, 1, none⟩ = some (.slice Ao66 t1011.length co66) ∧ w'.cell? ⟨gb1025, 0, none⟩ = some (.slice Ao70 t1017.length co70) ∧ w'.cell? ⟨gb1025, 1, none⟩ = some (.slice Ao74 t1020.length co74) ∧ w'.cell? ⟨gb1007, 0, none⟩ = some (.slice Ao58 t1001.length co58) ∧ w'.cell? ⟨gb1007, 1, none⟩ = some (.slice Ao60 t1004.length co60)) (ds := []) #[false, false, false, false, false, false, false, false, false, false, false, false, false, false, false, false, false, false, false, false, false, false, false] KR rfl rfl ⟨bc 0 BK1016, bc 1 BK1016, bc 0 BK1025, bc 1 BK1025, bc 0 BK1007, bc 1 BK1007⟩ (fun hHeld => ?_); refine with_tabW laws_FnTurns.tab33 laws_FnTurns.bits33 (fun HT_ HW_ => ?_)
              generalize w83.drew = w84 at HO1003 HO1006 HO1010 HO1013 HO1019 HO1022 BK1007 BK1016 BK1025 HB hHeld ⊢
              refine pA 0 136 (mL 23 1) HT_ rfl rfl ?_
              refine pA 1 137 (mL 23 3) HT_ rfl rfl ?_
              refine pA 2 138 (mL 23 7) HT_ rfl rfl ?_
              refine pA 3 139 (mL 23 15) HT_ rfl rfl ?_
              refine pA 4 140 (mL 23 31) HT_ rfl rfl ?_
              refine pA 5 141 (mL 23 63) HT_ rfl rfl ?_
              refine pA 6 142 (mL 23 127) HT_ rfl rfl ?_
              refine pA 7 143 (mL 23 255) HT_ rfl rfl ?_
              refine pA 8 144 (mL 23 511) HT_ rfl rfl ?_
              refine pA 9 145 (mL 23 1023) HT_ rfl rfl ?_
              refine pA 11 147 (mL 23 3071) HT_ rfl rfl ?_
              refine tA 10 146 (mL 23 4095) HT_ HW_ hHeld rfl rfl (by rintro w' ⟨s0, s1, s2, s3, s4, s5⟩; go_simp; with_reducible rfl) ?_
              refine tA 12 148 (mL 23 8191) HT_ HW_ hHeld rfl rfl (by rintro w' ⟨s0, s1, s2, s3, s4, s5⟩; go_simp; with_reducible rfl) ?_
              refine one_ (i := 13) (N := some 149) (mL 23 16383) rfl rfl (one_of HT_.out KR) (by decide) (fun K hK => ?_)
              refine goes_ Try.func48 KR rfl #[.slice Ao66 t1011.length co66, .slice Ao74 t1020.length co74] (by rfl) rfl rfl TA ?_
              with_reducible refine (laws_sameInts.calls kj16 _ _ t1011 _ _ t1020 true _ ?side1 ?side2 ?side3 ?side4 A79.out).mono ?_
              (case side1 => exact CW ((Kd.R_reads' HO1013.out).2.2))
              (case side2 => exact RI HO1013)
              (case side3 => exact CW ((Kd.R_reads' HO1022.out).2.2))
              (case side4 => exact RI HO1022)
              rintro e w' ⟨rfl, ⟨nd, rfl⟩⟩
              refine ⟨_, rfl, ?_⟩
              refine hK.out _ _ ⟨bc 0 BK1016, bc 1 BK1016, bc 0 BK1025, bc 1 BK1025, bc 0 BK1007, bc 1 BK1007⟩ (fun hHeld => ?_)
              clear hK K
              refine nA ?_
              refine pA 14 150 (mL 23 32767) HT_ rfl rfl ?_
              refine pA 15 151 (mL 23 65535) HT_ rfl rfl ?_
              refine pA 16 152 (mL 23 131071) HT_ rfl rfl ?_
              refine tA 17 153 (mL 23 262143) HT_ HW_ hHeld rfl rfl (by rintro w' ⟨s0, s1, s2, s3, s4, s5⟩; go_simp; with_reducible rfl) ?_
              refine tA 19 155 (mL 23 786431) HT_ HW_ hHeld rfl rfl (by rintro w' ⟨s0, s1, s2, s3, s4, s5⟩; go_simp; with_reducible rfl) ?_
              refine one_ (i := 18) (N := some 154) (mL 23 1048575) rfl rfl (one_of HT_.out KR) (by decide) (fun K hK => ?_)
              refine goes_ Try.func29 KR rfl #[.agg #[.slice Ao58 t1001.length co58, .slice Ao60 t1004.length co60]] (by rfl) rfl rfl TA ?_
              with_reducible refine (impl_GoodTurn.calls kj16 _ _ t1001 _ _ t1004 t1027 _ ?side1 ?side2 ?side3 ?side4 A81.out).mono ?_
              (case side1 => exact CW ((Kd.R_reads' HO1003.out).2.2))
              (case side2 => exact RI HO1003)
              (case side3 => exact CW ((Kd.R_reads' HO1006.out).2.2))
              (case side4 => exact RI HO1006)
              rintro e w85 ⟨rfl, hb⟩
              refine ⟨_, rfl, ?_⟩
              replace HO1003 := RB HO1003 hb
              replace HO1006 := RB HO1006 hb
              replace HO1010 := RB HO1010 hb
              replace HO1013 := RB HO1013 hb
              replace HO1019 := RB HO1019 hb
              replace HO1022 := RB HO1022 hb
              replace BK1007 := KB BK1007 hb
              replace BK1016 := KB BK1016 hb
              replace BK1025 := KB BK1025 hb
              replace HB := BS hb
              (try clear hb)
              (try clear hb2)
              (try clear hk)
              (try clear hi)
              refine hK.out _ _ ⟨bc 0 BK1016, bc 1 BK1016, bc 0 BK1025, bc 1 BK1025, bc 0 BK1007, bc 1 BK1007⟩ (fun hHeld => ?_)
              clear hK K
              refine nA ?_
              refine one_ (i := 20) (N := some 156) (mL 23 2097151) rfl rfl (one_of HT_.out KR) (by decide) (fun K hK => ?_)
              refine goes_ Try.func27 KR rfl #[.agg #[.slice Ao58 t1001.length co58, .slice Ao60 t1004.length co60]] (by rfl) rfl rfl TA ?_
              with_reducible refine (spec_GoodTurn.calls kj16 _ _ t1001 _ _ t1004 t1028 _ ?side1 ?side2 ?side3 ?side4 A82.out).mono ?_
              (case side1 => exact CW ((Kd.R_reads' HO1003.out).2.2))
              (case side2 => exact RI HO1003)
              (case side3 => exact CW ((Kd.R_reads' HO1006.out).2.2))
              (case side4 => exact RI HO1006)
              rintro e w86 ⟨rfl, hb⟩
              refine ⟨_, rfl, ?_⟩
              replace HO1003 := RB HO1003 hb
              replace HO1006 := RB HO1006 hb
              replace HO1010 := RB HO1010 hb
              replace HO1013 := RB HO1013 hb
              replace HO1019 := RB HO1019 hb
              replace HO1022 := RB HO1022 hb
              replace BK1007 := KB BK1007 hb
              replace BK1016 := KB BK1016 hb
              replace BK1025 := KB BK1025 hb
              replace HB := BS hb
              (try clear hb)
              (try clear hb2)
              (try clear hk)
              (try clear hi)
              refine hK.out _ _ ⟨bc 0 BK1016, bc 1 BK1016, bc 0 BK1025, bc 1 BK1025, bc 0 BK1007, bc 1 BK1007⟩ (fun hHeld => ?_)
              clear hK K
              refine nA ?_
              refine pA 21 157 (mL 23 4194303) HT_ rfl rfl ?_
              refine pA 22 158 (mL 23 8388607) HT_ rfl rfl ?_
              refine done_ (done_of HT_.out KR) ?_
              try go_wp2
              go_meet
              case rel => exact ⟨_, ((t1027 != t1028)), TF, H', ⟨by have := HJ6.out; have := HJ16.out; first | omega | exact Nat.le_refl _⟩, RW HO1003, RW HO1006, RW HO1010, RW HO1013, RW HO1019, RW HO1022, KW BK1007, KW BK1016, KW BK1025, ⟨TB⟩⟩
             ·replace c80 := Bool.eq_false_iff.mpr c80
              subst c80
              replace H := iff' H
              have H' := Aside0.mk H
              clear H
              try go_wp2
              have n0_ : Aside0 (Kd.R (Kd.int .i64) 3 ((w69.setCell ⟨gb1025, 0, none⟩ (.slice Ao70 t1017.length co70)).setCell ⟨gb1025, 1, none⟩ (.slice Ao74 t1020.length co74)) w.heap.size (fun k_ => some k_ ≠ (.slice Ao60 t1004.length co60 : Value).ownBlock ∧ some k_ ≠ (.slice Ao63 t1008.length co63 : Value).ownBlock ∧ some k_ ≠ (.slice Ao66 t1011.length co66 : Value).ownBlock ∧ some k_ ≠ (.slice Ao70 t1017.length co70 : Value).ownBlock ∧ some k_ ≠ (.slice Ao74 t1020.length co74 : Value).ownBlock) (.slice Ao58 t1001.length co58) t1001) := ⟨by (with_reducible repeat (first | apply Kd.R_alloc | apply Kd.R_drewN | apply Kd.R_drew)); exact Kd.R_mono (Kd.R_far (p := ⟨gb1025, 1, none⟩) (Kd.R_far (p := ⟨gb1025, 0, none⟩) (Kd.R_types HO1003.out BK1025.out (by decide)) (fun _ hk => hk.2) (.slice Ao70 t1017.length co70)) (fun _ hk => hk.2) (.slice Ao74 t1020.length co74)) (fun _ hk => ⟨hk.1.1.1.1.1, ⟨hk.1.1.1.1.2, ⟨hk.1.1.1.2, ⟨hk.1.1.2, hk.1.2⟩⟩⟩⟩)⟩
              have n1_ : Aside0 (Kd.R (Kd.int .i64) 3 ((w69.setCell ⟨gb1025, 0, none⟩ (.slice Ao70 t1017.length co70)).setCell ⟨gb1025, 1, none⟩ (.slice Ao74 t1020.length co74)) w.heap.size (fun k_ => some k_ ≠ (.slice Ao58 t1001.length co58 : Value).ownBlock ∧ some k_ ≠ (.slice Ao63 t1008.length co63 : Value).ownBlock ∧ some k_ ≠ (.slice Ao66 t1011.length co66 : Value).ownBlock ∧ some k_ ≠ (.slice Ao70 t1017.length co70 : Value).ownBlock ∧ some k_ ≠ (.slice Ao74 t1020.length co74 : Value).ownBlock) (.slice Ao60 t1004.length co60) t1004) := ⟨by (with_reducible repeat (first | apply Kd.R_alloc | apply Kd.R_drewN | apply Kd.R_drew)); exact Kd.R_mono (Kd.R_far (p := ⟨gb1025, 1, none⟩) (Kd.R_far (p := ⟨gb1025, 0, none⟩) (Kd.R_types HO1006.out BK1025.out (by decide)) (fun _ hk => hk.2) (.slice Ao70 t1017.length co70)) (fun _ hk => hk.2) (.slice Ao74 t1020.length co74)) (fun _ hk => ⟨hk.1.1.1.1.1, ⟨hk.1.1.1.1.2, ⟨hk.1.1.1.2, ⟨hk.1.1.2, hk.1.2⟩⟩⟩⟩)⟩
              have n2_ : Aside0 (Kd.R (Kd.int .i64) 3 ((w69.setCell ⟨gb1025, 0, none⟩ (.slice Ao70 t1017.length co70)).setCell ⟨gb1025, 1, none⟩ (.slice Ao74 t1020.length co74)) w.heap.size (fun k_ => some k_ ≠ (.slice Ao58 t1001.length co58 : Value).ownBlock ∧ some k_ ≠ (.slice Ao60 t1004.length co60 : Value).ownBlock ∧ some k_ ≠ (.slice Ao66 t1011.length co66 : Value).ownBlock ∧ some k_ ≠ (.slice Ao70 t1017.length co70 : Value).ownBlock ∧ some k_ ≠ (.slice Ao74 t1020.length co74 : Value).ownBlock) (.slice Ao63 t1008.length co63) t1008) := ⟨by (with_reducible repeat (first | apply Kd.R_alloc | apply Kd.R_drewN | apply Kd.R_drew)); exact Kd.R_mono (Kd.R_far (p := ⟨gb1025, 1, none⟩) (Kd.R_far (p := ⟨gb1025, 0, none⟩) (Kd.R_types HO1010.out BK1025.out (by decide)) (fun _ hk => hk.2) (.slice Ao70 t1017.length co70)) (fun _ hk => hk.2) (.slice Ao74 t1020.length co74)) (fun _ hk => ⟨hk.1.1.1.1.2, ⟨hk.1.1.1.2, ⟨hk.1.1.1.1.1, ⟨hk.1.1.2, hk.1.2⟩⟩⟩⟩)⟩
              have n3_ : Aside0 (Kd.R (Kd.int .i64) 3 ((w69.setCell ⟨gb1025, 0, none⟩ (.slice Ao70 t1017.length co70)).setCell ⟨gb1025, 1, none⟩ (.slice Ao74 t1020.length co74)) w.heap.size (fun k_ => some k_ ≠ (.slice Ao58 t1001.length co58 : Value).ownBlock ∧ some k_ ≠ (.slice Ao60 t1004.length co60 : Value).ownBlock ∧ some k_ ≠ (.slice Ao63 t1008.length co63 : Value).ownBlock ∧ some k_ ≠ (.slice Ao70 t1017.length co70 : Value).ownBlock ∧ some k_ ≠ (.slice Ao74 t1020.length co74 : Value).ownBlock) (.slice Ao66 t1011.length co66) t1011) := ⟨by (with_reducible repeat (first | apply Kd.R_alloc | apply Kd.R_drewN | apply Kd.R_drew)); exact Kd.R_mono (Kd.R_far (p := ⟨gb1025, 1, none⟩) (Kd.R_far (p := ⟨gb1025, 0, none⟩) (Kd.R_types HO1013.out BK1025.out (by decide)) (fun _ hk => hk.2) (.slice Ao70 t1017.length co70)) (fun _ hk => hk.2) (.slice Ao74 t1020.length co74)) (fun _ hk => ⟨hk.1.1.1.1.2, ⟨hk.1.1.1.2, ⟨hk.1.1.1.1.1, ⟨hk.1.1.2, hk.1.2⟩⟩⟩⟩)⟩
              have n4_ : Aside0 (Kd.R (Kd.int .i64) 3 ((w69.setCell ⟨gb1025, 0, none⟩ (.slice Ao70 t1017.length co70)).setCell ⟨gb1025, 1, none⟩ (.slice Ao74 t1020.length co74)) w.heap.size (fun k_ => some k_ ≠ (.slice Ao58 t1001.length co58 : Value).ownBlock ∧ some k_ ≠ (.slice Ao60 t1004.length co60 : Value).ownBlock ∧ some k_ ≠ (.slice Ao63 t1008.length co63 : Value).ownBlock ∧ some k_ ≠ (.slice Ao66 t1011.length co66 : Value).ownBlock ∧ some k_ ≠ (.slice Ao74 t1020.length co74 : Value).ownBlock) (.slice Ao70 t1017.length co70) t1017) := ⟨by (with_reducible repeat (first | apply Kd.R_alloc | apply Kd.R_drewN | apply Kd.R_drew)); exact Kd.R_mono (Kd.R_far (p := ⟨gb1025, 1, none⟩) (Kd.R_far (p := ⟨gb1025, 0, none⟩) (Kd.R_types HO1019.out BK1025.out (by decide)) (fun _ hk => hk.2) (.slice Ao70 t1017.length co70)) (fun _ hk => hk.2) (.slice Ao74 t1020.length co74)) (fun _ hk => ⟨hk.1.1.1.1.2, ⟨hk.1.1.1.2, ⟨hk.1.1.2, ⟨hk.1.2, hk.1.1.1.1.1⟩⟩⟩⟩)⟩
              have n5_ : Aside0 (Kd.R (Kd.int .i64) 3 ((w69.setCell ⟨gb1025, 0, none⟩ (.slice Ao70 t1017.length co70)).setCell ⟨gb1025, 1, none⟩ (.slice Ao74 t1020.length co74)) w.heap.size (fun k_ => some k_ ≠ (.slice Ao58 t1001.length co58 : Value).ownBlock ∧ some k_ ≠ (.slice Ao60 t1004.length co60 : Value).ownBlock ∧ some k_ ≠ (.slice Ao63 t1008.length co63 : Value).ownBlock ∧ some k_ ≠ (.slice Ao66 t1011.length co66 : Value).ownBlock ∧ some k_ ≠ (.slice Ao70 t1017.length co70 : Value).ownBlock) (.slice Ao74 t1020.length co74) t1020) := ⟨by (with_reducible repeat (first | apply Kd.R_alloc | apply Kd.R_drewN | apply Kd.R_drew)); exact Kd.R_mono (Kd.R_far (p := ⟨gb1025, 1, none⟩) (Kd.R_far (p := ⟨gb1025, 0, none⟩) (Kd.R_types HO1022.out BK1025.out (by decide)) (fun _ hk => hk.2) (.slice Ao70 t1017.length co70)) (fun _ hk => hk.2) (.slice Ao74 t1020.length co74)) (fun _ hk => ⟨hk.1.1.1.1.2, ⟨hk.1.1.1.2, ⟨hk.1.1.2, ⟨hk.1.2, hk.1.1.1.1.1⟩⟩⟩⟩)⟩
              have n6_ : Aside0 (((w69.setCell ⟨gb1025, 0, none⟩ (.slice Ao70 t1017.length co70)).setCell ⟨gb1025, 1, none⟩ (.slice Ao74 t1020.length co74)).heap[gb1007]? = some (.cells #[.slice Ao58 t1001.length co58, .slice Ao60 t1004.length co60] 40 (0, 0))) := ⟨TS⟩
              have n7_ : Aside0 (((w69.setCell ⟨gb1025, 0, none⟩ (.slice Ao70 t1017.length co70)).setCell ⟨gb1025, 1, none⟩ (.slice Ao74 t1020.length co74)).heap[gb1016]? = some (.cells #[.slice Ao63 t1008.length co63, .slice Ao66 t1011.length co66] 40 (0, 0))) := ⟨TS⟩
              have n8_ : Aside0 (((w69.setCell ⟨gb1025, 0, none⟩ (.slice Ao70 t1017.length co70)).setCell ⟨gb1025, 1, none⟩ (.slice Ao74 t1020.length co74)).heap[gb1025]? = some (.cells #[.slice Ao70 t1017.length co70, .slice Ao74 t1020.length co74] 40 (0, 0))) := ⟨TS⟩
              have n9_ : Aside0 (Below w.heap.size w ((w69.setCell ⟨gb1025, 0, none⟩ (.slice Ao70 t1017.length co70)).setCell ⟨gb1025, 1, none⟩ (.slice Ao74 t1020.length co74))) := ⟨TB⟩
              (try clear HO1003)
              (try clear HO1006)
              (try clear HO1010)
              (try clear HO1013)
              (try clear HO1019)
              (try clear HO1022)
              (try clear BK1007)
              (try clear BK1016)
              (try clear BK1025)
              (try clear HB)
              generalize ((w69.setCell ⟨gb1025, 0, none⟩ (.slice Ao70 t1017.length co70)).setCell ⟨gb1025, 1, none⟩ (.slice Ao74 t1020.length co74)) = w87 at n0_ n1_ n2_ n3_ n4_ n5_ n6_ n7_ n8_ n9_ ⊢
              have HO1003 := n0_
              have HO1006 := n1_
              have HO1010 := n2_
              have HO1013 := n3_
              have HO1019 := n4_
              have HO1022 := n5_
              have BK1007 := n6_
              have BK1016 := n7_
              have BK1025 := n8_
              have HB := n9_
              clear n0_ n1_ n2_ n3_ n4_ n5_ n6_ n7_ n8_ n9_
              replace HO1003 := Aside0.mk (Kd.R_drew HO1003.out)
              replace HO1006 := Aside0.mk (Kd.R_drew HO1006.out)
              replace HO1010 := Aside0.mk (Kd.R_drew HO1010.out)
              replace HO1013 := Aside0.mk (Kd.R_drew HO1013.out)
              replace HO1019 := Aside0.mk (Kd.R_drew HO1019.out)
              replace HO1022 := Aside0.mk (Kd.R_drew HO1022.out)
              replace BK1007 := Aside0.mk (blk_drew BK1007.out)
              replace BK1016 := Aside0.mk (blk_drew BK1016.out)
              replace BK1025 := Aside0.mk (blk_drew BK1025.out)
              replace HB := Aside0.mk (below_drew1 HB.out)
              refine start_ (n := 23) (S := fun w' => w'.cell? ⟨gb1016, 0, none⟩ = some (.slice Ao63 t1008.length co63) ∧ w'.cell? ⟨gb1016, 1, none⟩ = some (.slice Ao66 t1011.length co66) ∧ w'.cell? ⟨gb1025, 0, none⟩ = some (.slice Ao70 t1017.length co70) ∧ w'.cell? ⟨gb1025, 1, none⟩ = some (.slice Ao74 t1020.length co74)) (ds := []) #[false, false, false, false, false, false, false, false, false, false, false, false, false, false, false, false, false, false, false, false, false, false, false] KR rfl rfl ⟨bc 0 BK1016, bc 1 BK1016, bc 0 BK1025, bc 1 BK1025⟩ (fun hHeld => ?_); refine with_tabW laws_FnTurns.tab33 laws_FnTurns.bits33 (fun HT_ HW_ => ?_)
              generalize w87.drew = w88 at HO1003 HO1006 HO1010 HO1013 HO1019 HO1022 BK1007 BK1016 BK1025 HB hHeld ⊢
              refine pA 0 136 (mL 23 1) HT_ rfl rfl ?_
              refine pA 1 137 (mL 23 3) HT_ rfl rfl ?_
              refine pA 2 138 (mL 23 7) HT_ rfl rfl ?_
              refine pA 3 139 (mL 23 15) HT_ rfl rfl ?_
              refine pA 4 140 (mL 23 31) HT_ rfl rfl ?_
              refine pA 5 141 (mL 23 63) HT_ rfl rfl ?_
              refine pA 6 142 (mL 23 127) HT_ rfl rfl ?_
              refine pA 7 143 (mL 23 255) HT_ rfl rfl ?_
              refine pA 8 144 (mL 23 511) HT_ rfl rfl ?_
              refine pA 9 145 (mL 23 1023) HT_ rfl rfl ?_
              refine pA 11 147 (mL 23 3071) HT_ rfl rfl ?_
              refine tA 10 146 (mL 23 4095) HT_ HW_ hHeld rfl rfl (by rintro w' ⟨s0, s1, s2, s3⟩; go_simp; with_reducible rfl) ?_
              refine tA 12 148 (mL 23 8191) HT_ HW_ hHeld rfl rfl (by rintro w' ⟨s0, s1, s2, s3⟩; go_simp; with_reducible rfl) ?_
              refine one_ (i := 13) (N := some 149) (mL 23 16383) rfl rfl (one_of HT_.out KR) (by decide) (fun K hK => ?_)
              refine goes_ Try.func48 KR rfl #[.slice Ao66 t1011.length co66, .slice Ao74 t1020.length co74] (by rfl) rfl rfl TA ?_
              with_reducible refine (laws_sameInts.calls kj16 _ _ t1011 _ _ t1020 false _ ?side1 ?side2 ?side3 ?side4 A79.out).mono ?_
              (case side1 => exact CW ((Kd.R_reads' HO1013.out).2.2))
              (case side2 => exact RI HO1013)
              (case side3 => exact CW ((Kd.R_reads' HO1022.out).2.2))
              (case side4 => exact RI HO1022)
              rintro e w' ⟨rfl, ⟨nd, rfl⟩⟩
              refine ⟨_, rfl, ?_⟩
              refine hK.out _ _ ⟨bc 0 BK1016, bc 1 BK1016, bc 0 BK1025, bc 1 BK1025⟩ (fun hHeld => ?_)
              clear hK K
              refine nA ?_
              refine pA 14 150 (mL 23 32767) HT_ rfl rfl ?_
              refine pA 15 151 (mL 23 65535) HT_ rfl rfl ?_
              refine pA 16 152 (mL 23 131071) HT_ rfl rfl ?_
              refine pU 17 153 (mL 23 262143) HT_ rfl rfl ?_
              refine pU 18 154 (mL 23 524287) HT_ rfl rfl ?_
              refine pU 19 155 (mL 23 1048575) HT_ rfl rfl ?_
              refine pU 20 156 (mL 23 2097151) HT_ rfl rfl ?_
              refine pU 21 157 (mL 23 4194303) HT_ rfl rfl ?_
              refine pA 22 158 (mL 23 8388607) HT_ rfl rfl ?_
              refine done_ (done_of HT_.out KR) ?_
              try go_wp2
              go_meet
              case rel => exact ⟨_, (true), TF, H', ⟨by have := HJ6.out; have := HJ16.out; first | omega | exact Nat.le_refl _⟩, RW HO1003, RW HO1006, RW HO1010, RW HO1013, RW HO1019, RW HO1022, KW BK1007, KW BK1016, KW BK1025, ⟨TB⟩⟩
            ·rw [if_neg c78] at H
             have c78b0 : (t1014 == t1023) = false := beq_eq_false_iff_ne.mpr c78
             have c78b1 : (t1014 != t1023) = true := bne_iff_ne.mpr c78
             have H' := Aside0.mk H
             clear H
             try go_wp2
             have n0_ : Aside0 (Kd.R (Kd.int .i64) 3 ((w69.setCell ⟨gb1025, 0, none⟩ (.slice Ao70 t1017.length co70)).setCell ⟨gb1025, 1, none⟩ (.slice Ao74 t1020.length co74)) w.heap.size (fun k_ => some k_ ≠ (.slice Ao60 t1004.length co60 : Value).ownBlock ∧ some k_ ≠ (.slice Ao63 t1008.length co63 : Value).ownBlock ∧ some k_ ≠ (.slice Ao66 t1011.length co66 : Value).ownBlock ∧ some k_ ≠ (.slice Ao70 t1017.length co70 : Value).ownBlock ∧ some k_ ≠ (.slice Ao74 t1020.length co74 : Value).ownBlock) (.slice Ao58 t1001.length co58) t1001) := ⟨by (with_reducible repeat (first | apply Kd.R_alloc | apply Kd.R_drewN | apply Kd.R_drew)); exact Kd.R_mono (Kd.R_far (p := ⟨gb1025, 1, none⟩) (Kd.R_far (p := ⟨gb1025, 0, none⟩) (Kd.R_types HO1003.out BK1025.out (by decide)) (fun _ hk => hk.2) (.slice Ao70 t1017.length co70)) (fun _ hk => hk.2) (.slice Ao74 t1020.length co74)) (fun _ hk => ⟨hk.1.1.1.1.1, ⟨hk.1.1.1.1.2, ⟨hk.1.1.1.2, ⟨hk.1.1.2, hk.1.2⟩⟩⟩⟩)⟩
             have n1_ : Aside0 (Kd.R (Kd.int .i64) 3 ((w69.setCell ⟨gb1025, 0, none⟩ (.slice Ao70 t1017.length co70)).setCell ⟨gb1025, 1, none⟩ (.slice Ao74 t1020.length co74)) w.heap.size (fun k_ => some k_ ≠ (.slice Ao58 t1001.length co58 : Value).ownBlock ∧ some k_ ≠ (.slice Ao63 t1008.length co63 : Value).ownBlock ∧ some k_ ≠ (.slice Ao66 t1011.length co66 : Value).ownBlock ∧ some k_ ≠ (.slice Ao70 t1017.length co70 : Value).ownBlock ∧ some k_ ≠ (.slice Ao74 t1020.length co74 : Value).ownBlock) (.slice Ao60 t1004.length co60) t1004) := ⟨by (with_reducible repeat (first | apply Kd.R_alloc | apply Kd.R_drewN | apply Kd.R_drew)); exact Kd.R_mono (Kd.R_far (p := ⟨gb1025, 1, none⟩) (Kd.R_far (p := ⟨gb1025, 0, none⟩) (Kd.R_types HO1006.out BK1025.out (by decide)) (fun _ hk => hk.2) (.slice Ao70 t1017.length co70)) (fun _ hk => hk.2) (.slice Ao74 t1020.length co74)) (fun _ hk => ⟨hk.1.1.1.1.1, ⟨hk.1.1.1.1.2, ⟨hk.1.1.1.2, ⟨hk.1.1.2, hk.1.2⟩⟩⟩⟩)⟩
             have n2_ : Aside0 (Kd.R (Kd.int .i64) 3 ((w69.setCell ⟨gb1025, 0, none⟩ (.slice Ao70 t1017.length co70)).setCell ⟨gb1025, 1, none⟩ (.slice Ao74 t1020.length co74)) w.heap.size (fun k_ => some k_ ≠ (.slice Ao58 t1001.length co58 : Value).ownBlock ∧ some k_ ≠ (.slice Ao60 t1004.length co60 : Value).ownBlock ∧ some k_ ≠ (.slice Ao66 t1011.length co66 : Value).ownBlock ∧ some k_ ≠ (.slice Ao70 t1017.length co70 : Value).ownBlock ∧ some k_ ≠ (.slice Ao74 t1020.length co74 : Value).ownBlock) (.slice Ao63 t1008.length co63) t1008) := ⟨by (with_reducible repeat (first | apply Kd.R_alloc | apply Kd.R_drewN | apply Kd.R_drew)); exact Kd.R_mono (Kd.R_far (p := ⟨gb1025, 1, none⟩) (Kd.R_far (p := ⟨gb1025, 0, none⟩) (Kd.R_types HO1010.out BK1025.out (by decide)) (fun _ hk => hk.2) (.slice Ao70 t1017.length co70)) (fun _ hk => hk.2) (.slice Ao74 t1020.length co74)) (fun _ hk => ⟨hk.1.1.1.1.2, ⟨hk.1.1.1.2, ⟨hk.1.1.1.1.1, ⟨hk.1.1.2, hk.1.2⟩⟩⟩⟩)⟩
             have n3_ : Aside0 (Kd.R (Kd.int .i64) 3 ((w69.setCell ⟨gb1025, 0, none⟩ (.slice Ao70 t1017.length co70)).setCell ⟨gb1025, 1, none⟩ (.slice Ao74 t1020.length co74)) w.heap.size (fun k_ => some k_ ≠ (.slice Ao58 t1001.length co58 : Value).ownBlock ∧ some k_ ≠ (.slice Ao60 t1004.length co60 : Value).ownBlock ∧ some k_ ≠ (.slice Ao63 t1008.length co63 : Value).ownBlock ∧ some k_ ≠ (.slice Ao70 t1017.length co70 : Value).ownBlock ∧ some k_ ≠ (.slice Ao74 t1020.length co74 : Value).ownBlock) (.slice Ao66 t1011.length co66) t1011) := ⟨by (with_reducible repeat (first | apply Kd.R_alloc | apply Kd.R_drewN | apply Kd.R_drew)); exact Kd.R_mono (Kd.R_far (p := ⟨gb1025, 1, none⟩) (Kd.R_far (p := ⟨gb1025, 0, none⟩) (Kd.R_types HO1013.out BK1025.out (by decide)) (fun _ hk => hk.2) (.slice Ao70 t1017.length co70)) (fun _ hk => hk.2) (.slice Ao74 t1020.length co74)) (fun _ hk => ⟨hk.1.1.1.1.2, ⟨hk.1.1.1.2, ⟨hk.1.1.1.1.1, ⟨hk.1.1.2, hk.1.2⟩⟩⟩⟩)⟩
             have n4_ : Aside0 (Kd.R (Kd.int .i64) 3 ((w69.setCell ⟨gb1025, 0, none⟩ (.slice Ao70 t1017.length co70)).setCell ⟨gb1025, 1, none⟩ (.slice Ao74 t1020.length co74)) w.heap.size (fun k_ => some k_ ≠ (.slice Ao58 t1001.length co58 : Value).ownBlock ∧ some k_ ≠ (.slice Ao60 t1004.length co60 : Value).ownBlock ∧ some k_ ≠ (.slice Ao63 t1008.length co63 : Value).ownBlock ∧ some k_ ≠ (.slice Ao66 t1011.length co66 : Value).ownBlock ∧ some k_ ≠ (.slice Ao74 t1020.length co74 : Value).ownBlock) (.slice Ao70 t1017.length co70) t1017) := ⟨by (with_reducible repeat (first | apply Kd.R_alloc | apply Kd.R_drewN | apply Kd.R_drew)); exact Kd.R_mono (Kd.R_far (p := ⟨gb1025, 1, none⟩) (Kd.R_far (p := ⟨gb1025, 0, none⟩) (Kd.R_types HO1019.out BK1025.out (by decide)) (fun _ hk => hk.2) (.slice Ao70 t1017.length co70)) (fun _ hk => hk.2) (.slice Ao74 t1020.length co74)) (fun _ hk => ⟨hk.1.1.1.1.2, ⟨hk.1.1.1.2, ⟨hk.1.1.2, ⟨hk.1.2, hk.1.1.1.1.1⟩⟩⟩⟩)⟩
             have n5_ : Aside0 (Kd.R (Kd.int .i64) 3 ((w69.setCell ⟨gb1025, 0, none⟩ (.slice Ao70 t1017.length co70)).setCell ⟨gb1025, 1, none⟩ (.slice Ao74 t1020.length co74)) w.heap.size (fun k_ => some k_ ≠ (.slice Ao58 t1001.length co58 : Value).ownBlock ∧ some k_ ≠ (.slice Ao60 t1004.length co60 : Value).ownBlock ∧ some k_ ≠ (.slice Ao63 t1008.length co63 : Value).ownBlock ∧ some k_ ≠ (.slice Ao66 t1011.length co66 : Value).ownBlock ∧ some k_ ≠ (.slice Ao70 t1017.length co70 : Value).ownBlock) (.slice Ao74 t1020.length co74) t1020) := ⟨by (with_reducible repeat (first | apply Kd.R_alloc | apply Kd.R_drewN | apply Kd.R_drew)); exact Kd.R_mono (Kd.R_far (p := ⟨gb1025, 1, none⟩) (Kd.R_far (p := ⟨gb1025, 0, none⟩) (Kd.R_types HO1022.out BK1025.out (by decide)) (fun _ hk => hk.2) (.slice Ao70 t1017.length co70)) (fun _ hk => hk.2) (.slice Ao74 t1020.length co74)) (fun _ hk => ⟨hk.1.1.1.1.2, ⟨hk.1.1.1.2, ⟨hk.1.1.2, ⟨hk.1.2, hk.1.1.1.1.1⟩⟩⟩⟩)⟩
             have n6_ : Aside0 (((w69.setCell ⟨gb1025, 0, none⟩ (.slice Ao70 t1017.length co70)).setCell ⟨gb1025, 1, none⟩ (.slice Ao74 t1020.length co74)).heap[gb1007]? = some (.cells #[.slice Ao58 t1001.length co58, .slice Ao60 t1004.length co60] 40 (0, 0))) := ⟨TS⟩
             have n7_ : Aside0 (((w69.setCell ⟨gb1025, 0, none⟩ (.slice Ao70 t1017.length co70)).setCell ⟨gb1025, 1, none⟩ (.slice Ao74 t1020.length co74)).heap[gb1016]? = some (.cells #[.slice Ao63 t1008.length co63, .slice Ao66 t1011.length co66] 40 (0, 0))) := ⟨TS⟩
             have n8_ : Aside0 (((w69.setCell ⟨gb1025, 0, none⟩ (.slice Ao70 t1017.length co70)).setCell ⟨gb1025, 1, none⟩ (.slice Ao74 t1020.length co74)).heap[gb1025]? = some (.cells #[.slice Ao70 t1017.length co70, .slice Ao74 t1020.length co74] 40 (0, 0))) := ⟨TS⟩
             have n9_ : Aside0 (Below w.heap.size w ((w69.setCell ⟨gb1025, 0, none⟩ (.slice Ao70 t1017.length co70)).setCell ⟨gb1025, 1, none⟩ (.slice Ao74 t1020.length co74))) := ⟨TB⟩
             (try clear HO1003)
             (try clear HO1006)
             (try clear HO1010)
             (try clear HO1013)
             (try clear HO1019)
             (try clear HO1022)
             (try clear BK1007)
             (try clear BK1016)
             (try clear BK1025)
             (try clear HB)
             generalize ((w69.setCell ⟨gb1025, 0, none⟩ (.slice Ao70 t1017.length co70)).setCell ⟨gb1025, 1, none⟩ (.slice Ao74 t1020.length co74)) = w89 at n0_ n1_ n2_ n3_ n4_ n5_ n6_ n7_ n8_ n9_ ⊢
             have HO1003 := n0_
             have HO1006 := n1_
             have HO1010 := n2_
             have HO1013 := n3_
             have HO1019 := n4_
             have HO1022 := n5_
             have BK1007 := n6_
             have BK1016 := n7_
             have BK1025 := n8_
             have HB := n9_
             clear n0_ n1_ n2_ n3_ n4_ n5_ n6_ n7_ n8_ n9_
             replace HO1003 := Aside0.mk (Kd.R_drew HO1003.out)
             replace HO1006 := Aside0.mk (Kd.R_drew HO1006.out)
             replace HO1010 := Aside0.mk (Kd.R_drew HO1010.out)
             replace HO1013 := Aside0.mk (Kd.R_drew HO1013.out)
             replace HO1019 := Aside0.mk (Kd.R_drew HO1019.out)
             replace HO1022 := Aside0.mk (Kd.R_drew HO1022.out)
             replace BK1007 := Aside0.mk (blk_drew BK1007.out)
             replace BK1016 := Aside0.mk (blk_drew BK1016.out)
             replace BK1025 := Aside0.mk (blk_drew BK1025.out)
             replace HB := Aside0.mk (below_drew1 HB.out)
             refine start_ (n := 23) (S := fun w' => True) (ds := []) #[false, false, false, false, false, false, false, false, false, false, false, false, false, false, false, false, false, false, false, false, false, false, false] KR rfl rfl trivial (fun hHeld => ?_); refine with_tabW laws_FnTurns.tab33 laws_FnTurns.bits33 (fun HT_ HW_ => ?_)
             generalize w89.drew = w90 at HO1003 HO1006 HO1010 HO1013 HO1019 HO1022 BK1007 BK1016 BK1025 HB hHeld ⊢
             refine pA 0 136 (mL 23 1) HT_ rfl rfl ?_
             refine pA 1 137 (mL 23 3) HT_ rfl rfl ?_
             refine pA 2 138 (mL 23 7) HT_ rfl rfl ?_
             refine pA 3 139 (mL 23 15) HT_ rfl rfl ?_
             refine pA 4 140 (mL 23 31) HT_ rfl rfl ?_
             refine pA 5 141 (mL 23 63) HT_ rfl rfl ?_
             refine pA 6 142 (mL 23 127) HT_ rfl rfl ?_
             refine pA 7 143 (mL 23 255) HT_ rfl rfl ?_
             refine pA 8 144 (mL 23 511) HT_ rfl rfl ?_
             refine pU 9 145 (mL 23 1023) HT_ rfl rfl ?_
             refine pU 10 146 (mL 23 2047) HT_ rfl rfl ?_
             refine pU 11 147 (mL 23 4095) HT_ rfl rfl ?_
             refine pU 12 148 (mL 23 8191) HT_ rfl rfl ?_
             refine pU 13 149 (mL 23 16383) HT_ rfl rfl ?_
             refine pU 14 150 (mL 23 32767) HT_ rfl rfl ?_
             refine pA 15 151 (mL 23 65535) HT_ rfl rfl ?_
             refine pA 16 152 (mL 23 131071) HT_ rfl rfl ?_
             refine pU 17 153 (mL 23 262143) HT_ rfl rfl ?_
             refine pU 18 154 (mL 23 524287) HT_ rfl rfl ?_
             refine pU 19 155 (mL 23 1048575) HT_ rfl rfl ?_
             refine pU 20 156 (mL 23 2097151) HT_ rfl rfl ?_
             refine pU 21 157 (mL 23 4194303) HT_ rfl rfl ?_
             refine pA 22 158 (mL 23 8388607) HT_ rfl rfl ?_
             refine done_ (done_of HT_.out KR) ?_
             try go_wp2
             go_meet
             case rel => exact ⟨_, (true), TF, H', ⟨by have := HJ6.out; have := HJ16.out; first | omega | exact Nat.le_refl _⟩, RW HO1003, RW HO1006, RW HO1010, RW HO1013, RW HO1019, RW HO1022, KW BK1007, KW BK1016, KW BK1025, ⟨TB⟩⟩
         case rest =>
          as_aux_lemma =>
           clear HC55
           obtain ⟨kq, x158_54, rfl, HA, HJ54, HO_1008000, HO_1008001, HO_1017000, HO_1017001, HO_1026000, HO_1026001, BK1007, BK1016, BK1025, HB⟩ := hcut
           cases kq with
           | zero => exact absurd HA.out (by simp [laws_FnTurns.j6])
           | succ kj54 =>
            have H := HA.out
            clear HA
            simp only [laws_FnTurns.j6] at H
            by_cases c91 : x158_54 = true
            ·subst c91
             replace H := ift H
             obtain rfl := Option.some.inj H
             go_wp2
             go_ret
             exact ⟨TE, TB⟩
            ·replace c91 := Bool.eq_false_iff.mpr c91
             subst c91
             replace H := iff' H
             obtain ⟨t1029, A92, H⟩ := bnd H
             obtain ⟨⟨t1032, t1035, t1038⟩, A93, H⟩ := bnd H
             try dsimp only at H
             obtain ⟨⟨t1040, t1043, t1046⟩, A94, H⟩ := bnd H
             try dsimp only at H
             by_cases c95 : (t1038 == t1046) = true
             ·rw [if_pos c95] at H
              have c95b0 : (t1038 == t1046) = true := c95
              (try (have c95b1 : decide (t1038 = t1046) = true := by simpa using c95))
              (try (have c95b2 : (t1038 == t1046) = true := by simpa using c95))
              clear c95
              obtain ⟨t1048, A96, H⟩ := bnd H
              by_cases c97 : t1048 = true
              ·subst c97
               replace H := ift H
               by_cases c98 : t1015 = true
               ·subst c98
                replace H := ift H
                obtain ⟨t1049, A99, H⟩ := bnd H
                obtain rfl := Option.some.inj H
                go_wp2_with (first | ((with_reducible refine gate_callee (f := 50) rfl ?_); refine goesL_ (some 160) rfl rfl Try.func50 KR rfl #[.slice A1 l1.length c1] rfl TA ?_; (with_reducible refine (spec_DrawNewTurn.calls kj54 _ _ l1 t1029 _ ?side1 ?side2 A92.out).mono ?_); (case side1 => exact CW ((Kd.C_below HR1.out HB.out))); (case side2 => exact HC1.out); rintro e w100 ⟨v1030, rfl, ho0, hb⟩; refine ⟨_, rfl, ?_⟩; have HO1031 := RL (NW (NW (NW (NW (NW (NW ho0 HO_1008000) HO_1008001) HO_1017000) HO_1017001) HO_1026000) HO_1026001); replace HO_1008000 := EL HO_1008000 ho0 hb; replace HO_1008001 := EL HO_1008001 ho0 hb; replace HO_1017000 := EL HO_1017000 ho0 hb; replace HO_1017001 := EL HO_1017001 ho0 hb; replace HO_1026000 := EL HO_1026000 ho0 hb; replace HO_1026001 := EL HO_1026001 ho0 hb; replace BK1007 := KB BK1007 hb; replace BK1016 := KB BK1016 hb; replace BK1025 := KB BK1025 hb; replace HB := BS hb; clear hb; (try clear ho0); obtain ⟨Ao101, co101, eo101⟩ := Kd.R_slice HO1031.out; subst eo101) | ((with_reducible refine gate_callee (f := 32) rfl ?_); refine goesL_ (some 163) rfl rfl Try.func32 KR rfl #[.slice Ao101 t1029.length co101] rfl TA ?_; (with_reducible refine (impl_NewTurn.calls kj54 _ _ t1029 t1032 t1035 t1038 _ ?side1 ?side2 A93.out).mono ?_); (case side1 => exact CW ((Kd.R_reads' HO1031.out).2.2)); (case side2 => exact RI HO1031); rintro e w102 ⟨v1033, v1036, rfl, ho0, ho1, hb⟩; refine ⟨_, rfl, ?_⟩; have HO1034 := RL (NW (NW (NW (NW (NW (NW (NW ho0 HO_1008000) HO_1008001) HO_1017000) HO_1017001) HO_1026000) HO_1026001) HO1031); have HO1037 := RL (NW (NW (NW (NW (NW (NW (NW ho1 HO_1008000) HO_1008001) HO_1017000) HO_1017001) HO_1026000) HO_1026001) HO1031); replace HO_1008000 := O2 HO_1008000 ho0 ho1 hb; replace HO_1008001 := O2 HO_1008001 ho0 ho1 hb; replace HO_1017000 := O2 HO_1017000 ho0 ho1 hb; replace HO_1017001 := O2 HO_1017001 ho0 ho1 hb; replace HO_1026000 := O2 HO_1026000 ho0 ho1 hb; replace HO_1026001 := O2 HO_1026001 ho0 ho1 hb; replace HO1031 := O2 HO1031 ho0 ho1 hb; replace BK1007 := KB BK1007 hb; replace BK1016 := KB BK1016 hb; replace BK1025 := KB BK1025 hb; replace HB := BS hb; clear hb; (try clear ho0); (try clear ho1)) | ((with_reducible refine gate_dst (N := 29) rfl ?_); refine bE 29 #[.slice none 0 0, .slice none 0 0] 40 ?_; intro gb1039 hg w103 hbox hb; replace HO_1008000 := RB HO_1008000 hb; replace HO_1008001 := RB HO_1008001 hb; replace HO_1017000 := RB HO_1017000 hb; replace HO_1017001 := RB HO_1017001 hb; replace HO_1026000 := RB HO_1026000 hb; replace HO_1026001 := RB HO_1026001 hb; replace HO1031 := RB HO1031 hb; replace HO1034 := RB HO1034 hb; replace HO1037 := RB HO1037 hb; have BK1039 := Aside0.mk (hbox); have GE1039 := bG hg; replace HB := BS hb; have NB1007_1039 := bN BK1007 hg; have NB1039_1007 := bM BK1007 hg; replace BK1007 := KB BK1007 hb; have NB1016_1039 := bN BK1016 hg; have NB1039_1016 := bM BK1016 hg; replace BK1016 := KB BK1016 hb; have NB1025_1039 := bN BK1025 hg; have NB1039_1025 := bM BK1025 hg; replace BK1025 := KB BK1025 hb; clear hb hbox hg; obtain ⟨Ao104, co104, eo104⟩ := Kd.R_slice HO1034.out; subst eo104; obtain ⟨hnb105, hnc105⟩ := nn NB1039_1007; obtain ⟨hnb106, hnc106⟩ := nn NB1039_1016; obtain ⟨hnb107, hnc107⟩ := nn NB1039_1025; have hcz108 := cz2 BK1039; obtain ⟨Ao109, co109, eo109⟩ := Kd.R_slice HO1037.out; subst eo109) | ((with_reducible refine gate_callee (f := 31) rfl ?_); refine goesL_ (some 168) rfl rfl Try.func31 KR rfl #[.slice Ao101 t1029.length co101] rfl TA ?_; (with_reducible refine (spec_NewTurn.calls kj54 _ _ t1029 t1040 t1043 t1046 _ ?side1 ?side2 A94.out).mono ?_); (case side1 => exact RC (RT HO1031 BK1039)); (case side2 => exact RI HO1031); rintro e w110 ⟨v1041, v1044, rfl, ho0, ho1, hb⟩; refine ⟨_, rfl, ?_⟩; have HO1042 := RL (NT (NT (NT (NT (NT (NT (NT (NT (NT ho0 HO_1008000 BK1039) HO_1008001 BK1039) HO_1017000 BK1039) HO_1017001 BK1039) HO_1026000 BK1039) HO_1026001 BK1039) HO1031 BK1039) HO1034 BK1039) HO1037 BK1039); have HO1045 := RL (NT (NT (NT (NT (NT (NT (NT (NT (NT ho1 HO_1008000 BK1039) HO_1008001 BK1039) HO_1017000 BK1039) HO_1017001 BK1039) HO_1026000 BK1039) HO_1026001 BK1039) HO1031 BK1039) HO1034 BK1039) HO1037 BK1039); replace HO_1008000 := Aside0.mk (Kd.R_mono (Kd.R_told (Kd.R_told (Kd.R_old (RT HO_1008000 BK1039).out hb) (Kd.R_base ho0)) (Kd.R_base ho1)) (fun _ h_ => h_.1)); replace HO_1008001 := Aside0.mk (Kd.R_mono (Kd.R_told (Kd.R_told (Kd.R_old (RT HO_1008001 BK1039).out hb) (Kd.R_base ho0)) (Kd.R_base ho1)) (fun _ h_ => h_.1)); replace HO_1017000 := Aside0.mk (Kd.R_mono (Kd.R_told (Kd.R_told (Kd.R_old (RT HO_1017000 BK1039).out hb) (Kd.R_base ho0)) (Kd.R_base ho1)) (fun _ h_ => h_.1)); replace HO_1017001 := Aside0.mk (Kd.R_mono (Kd.R_told (Kd.R_told (Kd.R_old (RT HO_1017001 BK1039).out hb) (Kd.R_base ho0)) (Kd.R_base ho1)) (fun _ h_ => h_.1)); replace HO_1026000 := Aside0.mk (Kd.R_mono (Kd.R_told (Kd.R_told (Kd.R_old (RT HO_1026000 BK1039).out hb) (Kd.R_base ho0)) (Kd.R_base ho1)) (fun _ h_ => h_.1)); replace HO_1026001 := Aside0.mk (Kd.R_mono (Kd.R_told (Kd.R_told (Kd.R_old (RT HO_1026001 BK1039).out hb) (Kd.R_base ho0)) (Kd.R_base ho1)) (fun _ h_ => h_.1)); replace HO1031 := Aside0.mk (Kd.R_mono (Kd.R_told (Kd.R_told (Kd.R_old (RT HO1031 BK1039).out hb) (Kd.R_base ho0)) (Kd.R_base ho1)) (fun _ h_ => h_.1)); replace HO1034 := Aside0.mk (Kd.R_mono (Kd.R_told (Kd.R_told (Kd.R_old (RT HO1034 BK1039).out hb) (Kd.R_base ho0)) (Kd.R_base ho1)) (fun _ h_ => h_.1)); replace HO1037 := Aside0.mk (Kd.R_mono (Kd.R_told (Kd.R_told (Kd.R_old (RT HO1037 BK1039).out hb) (Kd.R_base ho0)) (Kd.R_base ho1)) (fun _ h_ => h_.1)); replace BK1007 := KF BK1007 hb; replace BK1016 := KF BK1016 hb; replace BK1025 := KF BK1025 hb; replace BK1039 := KP BK1039 #[.slice Ao104 t1032.length co104, .slice Ao109 t1035.length co109] hb; replace HB := BS hb; clear hb; (try clear ho0); (try clear ho1)) | ((with_reducible refine gate_dst (N := 31) rfl ?_); refine bE 31 #[.slice none 0 0, .slice none 0 0] 40 ?_; intro gb1047 hg w111 hbox hb; replace HO_1008000 := RB HO_1008000 hb; replace HO_1008001 := RB HO_1008001 hb; replace HO_1017000 := RB HO_1017000 hb; replace HO_1017001 := RB HO_1017001 hb; replace HO_1026000 := RB HO_1026000 hb; replace HO_1026001 := RB HO_1026001 hb; replace HO1031 := RB HO1031 hb; replace HO1034 := RB HO1034 hb; replace HO1037 := RB HO1037 hb; replace HO1042 := RB HO1042 hb; replace HO1045 := RB HO1045 hb; have BK1047 := Aside0.mk (hbox); have GE1047 := bG hg; replace HB := BS hb; have NB1007_1047 := bN BK1007 hg; have NB1047_1007 := bM BK1007 hg; replace BK1007 := KB BK1007 hb; have NB1016_1047 := bN BK1016 hg; have NB1047_1016 := bM BK1016 hg; replace BK1016 := KB BK1016 hb; have NB1025_1047 := bN BK1025 hg; have NB1047_1025 := bM BK1025 hg; replace BK1025 := KB BK1025 hb; have NB1039_1047 := bN BK1039 hg; have NB1047_1039 := bM BK1039 hg; replace BK1039 := KB BK1039 hb; clear hb hbox hg; obtain ⟨Ao112, co112, eo112⟩ := Kd.R_slice HO1042.out; subst eo112; obtain ⟨hnb113, hnc113⟩ := nn NB1047_1007; obtain ⟨hnb114, hnc114⟩ := nn NB1047_1016; obtain ⟨hnb115, hnc115⟩ := nn NB1047_1025; obtain ⟨hnb116, hnc116⟩ := nn NB1047_1039; have hcz117 := cz2 BK1047; obtain ⟨Ao118, co118, eo118⟩ := Kd.R_slice HO1045.out; subst eo118; have hcz119 := cz2 BK1039) | (go_at_call 48; (with_reducible refine (laws_sameInts.calls kj54 _ _ t1035 _ _ t1043 true _ ?side1 ?side2 ?side3 ?side4 A96.out).mono ?_); (case side1 => exact RC (RT HO1037 BK1047)); (case side2 => exact RI HO1037); (case side3 => exact RC (RT HO1045 BK1047)); (case side4 => exact RI HO1045); rintro e w' ⟨rfl, ⟨nd, rfl⟩⟩; obtain ⟨hnb120, hnc120⟩ := nn NB1016_1007; obtain ⟨hnb121, hnc121⟩ := nn NB1016_1025; have hcz122 := cz2 BK1016) | (go_at_call 29; (with_reducible refine (impl_GoodTurn.calls kj54 _ _ t1008 _ _ t1011 t1049 _ ?side1 ?side2 ?side3 ?side4 A99.out).mono ?_); (case side1 => exact RC (RT HO_1017000 BK1047)); (case side2 => exact RI HO_1017000); (case side3 => exact RC (RT HO_1017001 BK1047)); (case side4 => exact RI HO_1017001); rintro e w123 ⟨rfl, hb⟩; replace HO_1008000 := RTB HO_1008000 BK1047 hb; replace HO_1008001 := RTB HO_1008001 BK1047 hb; replace HO_1017000 := RTB HO_1017000 BK1047 hb; replace HO_1017001 := RTB HO_1017001 BK1047 hb; replace HO_1026000 := RTB HO_1026000 BK1047 hb; replace HO_1026001 := RTB HO_1026001 BK1047 hb; replace HO1031 := RTB HO1031 BK1047 hb; replace HO1034 := RTB HO1034 BK1047 hb; replace HO1037 := RTB HO1037 BK1047 hb; replace HO1042 := RTB HO1042 BK1047 hb; replace HO1045 := RTB HO1045 BK1047 hb; replace BK1007 := KF BK1007 hb; replace BK1016 := KF BK1016 hb; replace BK1025 := KF BK1025 hb; replace BK1039 := KF BK1039 hb; replace BK1047 := KP BK1047 #[.slice Ao112 t1040.length co112, .slice Ao118 t1043.length co118] hb; replace HB := BS hb; clear hb))
                go_ret
                exact ⟨TE, TB⟩
               ·replace c98 := Bool.eq_false_iff.mpr c98
                subst c98
                replace H := iff' H
                obtain rfl := Option.some.inj H
                go_wp2_with (first | ((with_reducible refine gate_callee (f := 50) rfl ?_); refine goesL_ (some 160) rfl rfl Try.func50 KR rfl #[.slice A1 l1.length c1] rfl TA ?_; (with_reducible refine (spec_DrawNewTurn.calls kj54 _ _ l1 t1029 _ ?side1 ?side2 A92.out).mono ?_); (case side1 => exact CW ((Kd.C_below HR1.out HB.out))); (case side2 => exact HC1.out); rintro e w124 ⟨v1030, rfl, ho0, hb⟩; refine ⟨_, rfl, ?_⟩; have HO1031 := RL (NW (NW (NW (NW (NW (NW ho0 HO_1008000) HO_1008001) HO_1017000) HO_1017001) HO_1026000) HO_1026001); replace HO_1008000 := EL HO_1008000 ho0 hb; replace HO_1008001 := EL HO_1008001 ho0 hb; replace HO_1017000 := EL HO_1017000 ho0 hb; replace HO_1017001 := EL HO_1017001 ho0 hb; replace HO_1026000 := EL HO_1026000 ho0 hb; replace HO_1026001 := EL HO_1026001 ho0 hb; replace BK1007 := KB BK1007 hb; replace BK1016 := KB BK1016 hb; replace BK1025 := KB BK1025 hb; replace HB := BS hb; clear hb; (try clear ho0); obtain ⟨Ao125, co125, eo125⟩ := Kd.R_slice HO1031.out; subst eo125) | ((with_reducible refine gate_callee (f := 32) rfl ?_); refine goesL_ (some 163) rfl rfl Try.func32 KR rfl #[.slice Ao125 t1029.length co125] rfl TA ?_; (with_reducible refine (impl_NewTurn.calls kj54 _ _ t1029 t1032 t1035 t1038 _ ?side1 ?side2 A93.out).mono ?_); (case side1 => exact CW ((Kd.R_reads' HO1031.out).2.2)); (case side2 => exact RI HO1031); rintro e w126 ⟨v1033, v1036, rfl, ho0, ho1, hb⟩; refine ⟨_, rfl, ?_⟩; have HO1034 := RL (NW (NW (NW (NW (NW (NW (NW ho0 HO_1008000) HO_1008001) HO_1017000) HO_1017001) HO_1026000) HO_1026001) HO1031); have HO1037 := RL (NW (NW (NW (NW (NW (NW (NW ho1 HO_1008000) HO_1008001) HO_1017000) HO_1017001) HO_1026000) HO_1026001) HO1031); replace HO_1008000 := O2 HO_1008000 ho0 ho1 hb; replace HO_1008001 := O2 HO_1008001 ho0 ho1 hb; replace HO_1017000 := O2 HO_1017000 ho0 ho1 hb; replace HO_1017001 := O2 HO_1017001 ho0 ho1 hb; replace HO_1026000 := O2 HO_1026000 ho0 ho1 hb; replace HO_1026001 := O2 HO_1026001 ho0 ho1 hb; replace HO1031 := O2 HO1031 ho0 ho1 hb; replace BK1007 := KB BK1007 hb; replace BK1016 := KB BK1016 hb; replace BK1025 := KB BK1025 hb; replace HB := BS hb; clear hb; (try clear ho0); (try clear ho1)) | ((with_reducible refine gate_dst (N := 29) rfl ?_); refine bE 29 #[.slice none 0 0, .slice none 0 0] 40 ?_; intro gb1039 hg w127 hbox hb; replace HO_1008000 := RB HO_1008000 hb; replace HO_1008001 := RB HO_1008001 hb; replace HO_1017000 := RB HO_1017000 hb; replace HO_1017001 := RB HO_1017001 hb; replace HO_1026000 := RB HO_1026000 hb; replace HO_1026001 := RB HO_1026001 hb; replace HO1031 := RB HO1031 hb; replace HO1034 := RB HO1034 hb; replace HO1037 := RB HO1037 hb; have BK1039 := Aside0.mk (hbox); have GE1039 := bG hg; replace HB := BS hb; have NB1007_1039 := bN BK1007 hg; have NB1039_1007 := bM BK1007 hg; replace BK1007 := KB BK1007 hb; have NB1016_1039 := bN BK1016 hg; have NB1039_1016 := bM BK1016 hg; replace BK1016 := KB BK1016 hb; have NB1025_1039 := bN BK1025 hg; have NB1039_1025 := bM BK1025 hg; replace BK1025 := KB BK1025 hb; clear hb hbox hg; obtain ⟨Ao128, co128, eo128⟩ := Kd.R_slice HO1034.out; subst eo128; obtain ⟨hnb129, hnc129⟩ := nn NB1039_1007; obtain ⟨hnb130, hnc130⟩ := nn NB1039_1016; obtain ⟨hnb131, hnc131⟩ := nn NB1039_1025; have hcz132 := cz2 BK1039; obtain ⟨Ao133, co133, eo133⟩ := Kd.R_slice HO1037.out; subst eo133) | ((with_reducible refine gate_callee (f := 31) rfl ?_); refine goesL_ (some 168) rfl rfl Try.func31 KR rfl #[.slice Ao125 t1029.length co125] rfl TA ?_; (with_reducible refine (spec_NewTurn.calls kj54 _ _ t1029 t1040 t1043 t1046 _ ?side1 ?side2 A94.out).mono ?_); (case side1 => exact RC (RT HO1031 BK1039)); (case side2 => exact RI HO1031); rintro e w134 ⟨v1041, v1044, rfl, ho0, ho1, hb⟩; refine ⟨_, rfl, ?_⟩; have HO1042 := RL (NT (NT (NT (NT (NT (NT (NT (NT (NT ho0 HO_1008000 BK1039) HO_1008001 BK1039) HO_1017000 BK1039) HO_1017001 BK1039) HO_1026000 BK1039) HO_1026001 BK1039) HO1031 BK1039) HO1034 BK1039) HO1037 BK1039); have HO1045 := RL (NT (NT (NT (NT (NT (NT (NT (NT (NT ho1 HO_1008000 BK1039) HO_1008001 BK1039) HO_1017000 BK1039) HO_1017001 BK1039) HO_1026000 BK1039) HO_1026001 BK1039) HO1031 BK1039) HO1034 BK1039) HO1037 BK1039); replace HO_1008000 := Aside0.mk (Kd.R_mono (Kd.R_told (Kd.R_told (Kd.R_old (RT HO_1008000 BK1039).out hb) (Kd.R_base ho0)) (Kd.R_base ho1)) (fun _ h_ => h_.1)); replace HO_1008001 := Aside0.mk (Kd.R_mono (Kd.R_told (Kd.R_told (Kd.R_old (RT HO_1008001 BK1039).out hb) (Kd.R_base ho0)) (Kd.R_base ho1)) (fun _ h_ => h_.1)); replace HO_1017000 := Aside0.mk (Kd.R_mono (Kd.R_told (Kd.R_told (Kd.R_old (RT HO_1017000 BK1039).out hb) (Kd.R_base ho0)) (Kd.R_base ho1)) (fun _ h_ => h_.1)); replace HO_1017001 := Aside0.mk (Kd.R_mono (Kd.R_told (Kd.R_told (Kd.R_old (RT HO_1017001 BK1039).out hb) (Kd.R_base ho0)) (Kd.R_base ho1)) (fun _ h_ => h_.1)); replace HO_1026000 := Aside0.mk (Kd.R_mono (Kd.R_told (Kd.R_told (Kd.R_old (RT HO_1026000 BK1039).out hb) (Kd.R_base ho0)) (Kd.R_base ho1)) (fun _ h_ => h_.1)); replace HO_1026001 := Aside0.mk (Kd.R_mono (Kd.R_told (Kd.R_told (Kd.R_old (RT HO_1026001 BK1039).out hb) (Kd.R_base ho0)) (Kd.R_base ho1)) (fun _ h_ => h_.1)); replace HO1031 := Aside0.mk (Kd.R_mono (Kd.R_told (Kd.R_told (Kd.R_old (RT HO1031 BK1039).out hb) (Kd.R_base ho0)) (Kd.R_base ho1)) (fun _ h_ => h_.1)); replace HO1034 := Aside0.mk (Kd.R_mono (Kd.R_told (Kd.R_told (Kd.R_old (RT HO1034 BK1039).out hb) (Kd.R_base ho0)) (Kd.R_base ho1)) (fun _ h_ => h_.1)); replace HO1037 := Aside0.mk (Kd.R_mono (Kd.R_told (Kd.R_told (Kd.R_old (RT HO1037 BK1039).out hb) (Kd.R_base ho0)) (Kd.R_base ho1)) (fun _ h_ => h_.1)); replace BK1007 := KF BK1007 hb; replace BK1016 := KF BK1016 hb; replace BK1025 := KF BK1025 hb; replace BK1039 := KP BK1039 #[.slice Ao128 t1032.length co128, .slice Ao133 t1035.length co133] hb; replace HB := BS hb; clear hb; (try clear ho0); (try clear ho1)) | ((with_reducible refine gate_dst (N := 31) rfl ?_); refine bE 31 #[.slice none 0 0, .slice none 0 0] 40 ?_; intro gb1047 hg w135 hbox hb; replace HO_1008000 := RB HO_1008000 hb; replace HO_1008001 := RB HO_1008001 hb; replace HO_1017000 := RB HO_1017000 hb; replace HO_1017001 := RB HO_1017001 hb; replace HO_1026000 := RB HO_1026000 hb; replace HO_1026001 := RB HO_1026001 hb; replace HO1031 := RB HO1031 hb; replace HO1034 := RB HO1034 hb; replace HO1037 := RB HO1037 hb; replace HO1042 := RB HO1042 hb; replace HO1045 := RB HO1045 hb; have BK1047 := Aside0.mk (hbox); have GE1047 := bG hg; replace HB := BS hb; have NB1007_1047 := bN BK1007 hg; have NB1047_1007 := bM BK1007 hg; replace BK1007 := KB BK1007 hb; have NB1016_1047 := bN BK1016 hg; have NB1047_1016 := bM BK1016 hg; replace BK1016 := KB BK1016 hb; have NB1025_1047 := bN BK1025 hg; have NB1047_1025 := bM BK1025 hg; replace BK1025 := KB BK1025 hb; have NB1039_1047 := bN BK1039 hg; have NB1047_1039 := bM BK1039 hg; replace BK1039 := KB BK1039 hb; clear hb hbox hg; obtain ⟨Ao136, co136, eo136⟩ := Kd.R_slice HO1042.out; subst eo136; obtain ⟨hnb137, hnc137⟩ := nn NB1047_1007; obtain ⟨hnb138, hnc138⟩ := nn NB1047_1016; obtain ⟨hnb139, hnc139⟩ := nn NB1047_1025; obtain ⟨hnb140, hnc140⟩ := nn NB1047_1039; have hcz141 := cz2 BK1047; obtain ⟨Ao142, co142, eo142⟩ := Kd.R_slice HO1045.out; subst eo142; have hcz143 := cz2 BK1039) | (go_at_call 48; (with_reducible refine (laws_sameInts.calls kj54 _ _ t1035 _ _ t1043 true _ ?side1 ?side2 ?side3 ?side4 A96.out).mono ?_); (case side1 => exact RC (RT HO1037 BK1047)); (case side2 => exact RI HO1037); (case side3 => exact RC (RT HO1045 BK1047)); (case side4 => exact RI HO1045); rintro e w' ⟨rfl, ⟨nd, rfl⟩⟩))
                go_ret
                exact ⟨TE, TB⟩
              ·replace c97 := Bool.eq_false_iff.mpr c97
               subst c97
               replace H := iff' H
               obtain rfl := Option.some.inj H
               go_wp2_with (first | ((with_reducible refine gate_callee (f := 50) rfl ?_); refine goesL_ (some 160) rfl rfl Try.func50 KR rfl #[.slice A1 l1.length c1] rfl TA ?_; (with_reducible refine (spec_DrawNewTurn.calls kj54 _ _ l1 t1029 _ ?side1 ?side2 A92.out).mono ?_); (case side1 => exact CW ((Kd.C_below HR1.out HB.out))); (case side2 => exact HC1.out); rintro e w144 ⟨v1030, rfl, ho0, hb⟩; refine ⟨_, rfl, ?_⟩; have HO1031 := RL (NW (NW (NW (NW (NW (NW ho0 HO_1008000) HO_1008001) HO_1017000) HO_1017001) HO_1026000) HO_1026001); replace HO_1008000 := EL HO_1008000 ho0 hb; replace HO_1008001 := EL HO_1008001 ho0 hb; replace HO_1017000 := EL HO_1017000 ho0 hb; replace HO_1017001 := EL HO_1017001 ho0 hb; replace HO_1026000 := EL HO_1026000 ho0 hb; replace HO_1026001 := EL HO_1026001 ho0 hb; replace BK1007 := KB BK1007 hb; replace BK1016 := KB BK1016 hb; replace BK1025 := KB BK1025 hb; replace HB := BS hb; clear hb; (try clear ho0); obtain ⟨Ao145, co145, eo145⟩ := Kd.R_slice HO1031.out; subst eo145) | ((with_reducible refine gate_callee (f := 32) rfl ?_); refine goesL_ (some 163) rfl rfl Try.func32 KR rfl #[.slice Ao145 t1029.length co145] rfl TA ?_; (with_reducible refine (impl_NewTurn.calls kj54 _ _ t1029 t1032 t1035 t1038 _ ?side1 ?side2 A93.out).mono ?_); (case side1 => exact CW ((Kd.R_reads' HO1031.out).2.2)); (case side2 => exact RI HO1031); rintro e w146 ⟨v1033, v1036, rfl, ho0, ho1, hb⟩; refine ⟨_, rfl, ?_⟩; have HO1034 := RL (NW (NW (NW (NW (NW (NW (NW ho0 HO_1008000) HO_1008001) HO_1017000) HO_1017001) HO_1026000) HO_1026001) HO1031); have HO1037 := RL (NW (NW (NW (NW (NW (NW (NW ho1 HO_1008000) HO_1008001) HO_1017000) HO_1017001) HO_1026000) HO_1026001) HO1031); replace HO_1008000 := O2 HO_1008000 ho0 ho1 hb; replace HO_1008001 := O2 HO_1008001 ho0 ho1 hb; replace HO_1017000 := O2 HO_1017000 ho0 ho1 hb; replace HO_1017001 := O2 HO_1017001 ho0 ho1 hb; replace HO_1026000 := O2 HO_1026000 ho0 ho1 hb; replace HO_1026001 := O2 HO_1026001 ho0 ho1 hb; replace HO1031 := O2 HO1031 ho0 ho1 hb; replace BK1007 := KB BK1007 hb; replace BK1016 := KB BK1016 hb; replace BK1025 := KB BK1025 hb; replace HB := BS hb; clear hb; (try clear ho0); (try clear ho1)) | ((with_reducible refine gate_dst (N := 29) rfl ?_); refine bE 29 #[.slice none 0 0, .slice none 0 0] 40 ?_; intro gb1039 hg w147 hbox hb; replace HO_1008000 := RB HO_1008000 hb; replace HO_1008001 := RB HO_1008001 hb; replace HO_1017000 := RB HO_1017000 hb; replace HO_1017001 := RB HO_1017001 hb; replace HO_1026000 := RB HO_1026000 hb; replace HO_1026001 := RB HO_1026001 hb; replace HO1031 := RB HO1031 hb; replace HO1034 := RB HO1034 hb; replace HO1037 := RB HO1037 hb; have BK1039 := Aside0.mk (hbox); have GE1039 := bG hg; replace HB := BS hb; have NB1007_1039 := bN BK1007 hg; have NB1039_1007 := bM BK1007 hg; replace BK1007 := KB BK1007 hb; have NB1016_1039 := bN BK1016 hg; have NB1039_1016 := bM BK1016 hg; replace BK1016 := KB BK1016 hb; have NB1025_1039 := bN BK1025 hg; have NB1039_1025 := bM BK1025 hg; replace BK1025 := KB BK1025 hb; clear hb hbox hg; obtain ⟨Ao148, co148, eo148⟩ := Kd.R_slice HO1034.out; subst eo148; obtain ⟨hnb149, hnc149⟩ := nn NB1039_1007; obtain ⟨hnb150, hnc150⟩ := nn NB1039_1016; obtain ⟨hnb151, hnc151⟩ := nn NB1039_1025; have hcz152 := cz2 BK1039; obtain ⟨Ao153, co153, eo153⟩ := Kd.R_slice HO1037.out; subst eo153) | ((with_reducible refine gate_callee (f := 31) rfl ?_); refine goesL_ (some 168) rfl rfl Try.func31 KR rfl #[.slice Ao145 t1029.length co145] rfl TA ?_; (with_reducible refine (spec_NewTurn.calls kj54 _ _ t1029 t1040 t1043 t1046 _ ?side1 ?side2 A94.out).mono ?_); (case side1 => exact RC (RT HO1031 BK1039)); (case side2 => exact RI HO1031); rintro e w154 ⟨v1041, v1044, rfl, ho0, ho1, hb⟩; refine ⟨_, rfl, ?_⟩; have HO1042 := RL (NT (NT (NT (NT (NT (NT (NT (NT (NT ho0 HO_1008000 BK1039) HO_1008001 BK1039) HO_1017000 BK1039) HO_1017001 BK1039) HO_1026000 BK1039) HO_1026001 BK1039) HO1031 BK1039) HO1034 BK1039) HO1037 BK1039); have HO1045 := RL (NT (NT (NT (NT (NT (NT (NT (NT (NT ho1 HO_1008000 BK1039) HO_1008001 BK1039) HO_1017000 BK1039) HO_1017001 BK1039) HO_1026000 BK1039) HO_1026001 BK1039) HO1031 BK1039) HO1034 BK1039) HO1037 BK1039); replace HO_1008000 := Aside0.mk (Kd.R_mono (Kd.R_told (Kd.R_told (Kd.R_old (RT HO_1008000 BK1039).out hb) (Kd.R_base ho0)) (Kd.R_base ho1)) (fun _ h_ => h_.1)); replace HO_1008001 := Aside0.mk (Kd.R_mono (Kd.R_told (Kd.R_told (Kd.R_old (RT HO_1008001 BK1039).out hb) (Kd.R_base ho0)) (Kd.R_base ho1)) (fun _ h_ => h_.1)); replace HO_1017000 := Aside0.mk (Kd.R_mono (Kd.R_told (Kd.R_told (Kd.R_old (RT HO_1017000 BK1039).out hb) (Kd.R_base ho0)) (Kd.R_base ho1)) (fun _ h_ => h_.1)); replace HO_1017001 := Aside0.mk (Kd.R_mono (Kd.R_told (Kd.R_told (Kd.R_old (RT HO_1017001 BK1039).out hb) (Kd.R_base ho0)) (Kd.R_base ho1)) (fun _ h_ => h_.1)); replace HO_1026000 := Aside0.mk (Kd.R_mono (Kd.R_told (Kd.R_told (Kd.R_old (RT HO_1026000 BK1039).out hb) (Kd.R_base ho0)) (Kd.R_base ho1)) (fun _ h_ => h_.1)); replace HO_1026001 := Aside0.mk (Kd.R_mono (Kd.R_told (Kd.R_told (Kd.R_old (RT HO_1026001 BK1039).out hb) (Kd.R_base ho0)) (Kd.R_base ho1)) (fun _ h_ => h_.1)); replace HO1031 := Aside0.mk (Kd.R_mono (Kd.R_told (Kd.R_told (Kd.R_old (RT HO1031 BK1039).out hb) (Kd.R_base ho0)) (Kd.R_base ho1)) (fun _ h_ => h_.1)); replace HO1034 := Aside0.mk (Kd.R_mono (Kd.R_told (Kd.R_told (Kd.R_old (RT HO1034 BK1039).out hb) (Kd.R_base ho0)) (Kd.R_base ho1)) (fun _ h_ => h_.1)); replace HO1037 := Aside0.mk (Kd.R_mono (Kd.R_told (Kd.R_told (Kd.R_old (RT HO1037 BK1039).out hb) (Kd.R_base ho0)) (Kd.R_base ho1)) (fun _ h_ => h_.1)); replace BK1007 := KF BK1007 hb; replace BK1016 := KF BK1016 hb; replace BK1025 := KF BK1025 hb; replace BK1039 := KP BK1039 #[.slice Ao148 t1032.length co148, .slice Ao153 t1035.length co153] hb; replace HB := BS hb; clear hb; (try clear ho0); (try clear ho1)) | ((with_reducible refine gate_dst (N := 31) rfl ?_); refine bE 31 #[.slice none 0 0, .slice none 0 0] 40 ?_; intro gb1047 hg w155 hbox hb; replace HO_1008000 := RB HO_1008000 hb; replace HO_1008001 := RB HO_1008001 hb; replace HO_1017000 := RB HO_1017000 hb; replace HO_1017001 := RB HO_1017001 hb; replace HO_1026000 := RB HO_1026000 hb; replace HO_1026001 := RB HO_1026001 hb; replace HO1031 := RB HO1031 hb; replace HO1034 := RB HO1034 hb; replace HO1037 := RB HO1037 hb; replace HO1042 := RB HO1042 hb; replace HO1045 := RB HO1045 hb; have BK1047 := Aside0.mk (hbox); have GE1047 := bG hg; replace HB := BS hb; have NB1007_1047 := bN BK1007 hg; have NB1047_1007 := bM BK1007 hg; replace BK1007 := KB BK1007 hb; have NB1016_1047 := bN BK1016 hg; have NB1047_1016 := bM BK1016 hg; replace BK1016 := KB BK1016 hb; have NB1025_1047 := bN BK1025 hg; have NB1047_1025 := bM BK1025 hg; replace BK1025 := KB BK1025 hb; have NB1039_1047 := bN BK1039 hg; have NB1047_1039 := bM BK1039 hg; replace BK1039 := KB BK1039 hb; clear hb hbox hg; obtain ⟨Ao156, co156, eo156⟩ := Kd.R_slice HO1042.out; subst eo156; obtain ⟨hnb157, hnc157⟩ := nn NB1047_1007; obtain ⟨hnb158, hnc158⟩ := nn NB1047_1016; obtain ⟨hnb159, hnc159⟩ := nn NB1047_1025; obtain ⟨hnb160, hnc160⟩ := nn NB1047_1039; have hcz161 := cz2 BK1047; obtain ⟨Ao162, co162, eo162⟩ := Kd.R_slice HO1045.out; subst eo162; have hcz163 := cz2 BK1039) | (go_at_call 48; (with_reducible refine (laws_sameInts.calls kj54 _ _ t1035 _ _ t1043 false _ ?side1 ?side2 ?side3 ?side4 A96.out).mono ?_); (case side1 => exact RC (RT HO1037 BK1047)); (case side2 => exact RI HO1037); (case side3 => exact RC (RT HO1045 BK1047)); (case side4 => exact RI HO1045); rintro e w' ⟨rfl, ⟨nd, rfl⟩⟩))
               go_ret
               exact ⟨TE, TB⟩
             ·rw [if_neg c95] at H
              have c95b0 : (t1038 == t1046) = false := by simpa using c95
              (try (have c95b1 : decide (t1038 = t1046) = false := by simpa using c95))
              (try (have c95b2 : (t1038 == t1046) = false := by simpa using c95))
              (try (have c95b3 : ¬ (t1038 = t1046) := by simpa using c95))
              clear c95
              obtain rfl := Option.some.inj H
              go_wp2_with (first | ((with_reducible refine gate_callee (f := 50) rfl ?_); refine goesL_ (some 160) rfl rfl Try.func50 KR rfl #[.slice A1 l1.length c1] rfl TA ?_; (with_reducible refine (spec_DrawNewTurn.calls kj54 _ _ l1 t1029 _ ?side1 ?side2 A92.out).mono ?_); (case side1 => exact CW ((Kd.C_below HR1.out HB.out))); (case side2 => exact HC1.out); rintro e w164 ⟨v1030, rfl, ho0, hb⟩; refine ⟨_, rfl, ?_⟩; have HO1031 := RL (NW (NW (NW (NW (NW (NW ho0 HO_1008000) HO_1008001) HO_1017000) HO_1017001) HO_1026000) HO_1026001); replace HO_1008000 := EL HO_1008000 ho0 hb; replace HO_1008001 := EL HO_1008001 ho0 hb; replace HO_1017000 := EL HO_1017000 ho0 hb; replace HO_1017001 := EL HO_1017001 ho0 hb; replace HO_1026000 := EL HO_1026000 ho0 hb; replace HO_1026001 := EL HO_1026001 ho0 hb; replace BK1007 := KB BK1007 hb; replace BK1016 := KB BK1016 hb; replace BK1025 := KB BK1025 hb; replace HB := BS hb; clear hb; (try clear ho0); obtain ⟨Ao165, co165, eo165⟩ := Kd.R_slice HO1031.out; subst eo165) | ((with_reducible refine gate_callee (f := 32) rfl ?_); refine goesL_ (some 163) rfl rfl Try.func32 KR rfl #[.slice Ao165 t1029.length co165] rfl TA ?_; (with_reducible refine (impl_NewTurn.calls kj54 _ _ t1029 t1032 t1035 t1038 _ ?side1 ?side2 A93.out).mono ?_); (case side1 => exact CW ((Kd.R_reads' HO1031.out).2.2)); (case side2 => exact RI HO1031); rintro e w166 ⟨v1033, v1036, rfl, ho0, ho1, hb⟩; refine ⟨_, rfl, ?_⟩; have HO1034 := RL (NW (NW (NW (NW (NW (NW (NW ho0 HO_1008000) HO_1008001) HO_1017000) HO_1017001) HO_1026000) HO_1026001) HO1031); have HO1037 := RL (NW (NW (NW (NW (NW (NW (NW ho1 HO_1008000) HO_1008001) HO_1017000) HO_1017001) HO_1026000) HO_1026001) HO1031); replace HO_1008000 := O2 HO_1008000 ho0 ho1 hb; replace HO_1008001 := O2 HO_1008001 ho0 ho1 hb; replace HO_1017000 := O2 HO_1017000 ho0 ho1 hb; replace HO_1017001 := O2 HO_1017001 ho0 ho1 hb; replace HO_1026000 := O2 HO_1026000 ho0 ho1 hb; replace HO_1026001 := O2 HO_1026001 ho0 ho1 hb; replace HO1031 := O2 HO1031 ho0 ho1 hb; replace BK1007 := KB BK1007 hb; replace BK1016 := KB BK1016 hb; replace BK1025 := KB BK1025 hb; replace HB := BS hb; clear hb; (try clear ho0); (try clear ho1)) | ((with_reducible refine gate_dst (N := 29) rfl ?_); refine bE 29 #[.slice none 0 0, .slice none 0 0] 40 ?_; intro gb1039 hg w167 hbox hb; replace HO_1008000 := RB HO_1008000 hb; replace HO_1008001 := RB HO_1008001 hb; replace HO_1017000 := RB HO_1017000 hb; replace HO_1017001 := RB HO_1017001 hb; replace HO_1026000 := RB HO_1026000 hb; replace HO_1026001 := RB HO_1026001 hb; replace HO1031 := RB HO1031 hb; replace HO1034 := RB HO1034 hb; replace HO1037 := RB HO1037 hb; have BK1039 := Aside0.mk (hbox); have GE1039 := bG hg; replace HB := BS hb; have NB1007_1039 := bN BK1007 hg; have NB1039_1007 := bM BK1007 hg; replace BK1007 := KB BK1007 hb; have NB1016_1039 := bN BK1016 hg; have NB1039_1016 := bM BK1016 hg; replace BK1016 := KB BK1016 hb; have NB1025_1039 := bN BK1025 hg; have NB1039_1025 := bM BK1025 hg; replace BK1025 := KB BK1025 hb; clear hb hbox hg; obtain ⟨Ao168, co168, eo168⟩ := Kd.R_slice HO1034.out; subst eo168; obtain ⟨hnb169, hnc169⟩ := nn NB1039_1007; obtain ⟨hnb170, hnc170⟩ := nn NB1039_1016; obtain ⟨hnb171, hnc171⟩ := nn NB1039_1025; have hcz172 := cz2 BK1039; obtain ⟨Ao173, co173, eo173⟩ := Kd.R_slice HO1037.out; subst eo173) | ((with_reducible refine gate_callee (f := 31) rfl ?_); refine goesL_ (some 168) rfl rfl Try.func31 KR rfl #[.slice Ao165 t1029.length co165] rfl TA ?_; (with_reducible refine (spec_NewTurn.calls kj54 _ _ t1029 t1040 t1043 t1046 _ ?side1 ?side2 A94.out).mono ?_); (case side1 => exact RC (RT HO1031 BK1039)); (case side2 => exact RI HO1031); rintro e w174 ⟨v1041, v1044, rfl, ho0, ho1, hb⟩; refine ⟨_, rfl, ?_⟩; have HO1042 := RL (NT (NT (NT (NT (NT (NT (NT (NT (NT ho0 HO_1008000 BK1039) HO_1008001 BK1039) HO_1017000 BK1039) HO_1017001 BK1039) HO_1026000 BK1039) HO_1026001 BK1039) HO1031 BK1039) HO1034 BK1039) HO1037 BK1039); have HO1045 := RL (NT (NT (NT (NT (NT (NT (NT (NT (NT ho1 HO_1008000 BK1039) HO_1008001 BK1039) HO_1017000 BK1039) HO_1017001 BK1039) HO_1026000 BK1039) HO_1026001 BK1039) HO1031 BK1039) HO1034 BK1039) HO1037 BK1039); replace HO_1008000 := Aside0.mk (Kd.R_mono (Kd.R_told (Kd.R_told (Kd.R_old (RT HO_1008000 BK1039).out hb) (Kd.R_base ho0)) (Kd.R_base ho1)) (fun _ h_ => h_.1)); replace HO_1008001 := Aside0.mk (Kd.R_mono (Kd.R_told (Kd.R_told (Kd.R_old (RT HO_1008001 BK1039).out hb) (Kd.R_base ho0)) (Kd.R_base ho1)) (fun _ h_ => h_.1)); replace HO_1017000 := Aside0.mk (Kd.R_mono (Kd.R_told (Kd.R_told (Kd.R_old (RT HO_1017000 BK1039).out hb) (Kd.R_base ho0)) (Kd.R_base ho1)) (fun _ h_ => h_.1)); replace HO_1017001 := Aside0.mk (Kd.R_mono (Kd.R_told (Kd.R_told (Kd.R_old (RT HO_1017001 BK1039).out hb) (Kd.R_base ho0)) (Kd.R_base ho1)) (fun _ h_ => h_.1)); replace HO_1026000 := Aside0.mk (Kd.R_mono (Kd.R_told (Kd.R_told (Kd.R_old (RT HO_1026000 BK1039).out hb) (Kd.R_base ho0)) (Kd.R_base ho1)) (fun _ h_ => h_.1)); replace HO_1026001 := Aside0.mk (Kd.R_mono (Kd.R_told (Kd.R_told (Kd.R_old (RT HO_1026001 BK1039).out hb) (Kd.R_base ho0)) (Kd.R_base ho1)) (fun _ h_ => h_.1)); replace HO1031 := Aside0.mk (Kd.R_mono (Kd.R_told (Kd.R_told (Kd.R_old (RT HO1031 BK1039).out hb) (Kd.R_base ho0)) (Kd.R_base ho1)) (fun _ h_ => h_.1)); replace HO1034 := Aside0.mk (Kd.R_mono (Kd.R_told (Kd.R_told (Kd.R_old (RT HO1034 BK1039).out hb) (Kd.R_base ho0)) (Kd.R_base ho1)) (fun _ h_ => h_.1)); replace HO1037 := Aside0.mk (Kd.R_mono (Kd.R_told (Kd.R_told (Kd.R_old (RT HO1037 BK1039).out hb) (Kd.R_base ho0)) (Kd.R_base ho1)) (fun _ h_ => h_.1)); replace BK1007 := KF BK1007 hb; replace BK1016 := KF BK1016 hb; replace BK1025 := KF BK1025 hb; replace BK1039 := KP BK1039 #[.slice Ao168 t1032.length co168, .slice Ao173 t1035.length co173] hb; replace HB := BS hb; clear hb; (try clear ho0); (try clear ho1)) | ((with_reducible refine gate_dst (N := 31) rfl ?_); refine bE 31 #[.slice none 0 0, .slice none 0 0] 40 ?_; intro gb1047 hg w175 hbox hb; replace HO_1008000 := RB HO_1008000 hb; replace HO_1008001 := RB HO_1008001 hb; replace HO_1017000 := RB HO_1017000 hb; replace HO_1017001 := RB HO_1017001 hb; replace HO_1026000 := RB HO_1026000 hb; replace HO_1026001 := RB HO_1026001 hb; replace HO1031 := RB HO1031 hb; replace HO1034 := RB HO1034 hb; replace HO1037 := RB HO1037 hb; replace HO1042 := RB HO1042 hb; replace HO1045 := RB HO1045 hb; have BK1047 := Aside0.mk (hbox); have GE1047 := bG hg; replace HB := BS hb; have NB1007_1047 := bN BK1007 hg; have NB1047_1007 := bM BK1007 hg; replace BK1007 := KB BK1007 hb; have NB1016_1047 := bN BK1016 hg; have NB1047_1016 := bM BK1016 hg; replace BK1016 := KB BK1016 hb; have NB1025_1047 := bN BK1025 hg; have NB1047_1025 := bM BK1025 hg; replace BK1025 := KB BK1025 hb; have NB1039_1047 := bN BK1039 hg; have NB1047_1039 := bM BK1039 hg; replace BK1039 := KB BK1039 hb; clear hb hbox hg; obtain ⟨Ao176, co176, eo176⟩ := Kd.R_slice HO1042.out; subst eo176; obtain ⟨hnb177, hnc177⟩ := nn NB1047_1007; obtain ⟨hnb178, hnc178⟩ := nn NB1047_1016; obtain ⟨hnb179, hnc179⟩ := nn NB1047_1025; obtain ⟨hnb180, hnc180⟩ := nn NB1047_1039; have hcz181 := cz2 BK1047; obtain ⟨Ao182, co182, eo182⟩ := Kd.R_slice HO1045.out; subst eo182))
              go_ret
              exact ⟨TE, TB⟩

/-- THE ONE PURE STATEMENT of laws_FnTurns. -/
def laws_FnTurns.Pure : Prop := ∀ (l0 : List Int) (l1 : List Int), (l0.length ≤ maxLen ∧ ∀ x_ ∈ l0, (Lit.int .u8 x_).wf = true) → (l1.length ≤ maxLen ∧ ∀ x_ ∈ l1, (Lit.int .u8 x_).wf = true) → ∃ k, laws_FnTurns.f k l0 l1 = some true
end
end Go.Proofs.Ytioeomjjfajldaa.Pp
