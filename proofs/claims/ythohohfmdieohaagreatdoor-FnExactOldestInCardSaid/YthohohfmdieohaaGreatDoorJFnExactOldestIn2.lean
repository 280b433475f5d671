/- The functions that the law reaches, one Lean function and its proof for each; written by wip/pp of this workplace, joined by claimit.py. -/
import Derived.Test.YthohohfmdieohaaGreatDoorProg
import Derived.Below
import Derived.Deep.Draws
import Derived.Deep.AppendLies
import Derived.Maps.AppendAt
import Derived.OwnWalk
import Derived.Laws.BytesArg
import Derived.Laws.MakeOwn
import Derived.Laws.OwnMore
import Derived.Deep.OwnRows
import Derived.Tactics
import Derived.Lib.ConvBytes
import Derived.Laws.Slices
import Derived.WalkKit
import Derived.KernelRfl
import Derived.RowKit3
import Derived.Deep.LoopGhost
import Derived.Deep.QuietTactic
import Derived.BigQuiet
import Derived.WideLaws
import Derived.Deep.DeepCutAuto
import Derived.Deep.CutBlock
import Derived.Deep.RegionHeld3
import Derived.Laws.Rows
import Derived.Lib.AppendStr
import Derived.ArgAppend
import Derived.Laws.IdiomCopy
import Derived.OrdersHeld
import Derived.Laws.BitsLemmas
import Derived.RowKit
import Derived.Test.YthohohfmdieohaaGreatDoorKFnExactOldestInW
import Derived.Test.YthohohfmdieohaaGreatDoorJFnExactOldestIn0
import Derived.Test.YthohohfmdieohaaGreatDoorJFnExactOldestIn1
namespace Go.Proofs.YthohohfmdieohaaGreatDoor.Pp
open Go.RowKit Go.Proofs.YthohohfmdieohaaGreatDoorW.PrintWords Go.Proofs.YthohohfmdieohaaGreatDoorW.PrintLast Go.Proofs.YthohohfmdieohaaGreatDoorW.PrintMore
attribute [local go_sem] max2_int min2_int max_two min_two max_three min_three max_four min_four   -- for this text's walks alone
set_option linter.unusedVariables false
set_option linter.unusedSimpArgs false
set_option maxHeartbeats 8000000
set_option maxRecDepth 100000

section
/-! ### spec_GoodCache: function 30 -/
mutual
def spec_GoodCache.j0 : Nat → Bool → Int → List (S_Entry) → Option (Bool)
 | 0, _, _, _ => none
 | k + 1, x14, x915000, x915001 => if x14 = true then (some false) else (spec_GoodCache.l0 k x915001 (x915001.length : Int) 0 x915000 x915001)
def spec_GoodCache.l0 : Nat → List (S_Entry) → Int → Int → Int → List (S_Entry) → Option (Bool)
 | 0, _, _, _, _, _ => none
 | k + 1, x16, x17, x18, x915000, x915001 => if x18 < x17 then (if 0 ≤ x18 then (if x18 < (x16.length : Int) then ((spec_GoodName.f k ((rd_TEntry x16 x18).f0)).bind fun t918 => (if t918 = true then ((spec_l3Type.f k ((rd_TEntry x16 x18).f1)).bind fun t919 => (if t919 = true then ((spec_l1In.f ((rd_TEntry x16 x18).f4) (wrap64 (x915000 + 1)) (wrap64 (x915000 + 100000))).bind fun t920 => (if t920 = true then ((spec_l1In.f ((rd_TEntry x16 x18).f5) 1 x915000).bind fun t921 => (if t921 = true then (if x18 > 0 then (if 0 ≤ (wrap64 (x18 - 1)) then (if (wrap64 (x18 - 1)) < (x915001.length : Int) then ((spec_l10Less.f k ((rd_TEntry x915001 (wrap64 (x18 - 1))).f0) ((rd_TEntry x915001 (wrap64 (x18 - 1))).f1) ((rd_TEntry x915001 (wrap64 (x18 - 1))).f2) ((rd_TEntry x915001 (wrap64 (x18 - 1))).f3) ((rd_TEntry x915001 (wrap64 (x18 - 1))).f4) ((rd_TEntry x915001 (wrap64 (x18 - 1))).f5) ((rd_TEntry x16 x18).f0) ((rd_TEntry x16 x18).f1) ((rd_TEntry x16 x18).f2) ((rd_TEntry x16 x18).f3) ((rd_TEntry x16 x18).f4) ((rd_TEntry x16 x18).f5)).bind fun t923 => (spec_GoodCache.j2 k x16 x17 x18 (!t923) x915000 x915001 ((rd_TEntry x16 x18).f0) ((rd_TEntry x16 x18).f1) ((rd_TEntry x16 x18).f2) ((rd_TEntry x16 x18).f3) ((rd_TEntry x16 x18).f4) ((rd_TEntry x16 x18).f5))) else (none)) else (none)) else (spec_GoodCache.j2 k x16 x17 x18 false x915000 x915001 ((rd_TEntry x16 x18).f0) ((rd_TEntry x16 x18).f1) ((rd_TEntry x16 x18).f2) ((rd_TEntry x16 x18).f3) ((rd_TEntry x16 x18).f4) ((rd_TEntry x16 x18).f5))) else (spec_GoodCache.j2 k x16 x17 x18 true x915000 x915001 ((rd_TEntry x16 x18).f0) ((rd_TEntry x16 x18).f1) ((rd_TEntry x16 x18).f2) ((rd_TEntry x16 x18).f3) ((rd_TEntry x16 x18).f4) ((rd_TEntry x16 x18).f5)))) else (spec_GoodCache.j2 k x16 x17 x18 true x915000 x915001 ((rd_TEntry x16 x18).f0) ((rd_TEntry x16 x18).f1) ((rd_TEntry x16 x18).f2) ((rd_TEntry x16 x18).f3) ((rd_TEntry x16 x18).f4) ((rd_TEntry x16 x18).f5)))) else (spec_GoodCache.j2 k x16 x17 x18 true x915000 x915001 ((rd_TEntry x16 x18).f0) ((rd_TEntry x16 x18).f1) ((rd_TEntry x16 x18).f2) ((rd_TEntry x16 x18).f3) ((rd_TEntry x16 x18).f4) ((rd_TEntry x16 x18).f5)))) else (spec_GoodCache.j2 k x16 x17 x18 true x915000 x915001 ((rd_TEntry x16 x18).f0) ((rd_TEntry x16 x18).f1) ((rd_TEntry x16 x18).f2) ((rd_TEntry x16 x18).f3) ((rd_TEntry x16 x18).f4) ((rd_TEntry x16 x18).f5)))) else (none)) else (none)) else (some true)
def spec_GoodCache.j2 : Nat → List (S_Entry) → Int → Int → Bool → Int → List (S_Entry) → ByteArray → Int → Bool → List (S_Record) → Int → Int → Option (Bool)
 | 0, _, _, _, _, _, _, _, _, _, _, _, _ => none
 | k + 1, x16, x17, x18, x67, x915000, x915001, x918000, x918001, x918002, x918003, x918004, x918005 => if x67 = true then (some false) else (if x918002 = true then (if (x918003.length : Int) > 0 then (some false) else (spec_GoodCache.l0 k x16 x17 (wrap64 (x18 + 1)) x915000 x915001)) else ((spec_l10Same.f k x918003).bind fun t924 => (if t924 = true then (if 0 < (x918003.length : Int) then (if ((rd_TRecord x918003 0).f0).toList = x918000.toList then (if ((rd_TRecord x918003 0).f1) = x918001 then (spec_GoodCache.l0 k x16 x17 (wrap64 (x18 + 1)) x915000 x915001) else (some false)) else (some false)) else (none)) else (some false))))
end
def spec_GoodCache.f (k : Nat) (a0_0 : Int) (l0_1 : List (S_Entry)) : Option (Bool) := (spec_l1In.f a0_0 1 1000000000).bind fun t915 => (if t915 = true then (spec_GoodCache.j0 k (decide ((l0_1.length : Int) > 20)) a0_0 l0_1) else (spec_GoodCache.j0 k true a0_0 l0_1))
def spec_GoodCache.T6 : Bool × List (List Nat × List Nat) := (true, [([], []), ([0], [0]), ([1], [1]), ([2], [2]), ([3, 2], [3]), ([4], [4]), ([5, 4], [4, 5]), ([6, 4, 4], [4, 6]), ([7, 4], [4, 7]), ([4, 8], [4, 8]), ([9, 7], [9]), ([10], [10]), ([11, 10], [10, 11]), ([10], [10]), ([13, 10], [10, 13]), ([14, 10], [10, 14]), ([10], [10]), ([16, 10], [10, 16]), ([17, 10], [10, 17]), ([12, 15, 18, 10, 10], [10, 12, 15, 18]), ([19, 10], [10, 19]), ([10, 20], [10, 20]), ([21, 19], [21]), ([22], [22]), ([23, 22], [22, 23]), ([22], [22]), ([25, 22], [22, 25]), ([24, 26, 22, 22], [22, 24, 26]), ([27, 22], [22, 27]), ([22, 28], [22, 28]), ([29, 27], [29]), ([30], [30]), ([31, 30], [30, 31]), ([32, 30, 30], [30, 32]), ([33], [33]), ([34, 33], [33, 34]), ([33], [33]), ([36, 33], [33, 36]), ([35, 37, 33], [33, 35, 37]), ([38, 33], [33, 38]), ([33], [33]), ([39, 40, 33, 33], [33, 39, 40]), ([41, 33], [33, 41]), ([33, 42, 30], [30, 33, 42]), ([30, 43], [30, 43])])
def spec_GoodCache.B6 : List Nat := [0, 1, 3, 7, 15, 31, 63, 127, 255, 511, 1023, 2047, 4095, 2047, 10239, 26623, 2047, 67583, 198655, 524287, 1048575, 2097151, 4194303, 8388607, 16777215, 8388607, 41943039, 134217727, 268435455, 536870911, 1073741823, 2147483647, 4294967295, 8589934591, 17179869183, 34359738367, 17179869183, 85899345919, 274877906943, 549755813887, 17179869183, 2199023255551, 4398046511103, 8796093022207, 17592186044415]
theorem spec_GoodCache.tab6 : rtab .any (opsOf Tryz.f30 6) = spec_GoodCache.T6 := by kernel_rfl
theorem spec_GoodCache.bits6 : waitsOk spec_GoodCache.T6.2 spec_GoodCache.B6 = true := by kernel_rfl
def spec_GoodCache.T11 : Bool × List (List Nat × List Nat) := (true, [([], []), ([0], [0]), ([1], [1]), ([2], [2]), ([3, 2], [3]), ([4], [4]), ([5, 4], [4, 5]), ([6, 4], [4, 6]), ([7, 4], [4, 7]), ([8, 4], [4, 8]), ([4], [4]), ([10, 4], [4, 10]), ([9, 11, 4], [4, 9, 11]), ([4, 12], [4, 12]), ([13, 4], [13]), ([14], [14]), ([15, 14], [14, 15]), ([16, 14], [14, 16]), ([17, 14], [14, 17]), ([18, 14], [14, 18]), ([14], [14]), ([20, 14], [14, 20]), ([19, 21, 14], [14, 19, 21]), ([14, 22], [14, 22])])
def spec_GoodCache.B11 : List Nat := [0, 1, 3, 7, 15, 31, 63, 127, 255, 511, 31, 1055, 4095, 8191, 16383, 32767, 65535, 131071, 262143, 524287, 32767, 1081343, 4194303, 8388607]
theorem spec_GoodCache.tab11 : rtab .any (opsOf Tryz.f30 11) = spec_GoodCache.T11 := by kernel_rfl
theorem spec_GoodCache.bits11 : waitsOk spec_GoodCache.T11.2 spec_GoodCache.B11 = true := by kernel_rfl
theorem spec_GoodCache.calls (k : Nat) (a0_0 : Int) (A0_1 : Option Addr) (c0_1 : Nat) (l0_1 : List (S_Entry)) (r : Bool) (w : World) (hr0_1 : Kd.C k_Entry w A0_1 l0_1.length l0_1) (hc0_1 : l0_1.length ≤ c0_1) (h : spec_GoodCache.f k a0_0 l0_1 = some r) :
  Calls Tryz.prog 30 #[.agg #[.int .i64 a0_0, .slice A0_1 l0_1.length c0_1]] w fun e w' => e = .returned (.bool r) ∧ Below w.heap.size w w' := by
 have hu54 := Tryz.underlying54
 have hu107 := Tryz.underlying107
 have HR0_1 := Aside0.mk hr0_1
 have HC0_1 := Aside0.mk hc0_1
 clear hr0_1 hc0_1
 have HB := Aside0.mk (Below.refl w.heap.size w)
 have H : ((spec_l1In.f a0_0 1 1000000000).bind fun t915 => (if t915 = true then (spec_GoodCache.j0 k (decide ((l0_1.length : Int) > 20)) a0_0 l0_1) else (spec_GoodCache.j0 k true a0_0 l0_1))) = some r := h
 clear h
 have HC2 := Aside0.mk H
 clear H
 go_enter Tryz.func30, Tryz.ntmps30
 go_upto_region 1 with (first | ((with_reducible refine gate_dst (N := 1) rfl ?_); (try (refine gate_guard (by rfl) ?_; dsimp only)); refine bE 1 #[.int .i64 a0_0, .slice A0_1 l0_1.length c0_1] 54 ?_; intro gb914 hg w3 hbox hb; have BK914 := Aside0.mk (hbox); have GE914 := bG hg; replace HB := BS hb; clear hb hbox hg))
 (try simp only [Act.put, List.setIfInBounds_toArray, List.set_cons_zero, List.set_cons_succ])
 go_cut [14] (fun v14 wc => ∃ (kq : Nat) (x14_1 : Bool), v14 = .bool x14_1 ∧ Aside0 (spec_GoodCache.j0 kq x14_1 a0_0 l0_1 = some r) ∧ Aside0 (kq ≤ k) ∧ Aside0 (wc.heap[gb914]? = some (.cells #[.int .i64 a0_0, (.slice A0_1 l0_1.length c0_1)] 54 (0, 0))) ∧ Aside0 (Below w.heap.size w wc))
 case first =>
  have H := HC2.out
  clear HC2
  obtain ⟨t915, A4, H⟩ := bnd H
  by_cases c5 : t915 = true
  ·subst c5
   replace H := ift H
   have H' := Aside0.mk H
   clear H
   have hcz6 := cz2 BK914
   go_wp2_with (first | ((with_reducible refine gate_callee (f := 80) rfl ?_); refine goesL_ (some 7) rfl rfl Tryz.func80 KR rfl #[.int .i64 a0_0, .int .i64 1, .int .i64 1000000000] rfl TA ?_; (with_reducible refine (spec_l1In.calls a0_0 1 1000000000 true _ A4.out).mono ?_); rintro e w' ⟨rfl, ⟨nd, rfl⟩⟩; refine ⟨_, rfl, ?_⟩))
   go_meet
   case rel => exact ⟨_, (decide ((l0_1.length : Int) > 20)), TF, H', ⟨by first | omega | exact Nat.le_refl _⟩, KW BK914, ⟨TB⟩⟩
  ·replace c5 := Bool.eq_false_iff.mpr c5
   subst c5
   replace H := iff' H
   have H' := Aside0.mk H
   clear H
   have hcz7 := cz2 BK914
   go_wp2_with (first | ((with_reducible refine gate_callee (f := 80) rfl ?_); refine goesL_ (some 7) rfl rfl Tryz.func80 KR rfl #[.int .i64 a0_0, .int .i64 1, .int .i64 1000000000] rfl TA ?_; (with_reducible refine (spec_l1In.calls a0_0 1 1000000000 false _ A4.out).mono ?_); rintro e w' ⟨rfl, ⟨nd, rfl⟩⟩; refine ⟨_, rfl, ?_⟩))
   go_meet
   case rel => exact ⟨_, (true), TF, H', ⟨by first | omega | exact Nat.le_refl _⟩, KW BK914, ⟨TB⟩⟩
 case rest =>
  clear HC2
  obtain ⟨kq, x14_1, rfl, HA, HJ1, BK914, HB⟩ := hcut
  cases kq with
  | zero => exact absurd HA.out (by simp [spec_GoodCache.j0])
  | succ kj1 =>
   have H := HA.out
   clear HA
   simp only [spec_GoodCache.j0] at H
   by_cases c8 : x14_1 = true
   ·subst c8
    replace H := ift H
    obtain rfl := Option.some.inj H
    go_wp2
    go_ret
    exact ⟨TE, TB⟩
   ·replace c8 := Bool.eq_false_iff.mpr c8
    subst c8
    replace H := iff' H
    have H' := Aside0.mk H
    clear H
    have hcz9 := cz2 BK914
    go_wp2
    go_loopg [18] kj1 (fun kq v18 w' => ∃ (x18_2 : Int), v18 = .int .i64 x18_2 ∧ Aside0 (spec_GoodCache.l0 kq l0_1 (l0_1.length : Int) x18_2 a0_0 l0_1 = some r) ∧ Aside0 (kq ≤ kj1) ∧ Aside0 (w'.heap[gb914]? = some (.cells #[.int .i64 a0_0, (.slice A0_1 l0_1.length c0_1)] 54 (0, 0))) ∧ Aside0 (Below w.heap.size w w'))
    case atStart => exact ⟨(0), TF, H', ⟨Nat.le_refl _⟩, KW BK914, ⟨TB⟩⟩
    case round =>
     clear H'
     obtain ⟨x18_2, rfl, HA, HK2, BK914, HB⟩ := hrel
     cases gk with
     | zero => exact absurd HA.out (by simp [spec_GoodCache.l0])
     | succ k2 =>
      have H := HA.out
      clear HA
      simp only [spec_GoodCache.l0] at H
      by_cases c10 : x18_2 < (l0_1.length : Int)
      ·rw [if_pos c10] at H
       have c10b0 : decide (x18_2 < (l0_1.length : Int)) = true := decide_eq_true c10
       clear c10
       obtain ⟨c11, H⟩ := ifn H
       have c11b0 : decide (0 ≤ x18_2) = true := decide_eq_true c11
       clear c11
       obtain ⟨c12, H⟩ := ifn H
       have c12b0 : decide (x18_2 < (l0_1.length : Int)) = true := decide_eq_true c12
       clear c12
       have HC13 := Aside0.mk H
       clear H
       have p916 : 0 ≤ (x18_2 : Int) := TD
       have q916 : x18_2 < (l0_1.length : Int) := TD
       obtain ⟨ad916, A916_3, c916_3, e916, hx916_0, hx916_1, hx916_2, hx916_3, hx916_4, hx916_5, hl916_3, hi916_3⟩ := at_TEntry HR0_1.out x18_2 p916 q916
       have hw916_3 := hx916_3
       cases e916
       replace hx916_0 := hBc HB hx916_0
       replace hx916_1 := hBc HB hx916_1
       replace hx916_2 := hBc HB hx916_2
       replace hx916_3 := hBc HB hx916_3
       replace hx916_4 := hBc HB hx916_4
       replace hx916_5 := hBc HB hx916_5
       have HR916_3 := Aside0.mk hi916_3
       have HC916_3 := Aside0.mk hl916_3
       clear hi916_3 hl916_3
       replace p916 := eq_true p916
       replace q916 := eq_true q916
       go_upto_region 6 with (first | ((with_reducible refine gate_dst (N := 4) rfl ?_); (try (refine gate_guard (by rfl) ?_; dsimp only)); refine bE 4 #[.string (⟨#[]⟩ : ByteArray), .int .i64 0, .bool false, .slice none 0 0, .int .i64 0, .int .i64 0] 107 ?_; intro gb917 hg w14 hbox hb; have BK917 := Aside0.mk (hbox); have GE917 := bG hg; replace HB := BS hb; have NB914_917 := bN BK914 hg; have NB917_914 := bM BK914 hg; replace BK914 := KB BK914 hb; clear hb hbox hg; obtain ⟨hnb15, hnc15⟩ := nn NB917_914; have hcz16 := cz6 BK917))
       (try simp only [Act.put, List.setIfInBounds_toArray, List.set_cons_zero, List.set_cons_succ])
       go_cut [67] (fun v67 wc => ∃ (kq : Nat) (x67_12 : Bool), v67 = .bool x67_12 ∧ Aside0 (spec_GoodCache.j2 kq l0_1 (l0_1.length : Int) x18_2 x67_12 a0_0 l0_1 ((rd_TEntry l0_1 x18_2).f0) ((rd_TEntry l0_1 x18_2).f1) ((rd_TEntry l0_1 x18_2).f2) ((rd_TEntry l0_1 x18_2).f3) ((rd_TEntry l0_1 x18_2).f4) ((rd_TEntry l0_1 x18_2).f5) = some r) ∧ Aside0 (kq ≤ k2) ∧ Aside0 (wc.heap[gb914]? = some (.cells #[.int .i64 a0_0, (.slice (some ad916) l0_1.length c0_1)] 54 (0, 0))) ∧ Aside0 (wc.heap[gb917]? = some (.cells #[.string ((rd_TEntry l0_1 x18_2).f0), .int .i64 ((rd_TEntry l0_1 x18_2).f1), .bool ((rd_TEntry l0_1 x18_2).f2), (.slice A916_3 ((rd_TEntry l0_1 x18_2).f3).length c916_3), .int .i64 ((rd_TEntry l0_1 x18_2).f4), .int .i64 ((rd_TEntry l0_1 x18_2).f5)] 107 (0, 0))) ∧ Aside0 (Below w.heap.size w wc))
       case first =>
        have H := HC13.out
        clear HC13
        obtain ⟨t918, A17, H⟩ := bnd H
        by_cases c18 : t918 = true
        ·subst c18
         replace H := ift H
         obtain ⟨t919, A19, H⟩ := bnd H
         by_cases c20 : t919 = true
         ·subst c20
          replace H := ift H
          obtain ⟨t920, A21, H⟩ := bnd H
          by_cases c22 : t920 = true
          ·subst c22
           replace H := ift H
           obtain ⟨t921, A23, H⟩ := bnd H
           by_cases c24 : t921 = true
           ·subst c24
            replace H := ift H
            by_cases c25 : x18_2 > 0
            ·rw [if_pos c25] at H
             have c25b0 : decide (0 < x18_2) = true := decide_eq_true c25
             clear c25
             (first | rw [c25b0] | (simp only [i64_w, i32_w]; rw [c25b0]) | skip)
             obtain ⟨ji26, hji26⟩ : ∃ j_ : Int, (wrap64 (x18_2 - 1)) = j_ := ⟨_, rfl⟩
             replace H : (if 0 ≤ (ji26) then (if (ji26) < (l0_1.length : Int) then ((spec_l10Less.f k2 ((rd_TEntry l0_1 (ji26)).f0) ((rd_TEntry l0_1 (ji26)).f1) ((rd_TEntry l0_1 (ji26)).f2) ((rd_TEntry l0_1 (ji26)).f3) ((rd_TEntry l0_1 (ji26)).f4) ((rd_TEntry l0_1 (ji26)).f5) ((rd_TEntry l0_1 x18_2).f0) ((rd_TEntry l0_1 x18_2).f1) ((rd_TEntry l0_1 x18_2).f2) ((rd_TEntry l0_1 x18_2).f3) ((rd_TEntry l0_1 x18_2).f4) ((rd_TEntry l0_1 x18_2).f5)).bind fun t923 => (spec_GoodCache.j2 k2 l0_1 (l0_1.length : Int) x18_2 (!t923) a0_0 l0_1 ((rd_TEntry l0_1 x18_2).f0) ((rd_TEntry l0_1 x18_2).f1) ((rd_TEntry l0_1 x18_2).f2) ((rd_TEntry l0_1 x18_2).f3) ((rd_TEntry l0_1 x18_2).f4) ((rd_TEntry l0_1 x18_2).f5))) else (none)) else (none)) = some r := by first | (rw [hji26] at H; exact H) | (simp only [hji26] at H ⊢; exact H)
             (try rw [hji26] at A17)
             (try rw [hji26] at A19)
             (try rw [hji26] at A21)
             (try rw [hji26] at A23)
             have hji26w : (IntKind.i64.wrap (x18_2 - 1)) = ji26 := (i64_w _).trans hji26
             obtain ⟨c27, H⟩ := ifn H
             have c27b0 : decide (0 ≤ (ji26)) = true := decide_eq_true c27
             clear c27
             obtain ⟨c28, H⟩ := ifn H
             have c28b0 : decide ((ji26) < (l0_1.length : Int)) = true := decide_eq_true c28
             clear c28
             obtain ⟨t923, A29, H⟩ := bnd H
             have H' := Aside0.mk H
             clear H
             try go_wp2
             have n0_ : Aside0 (((((((w14.setCell ⟨gb917, 0, none⟩ (.string ((rd_TEntry l0_1 x18_2).f0))).setCell ⟨gb917, 1, none⟩ (.int .i64 ((rd_TEntry l0_1 x18_2).f1))).setCell ⟨gb917, 2, none⟩ (.bool ((rd_TEntry l0_1 x18_2).f2))).setCell ⟨gb917, 3, none⟩ (.slice A916_3 ((rd_TEntry l0_1 x18_2).f3).length c916_3)).setCell ⟨gb917, 4, none⟩ (.int .i64 ((rd_TEntry l0_1 x18_2).f4))).setCell ⟨gb917, 5, none⟩ (.int .i64 ((rd_TEntry l0_1 x18_2).f5))).heap[gb914]? = some (.cells #[.int .i64 a0_0, .slice (some ad916) l0_1.length c0_1] 54 (0, 0))) := ⟨TS⟩
             have n1_ : Aside0 (((((((w14.setCell ⟨gb917, 0, none⟩ (.string ((rd_TEntry l0_1 x18_2).f0))).setCell ⟨gb917, 1, none⟩ (.int .i64 ((rd_TEntry l0_1 x18_2).f1))).setCell ⟨gb917, 2, none⟩ (.bool ((rd_TEntry l0_1 x18_2).f2))).setCell ⟨gb917, 3, none⟩ (.slice A916_3 ((rd_TEntry l0_1 x18_2).f3).length c916_3)).setCell ⟨gb917, 4, none⟩ (.int .i64 ((rd_TEntry l0_1 x18_2).f4))).setCell ⟨gb917, 5, none⟩ (.int .i64 ((rd_TEntry l0_1 x18_2).f5))).heap[gb917]? = some (.cells #[.string ((rd_TEntry l0_1 x18_2).f0), .int .i64 ((rd_TEntry l0_1 x18_2).f1), .bool ((rd_TEntry l0_1 x18_2).f2), .slice A916_3 ((rd_TEntry l0_1 x18_2).f3).length c916_3, .int .i64 ((rd_TEntry l0_1 x18_2).f4), .int .i64 ((rd_TEntry l0_1 x18_2).f5)] 107 (0, 0))) := ⟨TS⟩
             have n2_ : Aside0 (Below w.heap.size w ((((((w14.setCell ⟨gb917, 0, none⟩ (.string ((rd_TEntry l0_1 x18_2).f0))).setCell ⟨gb917, 1, none⟩ (.int .i64 ((rd_TEntry l0_1 x18_2).f1))).setCell ⟨gb917, 2, none⟩ (.bool ((rd_TEntry l0_1 x18_2).f2))).setCell ⟨gb917, 3, none⟩ (.slice A916_3 ((rd_TEntry l0_1 x18_2).f3).length c916_3)).setCell ⟨gb917, 4, none⟩ (.int .i64 ((rd_TEntry l0_1 x18_2).f4))).setCell ⟨gb917, 5, none⟩ (.int .i64 ((rd_TEntry l0_1 x18_2).f5)))) := ⟨TB⟩
             (try clear BK914)
             (try clear BK917)
             (try clear HB)
             generalize ((((((w14.setCell ⟨gb917, 0, none⟩ (.string ((rd_TEntry l0_1 x18_2).f0))).setCell ⟨gb917, 1, none⟩ (.int .i64 ((rd_TEntry l0_1 x18_2).f1))).setCell ⟨gb917, 2, none⟩ (.bool ((rd_TEntry l0_1 x18_2).f2))).setCell ⟨gb917, 3, none⟩ (.slice A916_3 ((rd_TEntry l0_1 x18_2).f3).length c916_3)).setCell ⟨gb917, 4, none⟩ (.int .i64 ((rd_TEntry l0_1 x18_2).f4))).setCell ⟨gb917, 5, none⟩ (.int .i64 ((rd_TEntry l0_1 x18_2).f5))) = w30 at n0_ n1_ n2_ ⊢
             have BK914 := n0_
             have BK917 := n1_
             have HB := n2_
             clear n0_ n1_ n2_
             replace BK914 := Aside0.mk (blk_drew BK914.out)
             replace BK917 := Aside0.mk (blk_drew BK917.out)
             replace HB := Aside0.mk (below_drew1 HB.out)
             have p922 : 0 ≤ ((ji26) : Int) := TD
             have q922 : (ji26) < (l0_1.length : Int) := TD
             obtain ⟨ad922, A922_3, c922_3, e922, hx922_0, hx922_1, hx922_2, hx922_3, hx922_4, hx922_5, hl922_3, hi922_3⟩ := at_TEntry HR0_1.out (ji26) p922 q922
             have hw922_5 := hx922_5
             have hw922_4 := hx922_4
             have hw922_3 := hx922_3
             have hw922_2 := hx922_2
             have hw922_1 := hx922_1
             have hw922_0 := hx922_0
             obtain rfl : ad916 = ad922 := (by injection e922)
             replace hx922_0 := hBc HB hx922_0
             replace hx922_1 := hBc HB hx922_1
             replace hx922_2 := hBc HB hx922_2
             replace hx922_3 := hBc HB hx922_3
             replace hx922_4 := hBc HB hx922_4
             replace hx922_5 := hBc HB hx922_5
             have HR922_3 := Aside0.mk hi922_3
             have HC922_3 := Aside0.mk hl922_3
             clear hi922_3 hl922_3
             replace p922 := eq_true p922
             replace q922 := eq_true q922
             refine start_ (n := 45) (S := fun w' => w'.cell? ⟨gb917, 0, none⟩ = some (.string ((rd_TEntry l0_1 x18_2).f0)) ∧ w'.cell? ⟨gb917, 1, none⟩ = some (.int .i64 ((rd_TEntry l0_1 x18_2).f1)) ∧ w'.cell? ⟨gb917, 2, none⟩ = some (.bool ((rd_TEntry l0_1 x18_2).f2)) ∧ w'.cell? ⟨gb917, 3, none⟩ = some (.slice A916_3 ((rd_TEntry l0_1 x18_2).f3).length c916_3) ∧ w'.cell? ⟨gb917, 4, none⟩ = some (.int .i64 ((rd_TEntry l0_1 x18_2).f4)) ∧ w'.cell? ⟨gb917, 5, none⟩ = some (.int .i64 ((rd_TEntry l0_1 x18_2).f5)) ∧ w'.cell? ⟨gb914, 0, none⟩ = some (.int .i64 a0_0) ∧ w'.cell? ⟨gb914, 1, none⟩ = some (.slice (some ad916) l0_1.length c0_1) ∧ w'.cell? (ad916.add (((ji26)).toNat * 6)) = some (.string ((rd_TEntry l0_1 (ji26)).f0)) ∧ w'.cell? ⟨(ad916.add (((ji26)).toNat * 6)).block, (ad916.add (((ji26)).toNat * 6)).off + 1, none⟩ = some (.int .i64 ((rd_TEntry l0_1 (ji26)).f1)) ∧ w'.cell? ⟨(ad916.add (((ji26)).toNat * 6)).block, (ad916.add (((ji26)).toNat * 6)).off + 2, none⟩ = some (.bool ((rd_TEntry l0_1 (ji26)).f2)) ∧ w'.cell? ⟨(ad916.add (((ji26)).toNat * 6)).block, (ad916.add (((ji26)).toNat * 6)).off + 3, none⟩ = some (.slice A922_3 ((rd_TEntry l0_1 (ji26)).f3).length c922_3) ∧ w'.cell? ⟨(ad916.add (((ji26)).toNat * 6)).block, (ad916.add (((ji26)).toNat * 6)).off + 4, none⟩ = some (.int .i64 ((rd_TEntry l0_1 (ji26)).f4)) ∧ w'.cell? ⟨(ad916.add (((ji26)).toNat * 6)).block, (ad916.add (((ji26)).toNat * 6)).off + 5, none⟩ = some (.int .i64 ((rd_TEntry l0_1 (ji26)).f5))) (ds := []) #[false, false, false, false, false, false, false, false, false, false, false, false, false, false, false, false, false, false, false, false, false, false, false, false, false, false, false, false, false, false, false, false, false, false, false, false, false, false, false, false, false, false, false, false, false] KR rfl rfl ⟨bc 0 BK917, bc 1 BK917, bc 2 BK917, bc 3 BK917, bc 4 BK917, bc 5 BK917, bc 0 BK914, bc 1 BK914, ((HB.out.cell (World.block_lt_of_cell? w _ hw922_0)).trans hw922_0), ((HB.out.cell (World.block_lt_of_cell? w _ hw922_1)).trans hw922_1), ((HB.out.cell (World.block_lt_of_cell? w _ hw922_2)).trans hw922_2), ((HB.out.cell (World.block_lt_of_cell? w _ hw922_3)).trans hw922_3), ((HB.out.cell (World.block_lt_of_cell? w _ hw922_4)).trans hw922_4), ((HB.out.cell (World.block_lt_of_cell? w _ hw922_5)).trans hw922_5)⟩ (fun hHeld => ?_); refine with_tabW spec_GoodCache.tab6 spec_GoodCache.bits6 (fun HT_ HW_ => ?_)
             generalize w30.drew = w31 at BK914 BK917 HB HR922_3 hx922_0 hx922_1 hx922_2 hx922_3 hx922_4 hx922_5 hHeld ⊢
             refine pA 0 23 (mL 45 1) HT_ rfl rfl ?_
             refine tA 1 24 (mL 45 3) HT_ HW_ hHeld rfl rfl (by rintro w' ⟨s0, s1, s2, s3, s4, s5, s6, s7, s8, s9, s10, s11, s12, s13⟩; go_simp; with_reducible rfl) ?_
             refine one_ (i := 2) (N := some 25) (mL 45 7) rfl rfl (one_of HT_.out KR) (by decide) (fun K hK => ?_)
             refine goes_ Tryz.func81 KR rfl #[.string ((rd_TEntry l0_1 x18_2).f0)] (by rfl) rfl rfl TA ?_
             with_reducible refine (spec_GoodName.calls k2 ((rd_TEntry l0_1 x18_2).f0) true _ A17.out).mono ?_
             rintro e w32 ⟨rfl, hb⟩
             refine ⟨_, rfl, ?_⟩
             replace BK914 := KB BK914 hb
             replace BK917 := KB BK917 hb
             replace HB := BS hb
             (try clear hb)
             (try clear hb2)
             (try clear hk)
             (try clear hi)
             refine hK.out _ _ ⟨bc 0 BK917, bc 1 BK917, bc 2 BK917, bc 3 BK917, bc 4 BK917, bc 5 BK917, bc 0 BK914, bc 1 BK914, ((HB.out.cell (World.block_lt_of_cell? w _ hw922_0)).trans hw922_0), ((HB.out.cell (World.block_lt_of_cell? w _ hw922_1)).trans hw922_1), ((HB.out.cell (World.block_lt_of_cell? w _ hw922_2)).trans hw922_2), ((HB.out.cell (World.block_lt_of_cell? w _ hw922_3)).trans hw922_3), ((HB.out.cell (World.block_lt_of_cell? w _ hw922_4)).trans hw922_4), ((HB.out.cell (World.block_lt_of_cell? w _ hw922_5)).trans hw922_5)⟩ (fun hHeld => ?_)
             clear hK K
             refine nA ?_
             refine pA 3 26 (mL 45 15) HT_ rfl rfl ?_
             refine pA 4 27 (mL 45 31) HT_ rfl rfl ?_
             refine pA 5 28 (mL 45 63) HT_ rfl rfl ?_
             refine tA 6 29 (mL 45 127) HT_ HW_ hHeld rfl rfl (by rintro w' ⟨s0, s1, s2, s3, s4, s5, s6, s7, s8, s9, s10, s11, s12, s13⟩; go_simp; with_reducible rfl) ?_
             refine one_ (i := 7) (N := some 30) (mL 45 255) rfl rfl (one_of HT_.out KR) (by decide) (fun K hK => ?_)
             refine goes_ Tryz.func82 KR rfl #[.int .i64 ((rd_TEntry l0_1 x18_2).f1)] (by rfl) rfl rfl TA ?_
             with_reducible refine (spec_l3Type.calls k2 ((rd_TEntry l0_1 x18_2).f1) true _ A19.out).mono ?_
             rintro e w33 ⟨rfl, hb⟩
             refine ⟨_, rfl, ?_⟩
             replace BK914 := KB BK914 hb
             replace BK917 := KB BK917 hb
             replace HB := BS hb
             (try clear hb)
             (try clear hb2)
             (try clear hk)
             (try clear hi)
             refine hK.out _ _ ⟨bc 0 BK917, bc 1 BK917, bc 2 BK917, bc 3 BK917, bc 4 BK917, bc 5 BK917, bc 0 BK914, bc 1 BK914, ((HB.out.cell (World.block_lt_of_cell? w _ hw922_0)).trans hw922_0), ((HB.out.cell (World.block_lt_of_cell? w _ hw922_1)).trans hw922_1), ((HB.out.cell (World.block_lt_of_cell? w _ hw922_2)).trans hw922_2), ((HB.out.cell (World.block_lt_of_cell? w _ hw922_3)).trans hw922_3), ((HB.out.cell (World.block_lt_of_cell? w _ hw922_4)).trans hw922_4), ((HB.out.cell (World.block_lt_of_cell? w _ hw922_5)).trans hw922_5)⟩ (fun hHeld => ?_)
             clear hK K
             refine nA ?_
             refine pA 8 31 (mL 45 511) HT_ rfl rfl ?_
             refine pA 9 32 (mL 45 1023) HT_ rfl rfl ?_
             refine pA 10 33 (mL 45 2047) HT_ rfl rfl ?_
             refine pA 11 34 (mL 45 4095) HT_ rfl rfl ?_
             refine pA 13 36 (mL 45 12287) HT_ rfl rfl ?_
             refine pA 16 39 (mL 45 77823) HT_ rfl rfl ?_
             refine tA 12 35 (mL 45 81919) HT_ HW_ hHeld rfl rfl (by rintro w' ⟨s0, s1, s2, s3, s4, s5, s6, s7, s8, s9, s10, s11, s12, s13⟩; go_simp; with_reducible rfl) ?_
             refine tA 14 37 (mL 45 98303) HT_ HW_ hHeld rfl rfl (by rintro w' ⟨s0, s1, s2, s3, s4, s5, s6, s7, s8, s9, s10, s11, s12, s13⟩; go_simp; with_reducible rfl) ?_
             refine pA 15 38 (mL 45 131071) HT_ rfl rfl ?_
             refine tA 17 40 (mL 45 262143) HT_ HW_ hHeld rfl rfl (by rintro w' ⟨s0, s1, s2, s3, s4, s5, s6, s7, s8, s9, s10, s11, s12, s13⟩; go_simp; with_reducible rfl) ?_
             refine pA 18 41 (mL 45 524287) HT_ rfl rfl ?_
             refine one_ (i := 19) (N := some 42) (mL 45 1048575) rfl rfl (one_of HT_.out KR) (by decide) (fun K hK => ?_)
             refine goes_ Tryz.func80 KR rfl #[.int .i64 ((rd_TEntry l0_1 x18_2).f4), .int .i64 (wrap64 (a0_0 + 1)), .int .i64 (wrap64 (a0_0 + 100000))] (by rfl) rfl rfl TA ?_
             with_reducible refine (spec_l1In.calls ((rd_TEntry l0_1 x18_2).f4) (wrap64 (a0_0 + 1)) (wrap64 (a0_0 + 100000)) true _ A21.out).mono ?_
             rintro e w' ⟨rfl, ⟨nd, rfl⟩⟩
             refine ⟨_, rfl, ?_⟩
             refine hK.out _ _ ⟨bc 0 BK917, bc 1 BK917, bc 2 BK917, bc 3 BK917, bc 4 BK917, bc 5 BK917, bc 0 BK914, bc 1 BK914, ((HB.out.cell (World.block_lt_of_cell? w _ hw922_0)).trans hw922_0), ((HB.out.cell (World.block_lt_of_cell? w _ hw922_1)).trans hw922_1), ((HB.out.cell (World.block_lt_of_cell? w _ hw922_2)).trans hw922_2), ((HB.out.cell (World.block_lt_of_cell? w _ hw922_3)).trans hw922_3), ((HB.out.cell (World.block_lt_of_cell? w _ hw922_4)).trans hw922_4), ((HB.out.cell (World.block_lt_of_cell? w _ hw922_5)).trans hw922_5)⟩ (fun hHeld => ?_)
             clear hK K
             refine nA ?_
             refine pA 20 43 (mL 45 2097151) HT_ rfl rfl ?_
             refine pA 21 44 (mL 45 4194303) HT_ rfl rfl ?_
             refine pA 22 45 (mL 45 8388607) HT_ rfl rfl ?_
             refine pA 23 46 (mL 45 16777215) HT_ rfl rfl ?_
             refine pA 25 48 (mL 45 50331647) HT_ rfl rfl ?_
             refine tA 24 47 (mL 45 67108863) HT_ HW_ hHeld rfl rfl (by rintro w' ⟨s0, s1, s2, s3, s4, s5, s6, s7, s8, s9, s10, s11, s12, s13⟩; go_simp; with_reducible rfl) ?_
             refine tA 26 49 (mL 45 134217727) HT_ HW_ hHeld rfl rfl (by rintro w' ⟨s0, s1, s2, s3, s4, s5, s6, s7, s8, s9, s10, s11, s12, s13⟩; go_simp; with_reducible rfl) ?_
             refine one_ (i := 27) (N := some 50) (mL 45 268435455) rfl rfl (one_of HT_.out KR) (by decide) (fun K hK => ?_)
             refine goes_ Tryz.func80 KR rfl #[.int .i64 ((rd_TEntry l0_1 x18_2).f5), .int .i64 1, .int .i64 a0_0] (by rfl) rfl rfl TA ?_
             with_reducible refine (spec_l1In.calls ((rd_TEntry l0_1 x18_2).f5) 1 a0_0 true _ A23.out).mono ?_
             rintro e w' ⟨rfl, ⟨nd, rfl⟩⟩
             refine ⟨_, rfl, ?_⟩
             refine hK.out _ _ ⟨bc 0 BK917, bc 1 BK917, bc 2 BK917, bc 3 BK917, bc 4 BK917, bc 5 BK917, bc 0 BK914, bc 1 BK914, ((HB.out.cell (World.block_lt_of_cell? w _ hw922_0)).trans hw922_0), ((HB.out.cell (World.block_lt_of_cell? w _ hw922_1)).trans hw922_1), ((HB.out.cell (World.block_lt_of_cell? w _ hw922_2)).trans hw922_2), ((HB.out.cell (World.block_lt_of_cell? w _ hw922_3)).trans hw922_3), ((HB.out.cell (World.block_lt_of_cell? w _ hw922_4)).trans hw922_4), ((HB.out.cell (World.block_lt_of_cell? w _ hw922_5)).trans hw922_5)⟩ (fun hHeld => ?_)
             clear hK K
             refine nA ?_
             refine pA 28 51 (mL 45 536870911) HT_ rfl rfl ?_
             refine pA 29 52 (mL 45 1073741823) HT_ rfl rfl ?_
             refine pA 30 53 (mL 45 2147483647) HT_ rfl rfl ?_
             refine pA 31 54 (mL 45 4294967295) HT_ rfl rfl ?_
             refine pA 32 55 (mL 45 8589934591) HT_ rfl rfl ?_
             refine pA 33 56 (mL 45 17179869183) HT_ rfl rfl ?_
             refine pA 34 57 (mL 45 34359738367) HT_ rfl rfl ?_
             refine pA 36 59 (mL 45 103079215103) HT_ rfl rfl ?_
             refine pA 37 60 (mL 45 240518168575) HT_ rfl rfl ?_
             refine tA 35 58 (mL 45 274877906943) HT_ HW_ hHeld rfl rfl (by rintro w' ⟨s0, s1, s2, s3, s4, s5, s6, s7, s8, s9, s10, s11, s12, s13⟩; go_simp; with_reducible rfl) ?_
             refine pA 38 61 (mL 45 549755813887) HT_ rfl rfl ?_
             refine tA 39 62 (mL 45 1099511627775) HT_ HW_ hHeld rfl rfl (by rintro w' ⟨s0, s1, s2, s3, s4, s5, s6, s7, s8, s9, s10, s11, s12, s13⟩; go_simp; with_reducible rfl) ?_
             refine tA 40 63 (mL 45 2199023255551) HT_ HW_ hHeld rfl rfl (by rintro w' ⟨s0, s1, s2, s3, s4, s5, s6, s7, s8, s9, s10, s11, s12, s13⟩; go_simp; with_reducible rfl) ?_
             refine one_ (i := 41) (N := some 64) (mL 45 4398046511103) rfl rfl (one_of HT_.out KR) (by decide) (fun K hK => ?_)
             refine goes_ Tryz.func83 KR rfl #[.agg #[.string ((rd_TEntry l0_1 (ji26)).f0), .int .i64 ((rd_TEntry l0_1 (ji26)).f1), .bool ((rd_TEntry l0_1 (ji26)).f2), .slice A922_3 ((rd_TEntry l0_1 (ji26)).f3).length c922_3, .int .i64 ((rd_TEntry l0_1 (ji26)).f4), .int .i64 ((rd_TEntry l0_1 (ji26)).f5)], .agg #[.string ((rd_TEntry l0_1 x18_2).f0), .int .i64 ((rd_TEntry l0_1 x18_2).f1), .bool ((rd_TEntry l0_1 x18_2).f2), .slice A916_3 ((rd_TEntry l0_1 x18_2).f3).length c916_3, .int .i64 ((rd_TEntry l0_1 x18_2).f4), .int .i64 ((rd_TEntry l0_1 x18_2).f5)]] (by rfl) rfl rfl (by (try simp only [List.map_toArray, List.map_cons, List.map_nil]); first | done | (simp only [hji26]; rfl) | rfl | (simp only [List.length_drop, List.length_take]; rfl)) ?_
             with_reducible refine (spec_l10Less.calls k2 ((rd_TEntry l0_1 (ji26)).f0) ((rd_TEntry l0_1 (ji26)).f1) ((rd_TEntry l0_1 (ji26)).f2) _ _ ((rd_TEntry l0_1 (ji26)).f3) ((rd_TEntry l0_1 (ji26)).f4) ((rd_TEntry l0_1 (ji26)).f5) ((rd_TEntry l0_1 x18_2).f0) ((rd_TEntry l0_1 x18_2).f1) ((rd_TEntry l0_1 x18_2).f2) _ _ ((rd_TEntry l0_1 x18_2).f3) ((rd_TEntry l0_1 x18_2).f4) ((rd_TEntry l0_1 x18_2).f5) t923 _ ?side1 ?side2 ?side3 ?side4 A29.out).mono ?_
             (case side1 => exact CW ((Kd.C_below HR922_3.out TB)))
             (case side2 => exact HC922_3.out)
             (case side3 => exact CW ((Kd.C_below HR916_3.out TB)))
             (case side4 => exact HC916_3.out)
             rintro e w34 ⟨rfl, hb⟩
             refine ⟨_, rfl, ?_⟩
             replace BK914 := KB BK914 hb
             replace BK917 := KB BK917 hb
             replace HB := BS hb
             (try clear hb)
             (try clear hb2)
             (try clear hk)
             (try clear hi)
             refine hK.out _ _ ⟨bc 0 BK917, bc 1 BK917, bc 2 BK917, bc 3 BK917, bc 4 BK917, bc 5 BK917, bc 0 BK914, bc 1 BK914, ((HB.out.cell (World.block_lt_of_cell? w _ hw922_0)).trans hw922_0), ((HB.out.cell (World.block_lt_of_cell? w _ hw922_1)).trans hw922_1), ((HB.out.cell (World.block_lt_of_cell? w _ hw922_2)).trans hw922_2), ((HB.out.cell (World.block_lt_of_cell? w _ hw922_3)).trans hw922_3), ((HB.out.cell (World.block_lt_of_cell? w _ hw922_4)).trans hw922_4), ((HB.out.cell (World.block_lt_of_cell? w _ hw922_5)).trans hw922_5)⟩ (fun hHeld => ?_)
             clear hK K
             refine nA ?_
             refine pA 42 65 (mL 45 8796093022207) HT_ rfl rfl ?_
             refine pA 43 66 (mL 45 17592186044415) HT_ rfl rfl ?_
             refine pA 44 67 (mL 45 35184372088831) HT_ rfl rfl ?_
             refine done_ (done_of HT_.out KR) ?_
             try go_wp2
             go_meet
             case rel => exact ⟨_, (!t923), TF, H', ⟨by have := HJ1.out; have := HK2.out; first | omega | exact Nat.le_refl _⟩, KW BK914, KW BK917, ⟨TB⟩⟩
            ·rw [if_neg c25] at H
             have c25b0 : decide (0 < x18_2) = false := decide_eq_false c25
             clear c25
             (first | rw [c25b0] | (simp only [i64_w, i32_w]; rw [c25b0]) | skip)
             have H' := Aside0.mk H
             clear H
             try go_wp2
             have n0_ : Aside0 (((((((w14.setCell ⟨gb917, 0, none⟩ (.string ((rd_TEntry l0_1 x18_2).f0))).setCell ⟨gb917, 1, none⟩ (.int .i64 ((rd_TEntry l0_1 x18_2).f1))).setCell ⟨gb917, 2, none⟩ (.bool ((rd_TEntry l0_1 x18_2).f2))).setCell ⟨gb917, 3, none⟩ (.slice A916_3 ((rd_TEntry l0_1 x18_2).f3).length c916_3)).setCell ⟨gb917, 4, none⟩ (.int .i64 ((rd_TEntry l0_1 x18_2).f4))).setCell ⟨gb917, 5, none⟩ (.int .i64 ((rd_TEntry l0_1 x18_2).f5))).heap[gb914]? = some (.cells #[.int .i64 a0_0, .slice (some ad916) l0_1.length c0_1] 54 (0, 0))) := ⟨TS⟩
             have n1_ : Aside0 (((((((w14.setCell ⟨gb917, 0, none⟩ (.string ((rd_TEntry l0_1 x18_2).f0))).setCell ⟨gb917, 1, none⟩ (.int .i64 ((rd_TEntry l0_1 x18_2).f1))).setCell ⟨gb917, 2, none⟩ (.bool ((rd_TEntry l0_1 x18_2).f2))).setCell ⟨gb917, 3, none⟩ (.slice A916_3 ((rd_TEntry l0_1 x18_2).f3).length c916_3)).setCell ⟨gb917, 4, none⟩ (.int .i64 ((rd_TEntry l0_1 x18_2).f4))).setCell ⟨gb917, 5, none⟩ (.int .i64 ((rd_TEntry l0_1 x18_2).f5))).heap[gb917]? = some (.cells #[.string ((rd_TEntry l0_1 x18_2).f0), .int .i64 ((rd_TEntry l0_1 x18_2).f1), .bool ((rd_TEntry l0_1 x18_2).f2), .slice A916_3 ((rd_TEntry l0_1 x18_2).f3).length c916_3, .int .i64 ((rd_TEntry l0_1 x18_2).f4), .int .i64 ((rd_TEntry l0_1 x18_2).f5)] 107 (0, 0))) := ⟨TS⟩
             have n2_ : Aside0 (Below w.heap.size w ((((((w14.setCell ⟨gb917, 0, none⟩ (.string ((rd_TEntry l0_1 x18_2).f0))).setCell ⟨gb917, 1, none⟩ (.int .i64 ((rd_TEntry l0_1 x18_2).f1))).setCell ⟨gb917, 2, none⟩ (.bool ((rd_TEntry l0_1 x18_2).f2))).setCell ⟨gb917, 3, none⟩ (.slice A916_3 ((rd_TEntry l0_1 x18_2).f3).length c916_3)).setCell ⟨gb917, 4, none⟩ (.int .i64 ((rd_TEntry l0_1 x18_2).f4))).setCell ⟨gb917, 5, none⟩ (.int .i64 ((rd_TEntry l0_1 x18_2).f5)))) := ⟨TB⟩
             (try clear BK914)
             (try clear BK917)
             (try clear HB)
             generalize ((((((w14.setCell ⟨gb917, 0, none⟩ (.string ((rd_TEntry l0_1 x18_2).f0))).setCell ⟨gb917, 1, none⟩ (.int .i64 ((rd_TEntry l0_1 x18_2).f1))).setCell ⟨gb917, 2, none⟩ (.bool ((rd_TEntry l0_1 x18_2).f2))).setCell ⟨gb917, 3, none⟩ (.slice A916_3 ((rd_TEntry l0_1 x18_2).f3).length c916_3)).setCell ⟨gb917, 4, none⟩ (.int .i64 ((rd_TEntry l0_1 x18_2).f4))).setCell ⟨gb917, 5, none⟩ (.int .i64 ((rd_TEntry l0_1 x18_2).f5))) = w35 at n0_ n1_ n2_ ⊢
             have BK914 := n0_
             have BK917 := n1_
             have HB := n2_
             clear n0_ n1_ n2_
             replace BK914 := Aside0.mk (blk_drew BK914.out)
             replace BK917 := Aside0.mk (blk_drew BK917.out)
             replace HB := Aside0.mk (below_drew1 HB.out)
             refine start_ (n := 45) (S := fun w' => w'.cell? ⟨gb917, 0, none⟩ = some (.string ((rd_TEntry l0_1 x18_2).f0)) ∧ w'.cell? ⟨gb917, 1, none⟩ = some (.int .i64 ((rd_TEntry l0_1 x18_2).f1)) ∧ w'.cell? ⟨gb917, 2, none⟩ = some (.bool ((rd_TEntry l0_1 x18_2).f2)) ∧ w'.cell? ⟨gb917, 3, none⟩ = some (.slice A916_3 ((rd_TEntry l0_1 x18_2).f3).length c916_3) ∧ w'.cell? ⟨gb917, 4, none⟩ = some (.int .i64 ((rd_TEntry l0_1 x18_2).f4)) ∧ w'.cell? ⟨gb917, 5, none⟩ = some (.int .i64 ((rd_TEntry l0_1 x18_2).f5)) ∧ w'.cell? ⟨gb914, 0, none⟩ = some (.int .i64 a0_0) ∧ w'.cell? ⟨gb914, 1, none⟩ = some (.slice (some ad916) l0_1.length c0_1)) (ds := []) #[false, false, false, false, false, false, false, false, false, false, false, false, false, false, false, false, false, false, false, false, false, false, false, false, false, false, false, false, false, false, false, false, false, false, false, false, false, false, false, false, false, false, false, false, false] KR rfl rfl ⟨bc 0 BK917, bc 1 BK917, bc 2 BK917, bc 3 BK917, bc 4 BK917, bc 5 BK917, bc 0 BK914, bc 1 BK914⟩ (fun hHeld => ?_); refine with_tabW spec_GoodCache.tab6 spec_GoodCache.bits6 (fun HT_ HW_ => ?_)
             generalize w35.drew = w36 at BK914 BK917 HB hHeld ⊢
             refine pA 0 23 (mL 45 1) HT_ rfl rfl ?_
             refine tA 1 24 (mL 45 3) HT_ HW_ hHeld rfl rfl (by rintro w' ⟨s0, s1, s2, s3, s4, s5, s6, s7⟩; go_simp; with_reducible rfl) ?_
             refine one_ (i := 2) (N := some 25) (mL 45 7) rfl rfl (one_of HT_.out KR) (by decide) (fun K hK => ?_)
             refine goes_ Tryz.func81 KR rfl #[.string ((rd_TEntry l0_1 x18_2).f0)] (by rfl) rfl rfl TA ?_
             with_reducible refine (spec_GoodName.calls k2 ((rd_TEntry l0_1 x18_2).f0) true _ A17.out).mono ?_
             rintro e w37 ⟨rfl, hb⟩
             refine ⟨_, rfl, ?_⟩
             replace BK914 := KB BK914 hb
             replace BK917 := KB BK917 hb
             replace HB := BS hb
             (try clear hb)
             (try clear hb2)
             (try clear hk)
             (try clear hi)
             refine hK.out _ _ ⟨bc 0 BK917, bc 1 BK917, bc 2 BK917, bc 3 BK917, bc 4 BK917, bc 5 BK917, bc 0 BK914, bc 1 BK914⟩ (fun hHeld => ?_)
             clear hK K
             refine nA ?_
             refine pA 3 26 (mL 45 15) HT_ rfl rfl ?_
             refine pA 4 27 (mL 45 31) HT_ rfl rfl ?_
             refine pA 5 28 (mL 45 63) HT_ rfl rfl ?_
             refine tA 6 29 (mL 45 127) HT_ HW_ hHeld rfl rfl (by rintro w' ⟨s0, s1, s2, s3, s4, s5, s6, s7⟩; go_simp; with_reducible rfl) ?_
             refine one_ (i := 7) (N := some 30) (mL 45 255) rfl rfl (one_of HT_.out KR) (by decide) (fun K hK => ?_)
             refine goes_ Tryz.func82 KR rfl #[.int .i64 ((rd_TEntry l0_1 x18_2).f1)] (by rfl) rfl rfl TA ?_
             with_reducible refine (spec_l3Type.calls k2 ((rd_TEntry l0_1 x18_2).f1) true _ A19.out).mono ?_
             rintro e w38 ⟨rfl, hb⟩
             refine ⟨_, rfl, ?_⟩
             replace BK914 := KB BK914 hb
             replace BK917 := KB BK917 hb
             replace HB := BS hb
             (try clear hb)
             (try clear hb2)
             (try clear hk)
             (try clear hi)
             refine hK.out _ _ ⟨bc 0 BK917, bc 1 BK917, bc 2 BK917, bc 3 BK917, bc 4 BK917, bc 5 BK917, bc 0 BK914, bc 1 BK914⟩ (fun hHeld => ?_)
             clear hK K
             refine nA ?_
             refine pA 8 31 (mL 45 511) HT_ rfl rfl ?_
             refine pA 9 32 (mL 45 1023) HT_ rfl rfl ?_
             refine pA 10 33 (mL 45 2047) HT_ rfl rfl ?_
             refine pA 11 34 (mL 45 4095) HT_ rfl rfl ?_
             refine pA 13 36 (mL 45 12287) HT_ rfl rfl ?_
             refine pA 16 39 (mL 45 77823) HT_ rfl rfl ?_
             refine tA 12 35 (mL 45 81919) HT_ HW_ hHeld rfl rfl (by rintro w' ⟨s0, s1, s2, s3, s4, s5, s6, s7⟩; go_simp; with_reducible rfl) ?_
             refine tA 14 37 (mL 45 98303) HT_ HW_ hHeld rfl rfl (by rintro w' ⟨s0, s1, s2, s3, s4, s5, s6, s7⟩; go_simp; with_reducible rfl) ?_
             refine pA 15 38 (mL 45 131071) HT_ rfl rfl ?_
             refine tA 17 40 (mL 45 262143) HT_ HW_ hHeld rfl rfl (by rintro w' ⟨s0, s1, s2, s3, s4, s5, s6, s7⟩; go_simp; with_reducible rfl) ?_
             refine pA 18 41 (mL 45 524287) HT_ rfl rfl ?_
             refine one_ (i := 19) (N := some 42) (mL 45 1048575) rfl rfl (one_of HT_.out KR) (by decide) (fun K hK => ?_)
             refine goes_ Tryz.func80 KR rfl #[.int .i64 ((rd_TEntry l0_1 x18_2).f4), .int .i64 (wrap64 (a0_0 + 1)), .int .i64 (wrap64 (a0_0 + 100000))] (by rfl) rfl rfl TA ?_
             with_reducible refine (spec_l1In.calls ((rd_TEntry l0_1 x18_2).f4) (wrap64 (a0_0 + 1)) (wrap64 (a0_0 + 100000)) true _ A21.out).mono ?_
             rintro e w' ⟨rfl, ⟨nd, rfl⟩⟩
             refine ⟨_, rfl, ?_⟩
             refine hK.out _ _ ⟨bc 0 BK917, bc 1 BK917, bc 2 BK917, bc 3 BK917, bc 4 BK917, bc 5 BK917, bc 0 BK914, bc 1 BK914⟩ (fun hHeld => ?_)
             clear hK K
             refine nA ?_
             refine pA 20 43 (mL 45 2097151) HT_ rfl rfl ?_
             refine pA 21 44 (mL 45 4194303) HT_ rfl rfl ?_
             refine pA 22 45 (mL 45 8388607) HT_ rfl rfl ?_
             refine pA 23 46 (mL 45 16777215) HT_ rfl rfl ?_
             refine pA 25 48 (mL 45 50331647) HT_ rfl rfl ?_
             refine tA 24 47 (mL 45 67108863) HT_ HW_ hHeld rfl rfl (by rintro w' ⟨s0, s1, s2, s3, s4, s5, s6, s7⟩; go_simp; with_reducible rfl) ?_
             refine tA 26 49 (mL 45 134217727) HT_ HW_ hHeld rfl rfl (by rintro w' ⟨s0, s1, s2, s3, s4, s5, s6, s7⟩; go_simp; with_reducible rfl) ?_
             refine one_ (i := 27) (N := some 50) (mL 45 268435455) rfl rfl (one_of HT_.out KR) (by decide) (fun K hK => ?_)
             refine goes_ Tryz.func80 KR rfl #[.int .i64 ((rd_TEntry l0_1 x18_2).f5), .int .i64 1, .int .i64 a0_0] (by rfl) rfl rfl TA ?_
             with_reducible refine (spec_l1In.calls ((rd_TEntry l0_1 x18_2).f5) 1 a0_0 true _ A23.out).mono ?_
             rintro e w' ⟨rfl, ⟨nd, rfl⟩⟩
             refine ⟨_, rfl, ?_⟩
             refine hK.out _ _ ⟨bc 0 BK917, bc 1 BK917, bc 2 BK917, bc 3 BK917, bc 4 BK917, bc 5 BK917, bc 0 BK914, bc 1 BK914⟩ (fun hHeld => ?_)
             clear hK K
             refine nA ?_
             refine pA 28 51 (mL 45 536870911) HT_ rfl rfl ?_
             refine pA 29 52 (mL 45 1073741823) HT_ rfl rfl ?_
             refine pA 30 53 (mL 45 2147483647) HT_ rfl rfl ?_
             refine pA 31 54 (mL 45 4294967295) HT_ rfl rfl ?_
             refine pA 32 55 (mL 45 8589934591) HT_ rfl rfl ?_
             refine pA 33 56 (mL 45 17179869183) HT_ rfl rfl ?_
             refine pU 34 57 (mL 45 34359738367) HT_ rfl rfl ?_
             refine pU 35 58 (mL 45 68719476735) HT_ rfl rfl ?_
             refine pU 36 59 (mL 45 137438953471) HT_ rfl rfl ?_
             refine pU 37 60 (mL 45 274877906943) HT_ rfl rfl ?_
             refine pU 38 61 (mL 45 549755813887) HT_ rfl rfl ?_
             refine pU 39 62 (mL 45 1099511627775) HT_ rfl rfl ?_
             refine pU 40 63 (mL 45 2199023255551) HT_ rfl rfl ?_
             refine pU 41 64 (mL 45 4398046511103) HT_ rfl rfl ?_
             refine pU 42 65 (mL 45 8796093022207) HT_ rfl rfl ?_
             refine pA 43 66 (mL 45 17592186044415) HT_ rfl rfl ?_
             refine pA 44 67 (mL 45 35184372088831) HT_ rfl rfl ?_
             refine done_ (done_of HT_.out KR) ?_
             try go_wp2
             go_meet
             case rel => exact ⟨_, (false), TF, H', ⟨by have := HJ1.out; have := HK2.out; first | omega | exact Nat.le_refl _⟩, KW BK914, KW BK917, ⟨TB⟩⟩
           ·replace c24 := Bool.eq_false_iff.mpr c24
            subst c24
            replace H := iff' H
            have H' := Aside0.mk H
            clear H
            try go_wp2
            have n0_ : Aside0 (((((((w14.setCell ⟨gb917, 0, none⟩ (.string ((rd_TEntry l0_1 x18_2).f0))).setCell ⟨gb917, 1, none⟩ (.int .i64 ((rd_TEntry l0_1 x18_2).f1))).setCell ⟨gb917, 2, none⟩ (.bool ((rd_TEntry l0_1 x18_2).f2))).setCell ⟨gb917, 3, none⟩ (.slice A916_3 ((rd_TEntry l0_1 x18_2).f3).length c916_3)).setCell ⟨gb917, 4, none⟩ (.int .i64 ((rd_TEntry l0_1 x18_2).f4))).setCell ⟨gb917, 5, none⟩ (.int .i64 ((rd_TEntry l0_1 x18_2).f5))).heap[gb914]? = some (.cells #[.int .i64 a0_0, .slice (some ad916) l0_1.length c0_1] 54 (0, 0))) := ⟨TS⟩
            have n1_ : Aside0 (((((((w14.setCell ⟨gb917, 0, none⟩ (.string ((rd_TEntry l0_1 x18_2).f0))).setCell ⟨gb917, 1, none⟩ (.int .i64 ((rd_TEntry l0_1 x18_2).f1))).setCell ⟨gb917, 2, none⟩ (.bool ((rd_TEntry l0_1 x18_2).f2))).setCell ⟨gb917, 3, none⟩ (.slice A916_3 ((rd_TEntry l0_1 x18_2).f3).length c916_3)).setCell ⟨gb917, 4, none⟩ (.int .i64 ((rd_TEntry l0_1 x18_2).f4))).setCell ⟨gb917, 5, none⟩ (.int .i64 ((rd_TEntry l0_1 x18_2).f5))).heap[gb917]? = some (.cells #[.string ((rd_TEntry l0_1 x18_2).f0), .int .i64 ((rd_TEntry l0_1 x18_2).f1), .bool ((rd_TEntry l0_1 x18_2).f2), .slice A916_3 ((rd_TEntry l0_1 x18_2).f3).length c916_3, .int .i64 ((rd_TEntry l0_1 x18_2).f4), .int .i64 ((rd_TEntry l0_1 x18_2).f5)] 107 (0, 0))) := ⟨TS⟩
            have n2_ : Aside0 (Below w.heap.size w ((((((w14.setCell ⟨gb917, 0, none⟩ (.string ((rd_TEntry l0_1 x18_2).f0))).setCell ⟨gb917, 1, none⟩ (.int .i64 ((rd_TEntry l0_1 x18_2).f1))).setCell ⟨gb917, 2, none⟩ (.bool ((rd_TEntry l0_1 x18_2).f2))).setCell ⟨gb917, 3, none⟩ (.slice A916_3 ((rd_TEntry l0_1 x18_2).f3).length c916_3)).setCell ⟨gb917, 4, none⟩ (.int .i64 ((rd_TEntry l0_1 x18_2).f4))).setCell ⟨gb917, 5, none⟩ (.int .i64 ((rd_TEntry l0_1 x18_2).f5)))) := ⟨TB⟩
            (try clear BK914)
            (try clear BK917)
            (try clear HB)
            generalize ((((((w14.setCell ⟨gb917, 0, none⟩ (.string ((rd_TEntry l0_1 x18_2).f0))).setCell ⟨gb917, 1, none⟩ (.int .i64 ((rd_TEntry l0_1 x18_2).f1))).setCell ⟨gb917, 2, none⟩ (.bool ((rd_TEntry l0_1 x18_2).f2))).setCell ⟨gb917, 3, none⟩ (.slice A916_3 ((rd_TEntry l0_1 x18_2).f3).length c916_3)).setCell ⟨gb917, 4, none⟩ (.int .i64 ((rd_TEntry l0_1 x18_2).f4))).setCell ⟨gb917, 5, none⟩ (.int .i64 ((rd_TEntry l0_1 x18_2).f5))) = w39 at n0_ n1_ n2_ ⊢
            have BK914 := n0_
            have BK917 := n1_
            have HB := n2_
            clear n0_ n1_ n2_
            replace BK914 := Aside0.mk (blk_drew BK914.out)
            replace BK917 := Aside0.mk (blk_drew BK917.out)
            replace HB := Aside0.mk (below_drew1 HB.out)
            refine start_ (n := 45) (S := fun w' => w'.cell? ⟨gb917, 0, none⟩ = some (.string ((rd_TEntry l0_1 x18_2).f0)) ∧ w'.cell? ⟨gb917, 1, none⟩ = some (.int .i64 ((rd_TEntry l0_1 x18_2).f1)) ∧ w'.cell? ⟨gb917, 2, none⟩ = some (.bool ((rd_TEntry l0_1 x18_2).f2)) ∧ w'.cell? ⟨gb917, 3, none⟩ = some (.slice A916_3 ((rd_TEntry l0_1 x18_2).f3).length c916_3) ∧ w'.cell? ⟨gb917, 4, none⟩ = some (.int .i64 ((rd_TEntry l0_1 x18_2).f4)) ∧ w'.cell? ⟨gb917, 5, none⟩ = some (.int .i64 ((rd_TEntry l0_1 x18_2).f5)) ∧ w'.cell? ⟨gb914, 0, none⟩ = some (.int .i64 a0_0) ∧ w'.cell? ⟨gb914, 1, none⟩ = some (.slice (some ad916) l0_1.length c0_1)) (ds := []) #[false, false, false, false, false, false, false, false, false, false, false, false, false, false, false, false, false, false, false, false, false, false, false, false, false, false, false, false, false, false, false, false, false, false, false, false, false, false, false, false, false, false, false, false, false] KR rfl rfl ⟨bc 0 BK917, bc 1 BK917, bc 2 BK917, bc 3 BK917, bc 4 BK917, bc 5 BK917, bc 0 BK914, bc 1 BK914⟩ (fun hHeld => ?_); refine with_tabW spec_GoodCache.tab6 spec_GoodCache.bits6 (fun HT_ HW_ => ?_)
            generalize w39.drew = w40 at BK914 BK917 HB hHeld ⊢
            refine pA 0 23 (mL 45 1) HT_ rfl rfl ?_
            refine tA 1 24 (mL 45 3) HT_ HW_ hHeld rfl rfl (by rintro w' ⟨s0, s1, s2, s3, s4, s5, s6, s7⟩; go_simp; with_reducible rfl) ?_
            refine one_ (i := 2) (N := some 25) (mL 45 7) rfl rfl (one_of HT_.out KR) (by decide) (fun K hK => ?_)
            refine goes_ Tryz.func81 KR rfl #[.string ((rd_TEntry l0_1 x18_2).f0)] (by rfl) rfl rfl TA ?_
            with_reducible refine (spec_GoodName.calls k2 ((rd_TEntry l0_1 x18_2).f0) true _ A17.out).mono ?_
            rintro e w41 ⟨rfl, hb⟩
            refine ⟨_, rfl, ?_⟩
            replace BK914 := KB BK914 hb
            replace BK917 := KB BK917 hb
            replace HB := BS hb
            (try clear hb)
            (try clear hb2)
            (try clear hk)
            (try clear hi)
            refine hK.out _ _ ⟨bc 0 BK917, bc 1 BK917, bc 2 BK917, bc 3 BK917, bc 4 BK917, bc 5 BK917, bc 0 BK914, bc 1 BK914⟩ (fun hHeld => ?_)
            clear hK K
            refine nA ?_
            refine pA 3 26 (mL 45 15) HT_ rfl rfl ?_
            refine pA 4 27 (mL 45 31) HT_ rfl rfl ?_
            refine pA 5 28 (mL 45 63) HT_ rfl rfl ?_
            refine tA 6 29 (mL 45 127) HT_ HW_ hHeld rfl rfl (by rintro w' ⟨s0, s1, s2, s3, s4, s5, s6, s7⟩; go_simp; with_reducible rfl) ?_
            refine one_ (i := 7) (N := some 30) (mL 45 255) rfl rfl (one_of HT_.out KR) (by decide) (fun K hK => ?_)
            refine goes_ Tryz.func82 KR rfl #[.int .i64 ((rd_TEntry l0_1 x18_2).f1)] (by rfl) rfl rfl TA ?_
            with_reducible refine (spec_l3Type.calls k2 ((rd_TEntry l0_1 x18_2).f1) true _ A19.out).mono ?_
            rintro e w42 ⟨rfl, hb⟩
            refine ⟨_, rfl, ?_⟩
            replace BK914 := KB BK914 hb
            replace BK917 := KB BK917 hb
            replace HB := BS hb
            (try clear hb)
            (try clear hb2)
            (try clear hk)
            (try clear hi)
            refine hK.out _ _ ⟨bc 0 BK917, bc 1 BK917, bc 2 BK917, bc 3 BK917, bc 4 BK917, bc 5 BK917, bc 0 BK914, bc 1 BK914⟩ (fun hHeld => ?_)
            clear hK K
            refine nA ?_
            refine pA 8 31 (mL 45 511) HT_ rfl rfl ?_
            refine pA 9 32 (mL 45 1023) HT_ rfl rfl ?_
            refine pA 10 33 (mL 45 2047) HT_ rfl rfl ?_
            refine pA 11 34 (mL 45 4095) HT_ rfl rfl ?_
            refine pA 13 36 (mL 45 12287) HT_ rfl rfl ?_
            refine pA 16 39 (mL 45 77823) HT_ rfl rfl ?_
            refine tA 12 35 (mL 45 81919) HT_ HW_ hHeld rfl rfl (by rintro w' ⟨s0, s1, s2, s3, s4, s5, s6, s7⟩; go_simp; with_reducible rfl) ?_
            refine tA 14 37 (mL 45 98303) HT_ HW_ hHeld rfl rfl (by rintro w' ⟨s0, s1, s2, s3, s4, s5, s6, s7⟩; go_simp; with_reducible rfl) ?_
            refine pA 15 38 (mL 45 131071) HT_ rfl rfl ?_
            refine tA 17 40 (mL 45 262143) HT_ HW_ hHeld rfl rfl (by rintro w' ⟨s0, s1, s2, s3, s4, s5, s6, s7⟩; go_simp; with_reducible rfl) ?_
            refine pA 18 41 (mL 45 524287) HT_ rfl rfl ?_
            refine one_ (i := 19) (N := some 42) (mL 45 1048575) rfl rfl (one_of HT_.out KR) (by decide) (fun K hK => ?_)
            refine goes_ Tryz.func80 KR rfl #[.int .i64 ((rd_TEntry l0_1 x18_2).f4), .int .i64 (wrap64 (a0_0 + 1)), .int .i64 (wrap64 (a0_0 + 100000))] (by rfl) rfl rfl TA ?_
            with_reducible refine (spec_l1In.calls ((rd_TEntry l0_1 x18_2).f4) (wrap64 (a0_0 + 1)) (wrap64 (a0_0 + 100000)) true _ A21.out).mono ?_
            rintro e w' ⟨rfl, ⟨nd, rfl⟩⟩
            refine ⟨_, rfl, ?_⟩
            refine hK.out _ _ ⟨bc 0 BK917, bc 1 BK917, bc 2 BK917, bc 3 BK917, bc 4 BK917, bc 5 BK917, bc 0 BK914, bc 1 BK914⟩ (fun hHeld => ?_)
            clear hK K
            refine nA ?_
            refine pA 20 43 (mL 45 2097151) HT_ rfl rfl ?_
            refine pA 21 44 (mL 45 4194303) HT_ rfl rfl ?_
            refine pA 22 45 (mL 45 8388607) HT_ rfl rfl ?_
            refine pA 23 46 (mL 45 16777215) HT_ rfl rfl ?_
            refine pA 25 48 (mL 45 50331647) HT_ rfl rfl ?_
            refine tA 24 47 (mL 45 67108863) HT_ HW_ hHeld rfl rfl (by rintro w' ⟨s0, s1, s2, s3, s4, s5, s6, s7⟩; go_simp; with_reducible rfl) ?_
            refine tA 26 49 (mL 45 134217727) HT_ HW_ hHeld rfl rfl (by rintro w' ⟨s0, s1, s2, s3, s4, s5, s6, s7⟩; go_simp; with_reducible rfl) ?_
            refine one_ (i := 27) (N := some 50) (mL 45 268435455) rfl rfl (one_of HT_.out KR) (by decide) (fun K hK => ?_)
            refine goes_ Tryz.func80 KR rfl #[.int .i64 ((rd_TEntry l0_1 x18_2).f5), .int .i64 1, .int .i64 a0_0] (by rfl) rfl rfl TA ?_
            with_reducible refine (spec_l1In.calls ((rd_TEntry l0_1 x18_2).f5) 1 a0_0 false _ A23.out).mono ?_
            rintro e w' ⟨rfl, ⟨nd, rfl⟩⟩
            refine ⟨_, rfl, ?_⟩
            refine hK.out _ _ ⟨bc 0 BK917, bc 1 BK917, bc 2 BK917, bc 3 BK917, bc 4 BK917, bc 5 BK917, bc 0 BK914, bc 1 BK914⟩ (fun hHeld => ?_)
            clear hK K
            refine nA ?_
            refine pA 28 51 (mL 45 536870911) HT_ rfl rfl ?_
            refine pA 29 52 (mL 45 1073741823) HT_ rfl rfl ?_
            refine pA 30 53 (mL 45 2147483647) HT_ rfl rfl ?_
            refine pU 31 54 (mL 45 4294967295) HT_ rfl rfl ?_
            refine pU 32 55 (mL 45 8589934591) HT_ rfl rfl ?_
            refine pU 33 56 (mL 45 17179869183) HT_ rfl rfl ?_
            refine pU 34 57 (mL 45 34359738367) HT_ rfl rfl ?_
            refine pU 35 58 (mL 45 68719476735) HT_ rfl rfl ?_
            refine pU 36 59 (mL 45 137438953471) HT_ rfl rfl ?_
            refine pU 37 60 (mL 45 274877906943) HT_ rfl rfl ?_
            refine pU 38 61 (mL 45 549755813887) HT_ rfl rfl ?_
            refine pU 39 62 (mL 45 1099511627775) HT_ rfl rfl ?_
            refine pU 40 63 (mL 45 2199023255551) HT_ rfl rfl ?_
            refine pU 41 64 (mL 45 4398046511103) HT_ rfl rfl ?_
            refine pU 42 65 (mL 45 8796093022207) HT_ rfl rfl ?_
            refine pU 43 66 (mL 45 17592186044415) HT_ rfl rfl ?_
            refine pA 44 67 (mL 45 35184372088831) HT_ rfl rfl ?_
            refine done_ (done_of HT_.out KR) ?_
            try go_wp2
            go_meet
            case rel => exact ⟨_, (true), TF, H', ⟨by have := HJ1.out; have := HK2.out; first | omega | exact Nat.le_refl _⟩, KW BK914, KW BK917, ⟨TB⟩⟩
          ·replace c22 := Bool.eq_false_iff.mpr c22
           subst c22
           replace H := iff' H
           have H' := Aside0.mk H
           clear H
           try go_wp2
           have n0_ : Aside0 (((((((w14.setCell ⟨gb917, 0, none⟩ (.string ((rd_TEntry l0_1 x18_2).f0))).setCell ⟨gb917, 1, none⟩ (.int .i64 ((rd_TEntry l0_1 x18_2).f1))).setCell ⟨gb917, 2, none⟩ (.bool ((rd_TEntry l0_1 x18_2).f2))).setCell ⟨gb917, 3, none⟩ (.slice A916_3 ((rd_TEntry l0_1 x18_2).f3).length c916_3)).setCell ⟨gb917, 4, none⟩ (.int .i64 ((rd_TEntry l0_1 x18_2).f4))).setCell ⟨gb917, 5, none⟩ (.int .i64 ((rd_TEntry l0_1 x18_2).f5))).heap[gb914]? = some (.cells #[.int .i64 a0_0, .slice (some ad916) l0_1.length c0_1] 54 (0, 0))) := ⟨TS⟩
           have n1_ : Aside0 (((((((w14.setCell ⟨gb917, 0, none⟩ (.string ((rd_TEntry l0_1 x18_2).f0))).setCell ⟨gb917, 1, none⟩ (.int .i64 ((rd_TEntry l0_1 x18_2).f1))).setCell ⟨gb917, 2, none⟩ (.bool ((rd_TEntry l0_1 x18_2).f2))).setCell ⟨gb917, 3, none⟩ (.slice A916_3 ((rd_TEntry l0_1 x18_2).f3).length c916_3)).setCell ⟨gb917, 4, none⟩ (.int .i64 ((rd_TEntry l0_1 x18_2).f4))).setCell ⟨gb917, 5, none⟩ (.int .i64 ((rd_TEntry l0_1 x18_2).f5))).heap[gb917]? = some (.cells #[.string ((rd_TEntry l0_1 x18_2).f0), .int .i64 ((rd_TEntry l0_1 x18_2).f1), .bool ((rd_TEntry l0_1 x18_2).f2), .slice A916_3 ((rd_TEntry l0_1 x18_2).f3).length c916_3, .int .i64 ((rd_TEntry l0_1 x18_2).f4), .int .i64 ((rd_TEntry l0_1 x18_2).f5)] 107 (0, 0))) := ⟨TS⟩
           have n2_ : Aside0 (Below w.heap.size w ((((((w14.setCell ⟨gb917, 0, none⟩ (.string ((rd_TEntry l0_1 x18_2).f0))).setCell ⟨gb917, 1, none⟩ (.int .i64 ((rd_TEntry l0_1 x18_2).f1))).setCell ⟨gb917, 2, none⟩ (.bool ((rd_TEntry l0_1 x18_2).f2))).setCell ⟨gb917, 3, none⟩ (.slice A916_3 ((rd_TEntry l0_1 x18_2).f3).length c916_3)).setCell ⟨gb917, 4, none⟩ (.int .i64 ((rd_TEntry l0_1 x18_2).f4))).setCell ⟨gb917, 5, none⟩ (.int .i64 ((rd_TEntry l0_1 x18_2).f5)))) := ⟨TB⟩
           (try clear BK914)
           (try clear BK917)
           (try clear HB)
           generalize ((((((w14.setCell ⟨gb917, 0, none⟩ (.string ((rd_TEntry l0_1 x18_2).f0))).setCell ⟨gb917, 1, none⟩ (.int .i64 ((rd_TEntry l0_1 x18_2).f1))).setCell ⟨gb917, 2, none⟩ (.bool ((rd_TEntry l0_1 x18_2).f2))).setCell ⟨gb917, 3, none⟩ (.slice A916_3 ((rd_TEntry l0_1 x18_2).f3).length c916_3)).setCell ⟨gb917, 4, none⟩ (.int .i64 ((rd_TEntry l0_1 x18_2).f4))).setCell ⟨gb917, 5, none⟩ (.int .i64 ((rd_TEntry l0_1 x18_2).f5))) = w43 at n0_ n1_ n2_ ⊢
           have BK914 := n0_
           have BK917 := n1_
           have HB := n2_
           clear n0_ n1_ n2_
           replace BK914 := Aside0.mk (blk_drew BK914.out)
           replace BK917 := Aside0.mk (blk_drew BK917.out)
           replace HB := Aside0.mk (below_drew1 HB.out)
           refine start_ (n := 45) (S := fun w' => w'.cell? ⟨gb917, 0, none⟩ = some (.string ((rd_TEntry l0_1 x18_2).f0)) ∧ w'.cell? ⟨gb917, 1, none⟩ = some (.int .i64 ((rd_TEntry l0_1 x18_2).f1)) ∧ w'.cell? ⟨gb917, 2, none⟩ = some (.bool ((rd_TEntry l0_1 x18_2).f2)) ∧ w'.cell? ⟨gb917, 3, none⟩ = some (.slice A916_3 ((rd_TEntry l0_1 x18_2).f3).length c916_3) ∧ w'.cell? ⟨gb917, 4, none⟩ = some (.int .i64 ((rd_TEntry l0_1 x18_2).f4)) ∧ w'.cell? ⟨gb917, 5, none⟩ = some (.int .i64 ((rd_TEntry l0_1 x18_2).f5)) ∧ w'.cell? ⟨gb914, 0, none⟩ = some (.int .i64 a0_0) ∧ w'.cell? ⟨gb914, 1, none⟩ = some (.slice (some ad916) l0_1.length c0_1)) (ds := []) #[false, false, false, false, false, false, false, false, false, false, false, false, false, false, false, false, false, false, false, false, false, false, false, false, false, false, false, false, false, false, false, false, false, false, false, false, false, false, false, false, false, false, false, false, false] KR rfl rfl ⟨bc 0 BK917, bc 1 BK917, bc 2 BK917, bc 3 BK917, bc 4 BK917, bc 5 BK917, bc 0 BK914, bc 1 BK914⟩ (fun hHeld => ?_); refine with_tabW spec_GoodCache.tab6 spec_GoodCache.bits6 (fun HT_ HW_ => ?_)
           generalize w43.drew = w44 at BK914 BK917 HB hHeld ⊢
           refine pA 0 23 (mL 45 1) HT_ rfl rfl ?_
           refine tA 1 24 (mL 45 3) HT_ HW_ hHeld rfl rfl (by rintro w' ⟨s0, s1, s2, s3, s4, s5, s6, s7⟩; go_simp; with_reducible rfl) ?_
           refine one_ (i := 2) (N := some 25) (mL 45 7) rfl rfl (one_of HT_.out KR) (by decide) (fun K hK => ?_)
           refine goes_ Tryz.func81 KR rfl #[.string ((rd_TEntry l0_1 x18_2).f0)] (by rfl) rfl rfl TA ?_
           with_reducible refine (spec_GoodName.calls k2 ((rd_TEntry l0_1 x18_2).f0) true _ A17.out).mono ?_
           rintro e w45 ⟨rfl, hb⟩
           refine ⟨_, rfl, ?_⟩
           replace BK914 := KB BK914 hb
           replace BK917 := KB BK917 hb
           replace HB := BS hb
           (try clear hb)
           (try clear hb2)
           (try clear hk)
           (try clear hi)
           refine hK.out _ _ ⟨bc 0 BK917, bc 1 BK917, bc 2 BK917, bc 3 BK917, bc 4 BK917, bc 5 BK917, bc 0 BK914, bc 1 BK914⟩ (fun hHeld => ?_)
           clear hK K
           refine nA ?_
           refine pA 3 26 (mL 45 15) HT_ rfl rfl ?_
           refine pA 4 27 (mL 45 31) HT_ rfl rfl ?_
           refine pA 5 28 (mL 45 63) HT_ rfl rfl ?_
           refine tA 6 29 (mL 45 127) HT_ HW_ hHeld rfl rfl (by rintro w' ⟨s0, s1, s2, s3, s4, s5, s6, s7⟩; go_simp; with_reducible rfl) ?_
           refine one_ (i := 7) (N := some 30) (mL 45 255) rfl rfl (one_of HT_.out KR) (by decide) (fun K hK => ?_)
           refine goes_ Tryz.func82 KR rfl #[.int .i64 ((rd_TEntry l0_1 x18_2).f1)] (by rfl) rfl rfl TA ?_
           with_reducible refine (spec_l3Type.calls k2 ((rd_TEntry l0_1 x18_2).f1) true _ A19.out).mono ?_
           rintro e w46 ⟨rfl, hb⟩
           refine ⟨_, rfl, ?_⟩
           replace BK914 := KB BK914 hb
           replace BK917 := KB BK917 hb
           replace HB := BS hb
           (try clear hb)
           (try clear hb2)
           (try clear hk)
           (try clear hi)
           refine hK.out _ _ ⟨bc 0 BK917, bc 1 BK917, bc 2 BK917, bc 3 BK917, bc 4 BK917, bc 5 BK917, bc 0 BK914, bc 1 BK914⟩ (fun hHeld => ?_)
           clear hK K
           refine nA ?_
           refine pA 8 31 (mL 45 511) HT_ rfl rfl ?_
           refine pA 9 32 (mL 45 1023) HT_ rfl rfl ?_
           refine pA 10 33 (mL 45 2047) HT_ rfl rfl ?_
           refine pA 11 34 (mL 45 4095) HT_ rfl rfl ?_
           refine pA 13 36 (mL 45 12287) HT_ rfl rfl ?_
           refine pA 16 39 (mL 45 77823) HT_ rfl rfl ?_
           refine tA 12 35 (mL 45 81919) HT_ HW_ hHeld rfl rfl (by rintro w' ⟨s0, s1, s2, s3, s4, s5, s6, s7⟩; go_simp; with_reducible rfl) ?_
           refine tA 14 37 (mL 45 98303) HT_ HW_ hHeld rfl rfl (by rintro w' ⟨s0, s1, s2, s3, s4, s5, s6, s7⟩; go_simp; with_reducible rfl) ?_
           refine pA 15 38 (mL 45 131071) HT_ rfl rfl ?_
           refine tA 17 40 (mL 45 262143) HT_ HW_ hHeld rfl rfl (by rintro w' ⟨s0, s1, s2, s3, s4, s5, s6, s7⟩; go_simp; with_reducible rfl) ?_
           refine pA 18 41 (mL 45 524287) HT_ rfl rfl ?_
           refine one_ (i := 19) (N := some 42) (mL 45 1048575) rfl rfl (one_of HT_.out KR) (by decide) (fun K hK => ?_)
           refine goes_ Tryz.func80 KR rfl #[.int .i64 ((rd_TEntry l0_1 x18_2).f4), .int .i64 (wrap64 (a0_0 + 1)), .int .i64 (wrap64 (a0_0 + 100000))] (by rfl) rfl rfl TA ?_
           with_reducible refine (spec_l1In.calls ((rd_TEntry l0_1 x18_2).f4) (wrap64 (a0_0 + 1)) (wrap64 (a0_0 + 100000)) false _ A21.out).mono ?_
           rintro e w' ⟨rfl, ⟨nd, rfl⟩⟩
           refine ⟨_, rfl, ?_⟩
           refine hK.out _ _ ⟨bc 0 BK917, bc 1 BK917, bc 2 BK917, bc 3 BK917, bc 4 BK917, bc 5 BK917, bc 0 BK914, bc 1 BK914⟩ (fun hHeld => ?_)
           clear hK K
           refine nA ?_
           refine pA 20 43 (mL 45 2097151) HT_ rfl rfl ?_
           refine pA 21 44 (mL 45 4194303) HT_ rfl rfl ?_
           refine pA 22 45 (mL 45 8388607) HT_ rfl rfl ?_
           refine pU 23 46 (mL 45 16777215) HT_ rfl rfl ?_
           refine pU 24 47 (mL 45 33554431) HT_ rfl rfl ?_
           refine pU 25 48 (mL 45 67108863) HT_ rfl rfl ?_
           refine pU 26 49 (mL 45 134217727) HT_ rfl rfl ?_
           refine pU 27 50 (mL 45 268435455) HT_ rfl rfl ?_
           refine pU 28 51 (mL 45 536870911) HT_ rfl rfl ?_
           refine pA 29 52 (mL 45 1073741823) HT_ rfl rfl ?_
           refine pA 30 53 (mL 45 2147483647) HT_ rfl rfl ?_
           refine pU 31 54 (mL 45 4294967295) HT_ rfl rfl ?_
           refine pU 32 55 (mL 45 8589934591) HT_ rfl rfl ?_
           refine pU 33 56 (mL 45 17179869183) HT_ rfl rfl ?_
           refine pU 34 57 (mL 45 34359738367) HT_ rfl rfl ?_
           refine pU 35 58 (mL 45 68719476735) HT_ rfl rfl ?_
           refine pU 36 59 (mL 45 137438953471) HT_ rfl rfl ?_
           refine pU 37 60 (mL 45 274877906943) HT_ rfl rfl ?_
           refine pU 38 61 (mL 45 549755813887) HT_ rfl rfl ?_
           refine pU 39 62 (mL 45 1099511627775) HT_ rfl rfl ?_
           refine pU 40 63 (mL 45 2199023255551) HT_ rfl rfl ?_
           refine pU 41 64 (mL 45 4398046511103) HT_ rfl rfl ?_
           refine pU 42 65 (mL 45 8796093022207) HT_ rfl rfl ?_
           refine pU 43 66 (mL 45 17592186044415) HT_ rfl rfl ?_
           refine pA 44 67 (mL 45 35184372088831) HT_ rfl rfl ?_
           refine done_ (done_of HT_.out KR) ?_
           try go_wp2
           go_meet
           case rel => exact ⟨_, (true), TF, H', ⟨by have := HJ1.out; have := HK2.out; first | omega | exact Nat.le_refl _⟩, KW BK914, KW BK917, ⟨TB⟩⟩
         ·replace c20 := Bool.eq_false_iff.mpr c20
          subst c20
          replace H := iff' H
          have H' := Aside0.mk H
          clear H
          try go_wp2
          have n0_ : Aside0 (((((((w14.setCell ⟨gb917, 0, none⟩ (.string ((rd_TEntry l0_1 x18_2).f0))).setCell ⟨gb917, 1, none⟩ (.int .i64 ((rd_TEntry l0_1 x18_2).f1))).setCell ⟨gb917, 2, none⟩ (.bool ((rd_TEntry l0_1 x18_2).f2))).setCell ⟨gb917, 3, none⟩ (.slice A916_3 ((rd_TEntry l0_1 x18_2).f3).length c916_3)).setCell ⟨gb917, 4, none⟩ (.int .i64 ((rd_TEntry l0_1 x18_2).f4))).setCell ⟨gb917, 5, none⟩ (.int .i64 ((rd_TEntry l0_1 x18_2).f5))).heap[gb914]? = some (.cells #[.int .i64 a0_0, .slice (some ad916) l0_1.length c0_1] 54 (0, 0))) := ⟨TS⟩
          have n1_ : Aside0 (((((((w14.setCell ⟨gb917, 0, none⟩ (.string ((rd_TEntry l0_1 x18_2).f0))).setCell ⟨gb917, 1, none⟩ (.int .i64 ((rd_TEntry l0_1 x18_2).f1))).setCell ⟨gb917, 2, none⟩ (.bool ((rd_TEntry l0_1 x18_2).f2))).setCell ⟨gb917, 3, none⟩ (.slice A916_3 ((rd_TEntry l0_1 x18_2).f3).length c916_3)).setCell ⟨gb917, 4, none⟩ (.int .i64 ((rd_TEntry l0_1 x18_2).f4))).setCell ⟨gb917, 5, none⟩ (.int .i64 ((rd_TEntry l0_1 x18_2).f5))).heap[gb917]? = some (.cells #[.string ((rd_TEntry l0_1 x18_2).f0), .int .i64 ((rd_TEntry l0_1 x18_2).f1), .bool ((rd_TEntry l0_1 x18_2).f2), .slice A916_3 ((rd_TEntry l0_1 x18_2).f3).length c916_3, .int .i64 ((rd_TEntry l0_1 x18_2).f4), .int .i64 ((rd_TEntry l0_1 x18_2).f5)] 107 (0, 0))) := ⟨TS⟩
          have n2_ : Aside0 (Below w.heap.size w ((((((w14.setCell ⟨gb917, 0, none⟩ (.string ((rd_TEntry l0_1 x18_2).f0))).setCell ⟨gb917, 1, none⟩ (.int .i64 ((rd_TEntry l0_1 x18_2).f1))).setCell ⟨gb917, 2, none⟩ (.bool ((rd_TEntry l0_1 x18_2).f2))).setCell ⟨gb917, 3, none⟩ (.slice A916_3 ((rd_TEntry l0_1 x18_2).f3).length c916_3)).setCell ⟨gb917, 4, none⟩ (.int .i64 ((rd_TEntry l0_1 x18_2).f4))).setCell ⟨gb917, 5, none⟩ (.int .i64 ((rd_TEntry l0_1 x18_2).f5)))) := ⟨TB⟩
          (try clear BK914)
          (try clear BK917)
          (try clear HB)
          generalize ((((((w14.setCell ⟨gb917, 0, none⟩ (.string ((rd_TEntry l0_1 x18_2).f0))).setCell ⟨gb917, 1, none⟩ (.int .i64 ((rd_TEntry l0_1 x18_2).f1))).setCell ⟨gb917, 2, none⟩ (.bool ((rd_TEntry l0_1 x18_2).f2))).setCell ⟨gb917, 3, none⟩ (.slice A916_3 ((rd_TEntry l0_1 x18_2).f3).length c916_3)).setCell ⟨gb917, 4, none⟩ (.int .i64 ((rd_TEntry l0_1 x18_2).f4))).setCell ⟨gb917, 5, none⟩ (.int .i64 ((rd_TEntry l0_1 x18_2).f5))) = w47 at n0_ n1_ n2_ ⊢
          have BK914 := n0_
          have BK917 := n1_
          have HB := n2_
          clear n0_ n1_ n2_
          replace BK914 := Aside0.mk (blk_drew BK914.out)
          replace BK917 := Aside0.mk (blk_drew BK917.out)
          replace HB := Aside0.mk (below_drew1 HB.out)
          refine start_ (n := 45) (S := fun w' => w'.cell? ⟨gb917, 0, none⟩ = some (.string ((rd_TEntry l0_1 x18_2).f0)) ∧ w'.cell? ⟨gb917, 1, none⟩ = some (.int .i64 ((rd_TEntry l0_1 x18_2).f1)) ∧ w'.cell? ⟨gb917, 2, none⟩ = some (.bool ((rd_TEntry l0_1 x18_2).f2)) ∧ w'.cell? ⟨gb917, 3, none⟩ = some (.slice A916_3 ((rd_TEntry l0_1 x18_2).f3).length c916_3) ∧ w'.cell? ⟨gb917, 4, none⟩ = some (.int .i64 ((rd_TEntry l0_1 x18_2).f4)) ∧ w'.cell? ⟨gb917, 5, none⟩ = some (.int .i64 ((rd_TEntry l0_1 x18_2).f5))) (ds := []) #[false, false, false, false, false, false, false, false, false, false, false, false, false, false, false, false, false, false, false, false, false, false, false, false, false, false, false, false, false, false, false, false, false, false, false, false, false, false, false, false, false, false, false, false, false] KR rfl rfl ⟨bc 0 BK917, bc 1 BK917, bc 2 BK917, bc 3 BK917, bc 4 BK917, bc 5 BK917⟩ (fun hHeld => ?_); refine with_tabW spec_GoodCache.tab6 spec_GoodCache.bits6 (fun HT_ HW_ => ?_)
          generalize w47.drew = w48 at BK914 BK917 HB hHeld ⊢
          refine pA 0 23 (mL 45 1) HT_ rfl rfl ?_
          refine tA 1 24 (mL 45 3) HT_ HW_ hHeld rfl rfl (by rintro w' ⟨s0, s1, s2, s3, s4, s5⟩; go_simp; with_reducible rfl) ?_
          refine one_ (i := 2) (N := some 25) (mL 45 7) rfl rfl (one_of HT_.out KR) (by decide) (fun K hK => ?_)
          refine goes_ Tryz.func81 KR rfl #[.string ((rd_TEntry l0_1 x18_2).f0)] (by rfl) rfl rfl TA ?_
          with_reducible refine (spec_GoodName.calls k2 ((rd_TEntry l0_1 x18_2).f0) true _ A17.out).mono ?_
          rintro e w49 ⟨rfl, hb⟩
          refine ⟨_, rfl, ?_⟩
          replace BK914 := KB BK914 hb
          replace BK917 := KB BK917 hb
          replace HB := BS hb
          (try clear hb)
          (try clear hb2)
          (try clear hk)
          (try clear hi)
          refine hK.out _ _ ⟨bc 0 BK917, bc 1 BK917, bc 2 BK917, bc 3 BK917, bc 4 BK917, bc 5 BK917⟩ (fun hHeld => ?_)
          clear hK K
          refine nA ?_
          refine pA 3 26 (mL 45 15) HT_ rfl rfl ?_
          refine pA 4 27 (mL 45 31) HT_ rfl rfl ?_
          refine pA 5 28 (mL 45 63) HT_ rfl rfl ?_
          refine tA 6 29 (mL 45 127) HT_ HW_ hHeld rfl rfl (by rintro w' ⟨s0, s1, s2, s3, s4, s5⟩; go_simp; with_reducible rfl) ?_
          refine one_ (i := 7) (N := some 30) (mL 45 255) rfl rfl (one_of HT_.out KR) (by decide) (fun K hK => ?_)
          refine goes_ Tryz.func82 KR rfl #[.int .i64 ((rd_TEntry l0_1 x18_2).f1)] (by rfl) rfl rfl TA ?_
          with_reducible refine (spec_l3Type.calls k2 ((rd_TEntry l0_1 x18_2).f1) false _ A19.out).mono ?_
          rintro e w50 ⟨rfl, hb⟩
          refine ⟨_, rfl, ?_⟩
          replace BK914 := KB BK914 hb
          replace BK917 := KB BK917 hb
          replace HB := BS hb
          (try clear hb)
          (try clear hb2)
          (try clear hk)
          (try clear hi)
          refine hK.out _ _ ⟨bc 0 BK917, bc 1 BK917, bc 2 BK917, bc 3 BK917, bc 4 BK917, bc 5 BK917⟩ (fun hHeld => ?_)
          clear hK K
          refine nA ?_
          refine pA 8 31 (mL 45 511) HT_ rfl rfl ?_
          refine pA 9 32 (mL 45 1023) HT_ rfl rfl ?_
          refine pA 10 33 (mL 45 2047) HT_ rfl rfl ?_
          refine pU 11 34 (mL 45 4095) HT_ rfl rfl ?_
          refine pU 12 35 (mL 45 8191) HT_ rfl rfl ?_
          refine pU 13 36 (mL 45 16383) HT_ rfl rfl ?_
          refine pU 14 37 (mL 45 32767) HT_ rfl rfl ?_
          refine pU 15 38 (mL 45 65535) HT_ rfl rfl ?_
          refine pU 16 39 (mL 45 131071) HT_ rfl rfl ?_
          refine pU 17 40 (mL 45 262143) HT_ rfl rfl ?_
          refine pU 18 41 (mL 45 524287) HT_ rfl rfl ?_
          refine pU 19 42 (mL 45 1048575) HT_ rfl rfl ?_
          refine pU 20 43 (mL 45 2097151) HT_ rfl rfl ?_
          refine pA 21 44 (mL 45 4194303) HT_ rfl rfl ?_
          refine pA 22 45 (mL 45 8388607) HT_ rfl rfl ?_
          refine pU 23 46 (mL 45 16777215) HT_ rfl rfl ?_
          refine pU 24 47 (mL 45 33554431) HT_ rfl rfl ?_
          refine pU 25 48 (mL 45 67108863) HT_ rfl rfl ?_
          refine pU 26 49 (mL 45 134217727) HT_ rfl rfl ?_
          refine pU 27 50 (mL 45 268435455) HT_ rfl rfl ?_
          refine pU 28 51 (mL 45 536870911) HT_ rfl rfl ?_
          refine pA 29 52 (mL 45 1073741823) HT_ rfl rfl ?_
          refine pA 30 53 (mL 45 2147483647) HT_ rfl rfl ?_
          refine pU 31 54 (mL 45 4294967295) HT_ rfl rfl ?_
          refine pU 32 55 (mL 45 8589934591) HT_ rfl rfl ?_
          refine pU 33 56 (mL 45 17179869183) HT_ rfl rfl ?_
          refine pU 34 57 (mL 45 34359738367) HT_ rfl rfl ?_
          refine pU 35 58 (mL 45 68719476735) HT_ rfl rfl ?_
          refine pU 36 59 (mL 45 137438953471) HT_ rfl rfl ?_
          refine pU 37 60 (mL 45 274877906943) HT_ rfl rfl ?_
          refine pU 38 61 (mL 45 549755813887) HT_ rfl rfl ?_
          refine pU 39 62 (mL 45 1099511627775) HT_ rfl rfl ?_
          refine pU 40 63 (mL 45 2199023255551) HT_ rfl rfl ?_
          refine pU 41 64 (mL 45 4398046511103) HT_ rfl rfl ?_
          refine pU 42 65 (mL 45 8796093022207) HT_ rfl rfl ?_
          refine pU 43 66 (mL 45 17592186044415) HT_ rfl rfl ?_
          refine pA 44 67 (mL 45 35184372088831) HT_ rfl rfl ?_
          refine done_ (done_of HT_.out KR) ?_
          try go_wp2
          go_meet
          case rel => exact ⟨_, (true), TF, H', ⟨by have := HJ1.out; have := HK2.out; first | omega | exact Nat.le_refl _⟩, KW BK914, KW BK917, ⟨TB⟩⟩
        ·replace c18 := Bool.eq_false_iff.mpr c18
         subst c18
         replace H := iff' H
         have H' := Aside0.mk H
         clear H
         try go_wp2
         have n0_ : Aside0 (((((((w14.setCell ⟨gb917, 0, none⟩ (.string ((rd_TEntry l0_1 x18_2).f0))).setCell ⟨gb917, 1, none⟩ (.int .i64 ((rd_TEntry l0_1 x18_2).f1))).setCell ⟨gb917, 2, none⟩ (.bool ((rd_TEntry l0_1 x18_2).f2))).setCell ⟨gb917, 3, none⟩ (.slice A916_3 ((rd_TEntry l0_1 x18_2).f3).length c916_3)).setCell ⟨gb917, 4, none⟩ (.int .i64 ((rd_TEntry l0_1 x18_2).f4))).setCell ⟨gb917, 5, none⟩ (.int .i64 ((rd_TEntry l0_1 x18_2).f5))).heap[gb914]? = some (.cells #[.int .i64 a0_0, .slice (some ad916) l0_1.length c0_1] 54 (0, 0))) := ⟨TS⟩
         have n1_ : Aside0 (((((((w14.setCell ⟨gb917, 0, none⟩ (.string ((rd_TEntry l0_1 x18_2).f0))).setCell ⟨gb917, 1, none⟩ (.int .i64 ((rd_TEntry l0_1 x18_2).f1))).setCell ⟨gb917, 2, none⟩ (.bool ((rd_TEntry l0_1 x18_2).f2))).setCell ⟨gb917, 3, none⟩ (.slice A916_3 ((rd_TEntry l0_1 x18_2).f3).length c916_3)).setCell ⟨gb917, 4, none⟩ (.int .i64 ((rd_TEntry l0_1 x18_2).f4))).setCell ⟨gb917, 5, none⟩ (.int .i64 ((rd_TEntry l0_1 x18_2).f5))).heap[gb917]? = some (.cells #[.string ((rd_TEntry l0_1 x18_2).f0), .int .i64 ((rd_TEntry l0_1 x18_2).f1), .bool ((rd_TEntry l0_1 x18_2).f2), .slice A916_3 ((rd_TEntry l0_1 x18_2).f3).length c916_3, .int .i64 ((rd_TEntry l0_1 x18_2).f4), .int .i64 ((rd_TEntry l0_1 x18_2).f5)] 107 (0, 0))) := ⟨TS⟩
         have n2_ : Aside0 (Below w.heap.size w ((((((w14.setCell ⟨gb917, 0, none⟩ (.string ((rd_TEntry l0_1 x18_2).f0))).setCell ⟨gb917, 1, none⟩ (.int .i64 ((rd_TEntry l0_1 x18_2).f1))).setCell ⟨gb917, 2, none⟩ (.bool ((rd_TEntry l0_1 x18_2).f2))).setCell ⟨gb917, 3, none⟩ (.slice A916_3 ((rd_TEntry l0_1 x18_2).f3).length c916_3)).setCell ⟨gb917, 4, none⟩ (.int .i64 ((rd_TEntry l0_1 x18_2).f4))).setCell ⟨gb917, 5, none⟩ (.int .i64 ((rd_TEntry l0_1 x18_2).f5)))) := ⟨TB⟩
         (try clear BK914)
         (try clear BK917)
         (try clear HB)
         generalize ((((((w14.setCell ⟨gb917, 0, none⟩ (.string ((rd_TEntry l0_1 x18_2).f0))).setCell ⟨gb917, 1, none⟩ (.int .i64 ((rd_TEntry l0_1 x18_2).f1))).setCell ⟨gb917, 2, none⟩ (.bool ((rd_TEntry l0_1 x18_2).f2))).setCell ⟨gb917, 3, none⟩ (.slice A916_3 ((rd_TEntry l0_1 x18_2).f3).length c916_3)).setCell ⟨gb917, 4, none⟩ (.int .i64 ((rd_TEntry l0_1 x18_2).f4))).setCell ⟨gb917, 5, none⟩ (.int .i64 ((rd_TEntry l0_1 x18_2).f5))) = w51 at n0_ n1_ n2_ ⊢
         have BK914 := n0_
         have BK917 := n1_
         have HB := n2_
         clear n0_ n1_ n2_
         replace BK914 := Aside0.mk (blk_drew BK914.out)
         replace BK917 := Aside0.mk (blk_drew BK917.out)
         replace HB := Aside0.mk (below_drew1 HB.out)
         refine start_ (n := 45) (S := fun w' => w'.cell? ⟨gb917, 0, none⟩ = some (.string ((rd_TEntry l0_1 x18_2).f0)) ∧ w'.cell? ⟨gb917, 1, none⟩ = some (.int .i64 ((rd_TEntry l0_1 x18_2).f1)) ∧ w'.cell? ⟨gb917, 2, none⟩ = some (.bool ((rd_TEntry l0_1 x18_2).f2)) ∧ w'.cell? ⟨gb917, 3, none⟩ = some (.slice A916_3 ((rd_TEntry l0_1 x18_2).f3).length c916_3) ∧ w'.cell? ⟨gb917, 4, none⟩ = some (.int .i64 ((rd_TEntry l0_1 x18_2).f4)) ∧ w'.cell? ⟨gb917, 5, none⟩ = some (.int .i64 ((rd_TEntry l0_1 x18_2).f5))) (ds := []) #[false, false, false, false, false, false, false, false, false, false, false, false, false, false, false, false, false, false, false, false, false, false, false, false, false, false, false, false, false, false, false, false, false, false, false, false, false, false, false, false, false, false, false, false, false] KR rfl rfl ⟨bc 0 BK917, bc 1 BK917, bc 2 BK917, bc 3 BK917, bc 4 BK917, bc 5 BK917⟩ (fun hHeld => ?_); refine with_tabW spec_GoodCache.tab6 spec_GoodCache.bits6 (fun HT_ HW_ => ?_)
         generalize w51.drew = w52 at BK914 BK917 HB hHeld ⊢
         refine pA 0 23 (mL 45 1) HT_ rfl rfl ?_
         refine tA 1 24 (mL 45 3) HT_ HW_ hHeld rfl rfl (by rintro w' ⟨s0, s1, s2, s3, s4, s5⟩; go_simp; with_reducible rfl) ?_
         refine one_ (i := 2) (N := some 25) (mL 45 7) rfl rfl (one_of HT_.out KR) (by decide) (fun K hK => ?_)
         refine goes_ Tryz.func81 KR rfl #[.string ((rd_TEntry l0_1 x18_2).f0)] (by rfl) rfl rfl TA ?_
         with_reducible refine (spec_GoodName.calls k2 ((rd_TEntry l0_1 x18_2).f0) false _ A17.out).mono ?_
         rintro e w53 ⟨rfl, hb⟩
         refine ⟨_, rfl, ?_⟩
         replace BK914 := KB BK914 hb
         replace BK917 := KB BK917 hb
         replace HB := BS hb
         (try clear hb)
         (try clear hb2)
         (try clear hk)
         (try clear hi)
         refine hK.out _ _ ⟨bc 0 BK917, bc 1 BK917, bc 2 BK917, bc 3 BK917, bc 4 BK917, bc 5 BK917⟩ (fun hHeld => ?_)
         clear hK K
         refine nA ?_
         refine pA 3 26 (mL 45 15) HT_ rfl rfl ?_
         refine pA 4 27 (mL 45 31) HT_ rfl rfl ?_
         refine pU 5 28 (mL 45 63) HT_ rfl rfl ?_
         refine pU 6 29 (mL 45 127) HT_ rfl rfl ?_
         refine pU 7 30 (mL 45 255) HT_ rfl rfl ?_
         refine pU 8 31 (mL 45 511) HT_ rfl rfl ?_
         refine pA 9 32 (mL 45 1023) HT_ rfl rfl ?_
         refine pA 10 33 (mL 45 2047) HT_ rfl rfl ?_
         refine pU 11 34 (mL 45 4095) HT_ rfl rfl ?_
         refine pU 12 35 (mL 45 8191) HT_ rfl rfl ?_
         refine pU 13 36 (mL 45 16383) HT_ rfl rfl ?_
         refine pU 14 37 (mL 45 32767) HT_ rfl rfl ?_
         refine pU 15 38 (mL 45 65535) HT_ rfl rfl ?_
         refine pU 16 39 (mL 45 131071) HT_ rfl rfl ?_
         refine pU 17 40 (mL 45 262143) HT_ rfl rfl ?_
         refine pU 18 41 (mL 45 524287) HT_ rfl rfl ?_
         refine pU 19 42 (mL 45 1048575) HT_ rfl rfl ?_
         refine pU 20 43 (mL 45 2097151) HT_ rfl rfl ?_
         refine pA 21 44 (mL 45 4194303) HT_ rfl rfl ?_
         refine pA 22 45 (mL 45 8388607) HT_ rfl rfl ?_
         refine pU 23 46 (mL 45 16777215) HT_ rfl rfl ?_
         refine pU 24 47 (mL 45 33554431) HT_ rfl rfl ?_
         refine pU 25 48 (mL 45 67108863) HT_ rfl rfl ?_
         refine pU 26 49 (mL 45 134217727) HT_ rfl rfl ?_
         refine pU 27 50 (mL 45 268435455) HT_ rfl rfl ?_
         refine pU 28 51 (mL 45 536870911) HT_ rfl rfl ?_
         refine pA 29 52 (mL 45 1073741823) HT_ rfl rfl ?_
         refine pA 30 53 (mL 45 2147483647) HT_ rfl rfl ?_
         refine pU 31 54 (mL 45 4294967295) HT_ rfl rfl ?_
         refine pU 32 55 (mL 45 8589934591) HT_ rfl rfl ?_
         refine pU 33 56 (mL 45 17179869183) HT_ rfl rfl ?_
         refine pU 34 57 (mL 45 34359738367) HT_ rfl rfl ?_
         refine pU 35 58 (mL 45 68719476735) HT_ rfl rfl ?_
         refine pU 36 59 (mL 45 137438953471) HT_ rfl rfl ?_
         refine pU 37 60 (mL 45 274877906943) HT_ rfl rfl ?_
         refine pU 38 61 (mL 45 549755813887) HT_ rfl rfl ?_
         refine pU 39 62 (mL 45 1099511627775) HT_ rfl rfl ?_
         refine pU 40 63 (mL 45 2199023255551) HT_ rfl rfl ?_
         refine pU 41 64 (mL 45 4398046511103) HT_ rfl rfl ?_
         refine pU 42 65 (mL 45 8796093022207) HT_ rfl rfl ?_
         refine pU 43 66 (mL 45 17592186044415) HT_ rfl rfl ?_
         refine pA 44 67 (mL 45 35184372088831) HT_ rfl rfl ?_
         refine done_ (done_of HT_.out KR) ?_
         try go_wp2
         go_meet
         case rel => exact ⟨_, (true), TF, H', ⟨by have := HJ1.out; have := HK2.out; first | omega | exact Nat.le_refl _⟩, KW BK914, KW BK917, ⟨TB⟩⟩
       case rest =>
        clear HC13
        obtain ⟨kq, x67_12, rfl, HA, HJ12, BK914, BK917, HB⟩ := hcut
        cases kq with
        | zero => exact absurd HA.out (by simp [spec_GoodCache.j2])
        | succ kj12 =>
         have H := HA.out
         clear HA
         simp only [spec_GoodCache.j2] at H
         by_cases c54 : x67_12 = true
         ·subst c54
          replace H := ift H
          obtain rfl := Option.some.inj H
          go_wp2
          go_ret
          exact ⟨TE, TB⟩
         ·replace c54 := Bool.eq_false_iff.mpr c54
          subst c54
          replace H := iff' H
          by_cases c55 : ((rd_TEntry l0_1 x18_2).f2) = true
          ·rw [if_pos c55] at H
           have c55b0 : ((rd_TEntry l0_1 x18_2).f2) = true := c55
           clear c55
           by_cases c56 : (((rd_TEntry l0_1 x18_2).f3).length : Int) > 0
           ·rw [if_pos c56] at H
            have c56b0 : decide (0 < (((rd_TEntry l0_1 x18_2).f3).length : Int)) = true := decide_eq_true c56
            have c56b1 : decide (0 < ((rd_TEntry l0_1 x18_2).f3).length) = true := decide_eq_true (by omega)
            clear c56
            obtain rfl := Option.some.inj H
            have hnb57 := NB917_914.out
            have hnc57 := NB914_917.out
            have hcz58 := cz6 BK917
            go_wp2
            go_ret
            exact ⟨TE, TB⟩
           ·rw [if_neg c56] at H
            have c56b0 : decide (0 < (((rd_TEntry l0_1 x18_2).f3).length : Int)) = false := decide_eq_false c56
            have c56b1 : decide (0 < ((rd_TEntry l0_1 x18_2).f3).length) = false := decide_eq_false (by omega)
            clear c56
            have H' := Aside0.mk H
            clear H
            have hnb59 := NB917_914.out
            have hnc59 := NB914_917.out
            have hcz60 := cz6 BK917
            go_wp2
            go_roundg kj12
            case measure => have := HJ1.out; have := HK2.out; have := HJ12.out; omega
            case rel => exact ⟨(wrap64 (x18_2 + 1)), TF, H', ⟨by have := HJ1.out; have := HK2.out; have := HJ12.out; omega⟩, KW BK914, ⟨TB⟩⟩
          ·rw [if_neg c55] at H
           have c55b0 : ((rd_TEntry l0_1 x18_2).f2) = false := by simpa using c55
           clear c55
           obtain ⟨t924, A61, H⟩ := bnd H
           by_cases c62 : t924 = true
           ·subst c62
            replace H := ift H
            obtain ⟨c63, H⟩ := ifn H
            have c63b0 : decide (0 < (((rd_TEntry l0_1 x18_2).f3).length : Int)) = true := decide_eq_true c63
            have c63b1 : decide (0 < ((rd_TEntry l0_1 x18_2).f3).length) = true := decide_eq_true (by omega)
            clear c63
            by_cases c64 : ((rd_TRecord ((rd_TEntry l0_1 x18_2).f3) 0).f0).toList = ((rd_TEntry l0_1 x18_2).f0).toList
            ·rw [if_pos c64] at H
             have c64b0 : (((rd_TRecord ((rd_TEntry l0_1 x18_2).f3) 0).f0).toList == ((rd_TEntry l0_1 x18_2).f0).toList) = true := beq_iff_eq.mpr c64
             have c64b1 : (((rd_TRecord ((rd_TEntry l0_1 x18_2).f3) 0).f0).toList != ((rd_TEntry l0_1 x18_2).f0).toList) = false := bne_eq_false_iff_eq.mpr c64
             clear c64
             by_cases c65 : ((rd_TRecord ((rd_TEntry l0_1 x18_2).f3) 0).f1) = ((rd_TEntry l0_1 x18_2).f1)
             ·rw [if_pos c65] at H
              have c65b0 : (((rd_TRecord ((rd_TEntry l0_1 x18_2).f3) 0).f1) == ((rd_TEntry l0_1 x18_2).f1)) = true := beq_iff_eq.mpr c65
              have c65b1 : (((rd_TRecord ((rd_TEntry l0_1 x18_2).f3) 0).f1) != ((rd_TEntry l0_1 x18_2).f1)) = false := bne_eq_false_iff_eq.mpr c65
              clear c65
              have H' := Aside0.mk H
              clear H
              have hnb66 := NB917_914.out
              have hnc66 := NB914_917.out
              have hcz67 := cz6 BK917
              try go_wp2
              replace BK914 := Aside0.mk (blk_drew BK914.out)
              replace BK917 := Aside0.mk (blk_drew BK917.out)
              replace HB := Aside0.mk (below_drew1 HB.out)
              have p925 : 0 ≤ (0 : Int) := (by omega)
              have q925 : 0 < (((rd_TEntry l0_1 x18_2).f3).length : Int) := TD
              obtain ⟨ad925, e925, hx925_0, hx925_1, hx925_2, hx925_3⟩ := at_TRecord HR916_3.out 0 p925 q925
              have hw925_3 := hx925_3
              (try rw [show ((0 : Int)).toNat = 0 from rfl] at hw925_3)
              (try rw [show 0 * 4 = 0 from rfl] at hw925_3)
              (try rw [Addr.add_zero'] at hw925_3)
              have hw925_2 := hx925_2
              (try rw [show ((0 : Int)).toNat = 0 from rfl] at hw925_2)
              (try rw [show 0 * 4 = 0 from rfl] at hw925_2)
              (try rw [Addr.add_zero'] at hw925_2)
              have hw925_1 := hx925_1
              (try rw [show ((0 : Int)).toNat = 0 from rfl] at hw925_1)
              (try rw [show 0 * 4 = 0 from rfl] at hw925_1)
              (try rw [Addr.add_zero'] at hw925_1)
              have hw925_0 := hx925_0
              (try rw [show ((0 : Int)).toNat = 0 from rfl] at hw925_0)
              (try rw [show 0 * 4 = 0 from rfl] at hw925_0)
              (try rw [Addr.add_zero'] at hw925_0)
              cases e925
              have qi925 : (0 < ((rd_TEntry l0_1 x18_2).f3).length) = True := eq_true (by omega)
              (try rw [show ((0 : Int)).toNat = 0 from rfl] at hx925_0)
              (try rw [show 0 * 4 = 0 from rfl] at hx925_0)
              (try rw [Addr.add_zero'] at hx925_0)
              (try rw [show ((0 : Int)).toNat = 0 from rfl] at hx925_1)
              (try rw [show 0 * 4 = 0 from rfl] at hx925_1)
              (try rw [Addr.add_zero'] at hx925_1)
              (try rw [show ((0 : Int)).toNat = 0 from rfl] at hx925_2)
              (try rw [show 0 * 4 = 0 from rfl] at hx925_2)
              (try rw [Addr.add_zero'] at hx925_2)
              (try rw [show ((0 : Int)).toNat = 0 from rfl] at hx925_3)
              (try rw [show 0 * 4 = 0 from rfl] at hx925_3)
              (try rw [Addr.add_zero'] at hx925_3)
              replace hx925_0 := hBc HB hx925_0
              replace hx925_1 := hBc HB hx925_1
              replace hx925_2 := hBc HB hx925_2
              replace hx925_3 := hBc HB hx925_3
              replace p925 := eq_true p925
              replace q925 := eq_true q925
              have p926 : 0 ≤ (0 : Int) := (by omega)
              have q926 : 0 < (((rd_TEntry l0_1 x18_2).f3).length : Int) := TD
              obtain ⟨ad926, e926, hx926_0, hx926_1, hx926_2, hx926_3⟩ := at_TRecord HR916_3.out 0 p926 q926
              have hw926_3 := hx926_3
              (try rw [show ((0 : Int)).toNat = 0 from rfl] at hw926_3)
              (try rw [show 0 * 4 = 0 from rfl] at hw926_3)
              (try rw [Addr.add_zero'] at hw926_3)
              have hw926_2 := hx926_2
              (try rw [show ((0 : Int)).toNat = 0 from rfl] at hw926_2)
              (try rw [show 0 * 4 = 0 from rfl] at hw926_2)
              (try rw [Addr.add_zero'] at hw926_2)
              have hw926_1 := hx926_1
              (try rw [show ((0 : Int)).toNat = 0 from rfl] at hw926_1)
              (try rw [show 0 * 4 = 0 from rfl] at hw926_1)
              (try rw [Addr.add_zero'] at hw926_1)
              have hw926_0 := hx926_0
              (try rw [show ((0 : Int)).toNat = 0 from rfl] at hw926_0)
              (try rw [show 0 * 4 = 0 from rfl] at hw926_0)
              (try rw [Addr.add_zero'] at hw926_0)
              obtain rfl : ad925 = ad926 := (by injection e926)
              have qi926 : (0 < ((rd_TEntry l0_1 x18_2).f3).length) = True := eq_true (by omega)
              (try rw [show ((0 : Int)).toNat = 0 from rfl] at hx926_0)
              (try rw [show 0 * 4 = 0 from rfl] at hx926_0)
              (try rw [Addr.add_zero'] at hx926_0)
              (try rw [show ((0 : Int)).toNat = 0 from rfl] at hx926_1)
              (try rw [show 0 * 4 = 0 from rfl] at hx926_1)
              (try rw [Addr.add_zero'] at hx926_1)
              (try rw [show ((0 : Int)).toNat = 0 from rfl] at hx926_2)
              (try rw [show 0 * 4 = 0 from rfl] at hx926_2)
              (try rw [Addr.add_zero'] at hx926_2)
              (try rw [show ((0 : Int)).toNat = 0 from rfl] at hx926_3)
              (try rw [show 0 * 4 = 0 from rfl] at hx926_3)
              (try rw [Addr.add_zero'] at hx926_3)
              replace hx926_0 := hBc HB hx926_0
              replace hx926_1 := hBc HB hx926_1
              replace hx926_2 := hBc HB hx926_2
              replace hx926_3 := hBc HB hx926_3
              replace p926 := eq_true p926
              replace q926 := eq_true q926
              refine start_ (n := 24) (S := fun w' => w'.cell? ⟨gb917, 0, none⟩ = some (.string ((rd_TEntry l0_1 x18_2).f0)) ∧ w'.cell? ⟨gb917, 1, none⟩ = some (.int .i64 ((rd_TEntry l0_1 x18_2).f1)) ∧ w'.cell? ⟨gb917, 2, none⟩ = some (.bool ((rd_TEntry l0_1 x18_2).f2)) ∧ w'.cell? ⟨gb917, 3, none⟩ = some (.slice (some ad925) ((rd_TEntry l0_1 x18_2).f3).length c916_3) ∧ w'.cell? ⟨gb917, 4, none⟩ = some (.int .i64 ((rd_TEntry l0_1 x18_2).f4)) ∧ w'.cell? ⟨gb917, 5, none⟩ = some (.int .i64 ((rd_TEntry l0_1 x18_2).f5)) ∧ w'.cell? ad925 = some (.string ((rd_TRecord ((rd_TEntry l0_1 x18_2).f3) 0).f0)) ∧ w'.cell? ⟨ad925.block, ad925.off + 1, none⟩ = some (.int .i64 ((rd_TRecord ((rd_TEntry l0_1 x18_2).f3) 0).f1)) ∧ w'.cell? ⟨ad925.block, ad925.off + 2, none⟩ = some (.int .i64 ((rd_TRecord ((rd_TEntry l0_1 x18_2).f3) 0).f2)) ∧ w'.cell? ⟨ad925.block, ad925.off + 3, none⟩ = some (.string ((rd_TRecord ((rd_TEntry l0_1 x18_2).f3) 0).f3)) ∧ w'.cell? ad925 = some (.string ((rd_TRecord ((rd_TEntry l0_1 x18_2).f3) 0).f0)) ∧ w'.cell? ⟨ad925.block, ad925.off + 1, none⟩ = some (.int .i64 ((rd_TRecord ((rd_TEntry l0_1 x18_2).f3) 0).f1)) ∧ w'.cell? ⟨ad925.block, ad925.off + 2, none⟩ = some (.int .i64 ((rd_TRecord ((rd_TEntry l0_1 x18_2).f3) 0).f2)) ∧ w'.cell? ⟨ad925.block, ad925.off + 3, none⟩ = some (.string ((rd_TRecord ((rd_TEntry l0_1 x18_2).f3) 0).f3))) (ds := []) #[false, false, false, false, false, false, false, false, false, false, false, false, false, false, false, false, false, false, false, false, false, false, false, false] KR rfl rfl ⟨bc 0 BK917, bc 1 BK917, bc 2 BK917, bc 3 BK917, bc 4 BK917, bc 5 BK917, ((HB.out.cell (World.block_lt_of_cell? w _ hw925_0)).trans hw925_0), ((HB.out.cell (World.block_lt_of_cell? w _ hw925_1)).trans hw925_1), ((HB.out.cell (World.block_lt_of_cell? w _ hw925_2)).trans hw925_2), ((HB.out.cell (World.block_lt_of_cell? w _ hw925_3)).trans hw925_3), ((HB.out.cell (World.block_lt_of_cell? w _ hw926_0)).trans hw926_0), ((HB.out.cell (World.block_lt_of_cell? w _ hw926_1)).trans hw926_1), ((HB.out.cell (World.block_lt_of_cell? w _ hw926_2)).trans hw926_2), ((HB.out.cell (World.block_lt_of_cell? w _ hw926_3)).trans hw926_3)⟩ (fun hHeld => ?_); refine with_tabW spec_GoodCache.tab11 spec_GoodCache.bits11 (fun HT_ HW_ => ?_)
              generalize wc.drew = w68 at BK914 BK917 HB hx925_0 hx925_1 hx925_2 hx925_3 hx926_0 hx926_1 hx926_2 hx926_3 hHeld ⊢
              refine pA 0 74 (mL 24 1) HT_ rfl rfl ?_
              refine tA 1 75 (mL 24 3) HT_ HW_ hHeld rfl rfl (by rintro w' ⟨s0, s1, s2, s3, s4, s5, s6, s7, s8, s9, s10, s11, s12, s13⟩; go_simp; with_reducible rfl) ?_
              refine one_ (i := 2) (N := some 76) (mL 24 7) rfl rfl (one_of HT_.out KR) (by decide) (fun K hK => ?_)
              refine goes_ Tryz.func84 KR rfl #[.slice (some ad925) ((rd_TEntry l0_1 x18_2).f3).length c916_3] (by rfl) rfl rfl TA ?_
              with_reducible refine (spec_l10Same.calls kj12 _ _ ((rd_TEntry l0_1 x18_2).f3) true _ ?side1 ?side2 A61.out).mono ?_
              (case side1 => exact CW ((Kd.C_below HR916_3.out HB.out)))
              (case side2 => exact HC916_3.out)
              rintro e w69 ⟨rfl, hb⟩
              refine ⟨_, rfl, ?_⟩
              replace BK914 := KB BK914 hb
              replace BK917 := KB BK917 hb
              replace HB := BS hb
              (try clear hb)
              (try clear hb2)
              (try clear hk)
              (try clear hi)
              refine hK.out _ _ ⟨bc 0 BK917, bc 1 BK917, bc 2 BK917, bc 3 BK917, bc 4 BK917, bc 5 BK917, ((HB.out.cell (World.block_lt_of_cell? w _ hw925_0)).trans hw925_0), ((HB.out.cell (World.block_lt_of_cell? w _ hw925_1)).trans hw925_1), ((HB.out.cell (World.block_lt_of_cell? w _ hw925_2)).trans hw925_2), ((HB.out.cell (World.block_lt_of_cell? w _ hw925_3)).trans hw925_3), ((HB.out.cell (World.block_lt_of_cell? w _ hw926_0)).trans hw926_0), ((HB.out.cell (World.block_lt_of_cell? w _ hw926_1)).trans hw926_1), ((HB.out.cell (World.block_lt_of_cell? w _ hw926_2)).trans hw926_2), ((HB.out.cell (World.block_lt_of_cell? w _ hw926_3)).trans hw926_3)⟩ (fun hHeld => ?_)
              clear hK K
              refine nA ?_
              refine pA 3 77 (mL 24 15) HT_ rfl rfl ?_
              refine pA 4 78 (mL 24 31) HT_ rfl rfl ?_
              refine pA 5 79 (mL 24 63) HT_ rfl rfl ?_
              refine pA 10 84 (mL 24 1087) HT_ rfl rfl ?_
              refine tA 6 80 (mL 24 1151) HT_ HW_ hHeld rfl rfl (by rintro w' ⟨s0, s1, s2, s3, s4, s5, s6, s7, s8, s9, s10, s11, s12, s13⟩; go_simp; with_reducible rfl) ?_
              refine pA 7 81 (mL 24 1279) HT_ rfl rfl ?_
              refine pA 8 82 (mL 24 1535) HT_ rfl rfl ?_
              refine tA 9 83 (mL 24 2047) HT_ HW_ hHeld rfl rfl (by rintro w' ⟨s0, s1, s2, s3, s4, s5, s6, s7, s8, s9, s10, s11, s12, s13⟩; go_simp; with_reducible rfl) ?_
              refine tA 11 85 (mL 24 4095) HT_ HW_ hHeld rfl rfl (by rintro w' ⟨s0, s1, s2, s3, s4, s5, s6, s7, s8, s9, s10, s11, s12, s13⟩; go_simp; with_reducible rfl) ?_
              refine pA 12 86 (mL 24 8191) HT_ rfl rfl ?_
              refine pA 13 87 (mL 24 16383) HT_ rfl rfl ?_
              refine pA 14 88 (mL 24 32767) HT_ rfl rfl ?_
              refine pA 15 89 (mL 24 65535) HT_ rfl rfl ?_
              refine pA 20 94 (mL 24 1114111) HT_ rfl rfl ?_
              refine tA 16 90 (mL 24 1179647) HT_ HW_ hHeld rfl rfl (by rintro w' ⟨s0, s1, s2, s3, s4, s5, s6, s7, s8, s9, s10, s11, s12, s13⟩; go_simp; with_reducible rfl) ?_
              refine pA 17 91 (mL 24 1310719) HT_ rfl rfl ?_
              refine pA 18 92 (mL 24 1572863) HT_ rfl rfl ?_
              refine tA 19 93 (mL 24 2097151) HT_ HW_ hHeld rfl rfl (by rintro w' ⟨s0, s1, s2, s3, s4, s5, s6, s7, s8, s9, s10, s11, s12, s13⟩; go_simp; with_reducible rfl) ?_
              refine tA 21 95 (mL 24 4194303) HT_ HW_ hHeld rfl rfl (by rintro w' ⟨s0, s1, s2, s3, s4, s5, s6, s7, s8, s9, s10, s11, s12, s13⟩; go_simp; with_reducible rfl) ?_
              refine pA 22 96 (mL 24 8388607) HT_ rfl rfl ?_
              refine pA 23 97 (mL 24 16777215) HT_ rfl rfl ?_
              refine done_ (done_of HT_.out KR) ?_
              try go_wp2
              go_roundg kj12
              case measure => have := HJ1.out; have := HK2.out; have := HJ12.out; omega
              case rel => exact ⟨(wrap64 (x18_2 + 1)), TF, H', ⟨by have := HJ1.out; have := HK2.out; have := HJ12.out; omega⟩, KW BK914, ⟨TB⟩⟩
             ·rw [if_neg c65] at H
              have c65b0 : (((rd_TRecord ((rd_TEntry l0_1 x18_2).f3) 0).f1) == ((rd_TEntry l0_1 x18_2).f1)) = false := beq_eq_false_iff_ne.mpr c65
              have c65b1 : (((rd_TRecord ((rd_TEntry l0_1 x18_2).f3) 0).f1) != ((rd_TEntry l0_1 x18_2).f1)) = true := bne_iff_ne.mpr c65
              obtain rfl := Option.some.inj H
              have hnb70 := NB917_914.out
              have hnc70 := NB914_917.out
              have hcz71 := cz6 BK917
              try go_wp2
              replace BK914 := Aside0.mk (blk_drew BK914.out)
              replace BK917 := Aside0.mk (blk_drew BK917.out)
              replace HB := Aside0.mk (below_drew1 HB.out)
              have p925 : 0 ≤ (0 : Int) := (by omega)
              have q925 : 0 < (((rd_TEntry l0_1 x18_2).f3).length : Int) := TD
              obtain ⟨ad925, e925, hx925_0, hx925_1, hx925_2, hx925_3⟩ := at_TRecord HR916_3.out 0 p925 q925
              have hw925_3 := hx925_3
              (try rw [show ((0 : Int)).toNat = 0 from rfl] at hw925_3)
              (try rw [show 0 * 4 = 0 from rfl] at hw925_3)
              (try rw [Addr.add_zero'] at hw925_3)
              have hw925_2 := hx925_2
              (try rw [show ((0 : Int)).toNat = 0 from rfl] at hw925_2)
              (try rw [show 0 * 4 = 0 from rfl] at hw925_2)
              (try rw [Addr.add_zero'] at hw925_2)
              have hw925_1 := hx925_1
              (try rw [show ((0 : Int)).toNat = 0 from rfl] at hw925_1)
              (try rw [show 0 * 4 = 0 from rfl] at hw925_1)
              (try rw [Addr.add_zero'] at hw925_1)
              have hw925_0 := hx925_0
              (try rw [show ((0 : Int)).toNat = 0 from rfl] at hw925_0)
              (try rw [show 0 * 4 = 0 from rfl] at hw925_0)
              (try rw [Addr.add_zero'] at hw925_0)
              cases e925
              have qi925 : (0 < ((rd_TEntry l0_1 x18_2).f3).length) = True := eq_true (by omega)
              (try rw [show ((0 : Int)).toNat = 0 from rfl] at hx925_0)
              (try rw [show 0 * 4 = 0 from rfl] at hx925_0)
              (try rw [Addr.add_zero'] at hx925_0)
              (try rw [show ((0 : Int)).toNat = 0 from rfl] at hx925_1)
              (try rw [show 0 * 4 = 0 from rfl] at hx925_1)
              (try rw [Addr.add_zero'] at hx925_1)
              (try rw [show ((0 : Int)).toNat = 0 from rfl] at hx925_2)
              (try rw [show 0 * 4 = 0 from rfl] at hx925_2)
              (try rw [Addr.add_zero'] at hx925_2)
              (try rw [show ((0 : Int)).toNat = 0 from rfl] at hx925_3)
              (try rw [show 0 * 4 = 0 from rfl] at hx925_3)
              (try rw [Addr.add_zero'] at hx925_3)
              replace hx925_0 := hBc HB hx925_0
              replace hx925_1 := hBc HB hx925_1
              replace hx925_2 := hBc HB hx925_2
              replace hx925_3 := hBc HB hx925_3
              replace p925 := eq_true p925
              replace q925 := eq_true q925
              have p926 : 0 ≤ (0 : Int) := (by omega)
              have q926 : 0 < (((rd_TEntry l0_1 x18_2).f3).length : Int) := TD
              obtain ⟨ad926, e926, hx926_0, hx926_1, hx926_2, hx926_3⟩ := at_TRecord HR916_3.out 0 p926 q926
              have hw926_3 := hx926_3
              (try rw [show ((0 : Int)).toNat = 0 from rfl] at hw926_3)
              (try rw [show 0 * 4 = 0 from rfl] at hw926_3)
              (try rw [Addr.add_zero'] at hw926_3)
              have hw926_2 := hx926_2
              (try rw [show ((0 : Int)).toNat = 0 from rfl] at hw926_2)
              (try rw [show 0 * 4 = 0 from rfl] at hw926_2)
              (try rw [Addr.add_zero'] at hw926_2)
              have hw926_1 := hx926_1
              (try rw [show ((0 : Int)).toNat = 0 from rfl] at hw926_1)
              (try rw [show 0 * 4 = 0 from rfl] at hw926_1)
              (try rw [Addr.add_zero'] at hw926_1)
              have hw926_0 := hx926_0
              (try rw [show ((0 : Int)).toNat = 0 from rfl] at hw926_0)
              (try rw [show 0 * 4 = 0 from rfl] at hw926_0)
              (try rw [Addr.add_zero'] at hw926_0)
              obtain rfl : ad925 = ad926 := (by injection e926)
              have qi926 : (0 < ((rd_TEntry l0_1 x18_2).f3).length) = True := eq_true (by omega)
              (try rw [show ((0 : Int)).toNat = 0 from rfl] at hx926_0)
              (try rw [show 0 * 4 = 0 from rfl] at hx926_0)
              (try rw [Addr.add_zero'] at hx926_0)
              (try rw [show ((0 : Int)).toNat = 0 from rfl] at hx926_1)
              (try rw [show 0 * 4 = 0 from rfl] at hx926_1)
              (try rw [Addr.add_zero'] at hx926_1)
              (try rw [show ((0 : Int)).toNat = 0 from rfl] at hx926_2)
              (try rw [show 0 * 4 = 0 from rfl] at hx926_2)
              (try rw [Addr.add_zero'] at hx926_2)
              (try rw [show ((0 : Int)).toNat = 0 from rfl] at hx926_3)
              (try rw [show 0 * 4 = 0 from rfl] at hx926_3)
              (try rw [Addr.add_zero'] at hx926_3)
              replace hx926_0 := hBc HB hx926_0
              replace hx926_1 := hBc HB hx926_1
              replace hx926_2 := hBc HB hx926_2
              replace hx926_3 := hBc HB hx926_3
              replace p926 := eq_true p926
              replace q926 := eq_true q926
              refine start_ (n := 24) (S := fun w' => w'.cell? ⟨gb917, 0, none⟩ = some (.string ((rd_TEntry l0_1 x18_2).f0)) ∧ w'.cell? ⟨gb917, 1, none⟩ = some (.int .i64 ((rd_TEntry l0_1 x18_2).f1)) ∧ w'.cell? ⟨gb917, 2, none⟩ = some (.bool ((rd_TEntry l0_1 x18_2).f2)) ∧ w'.cell? ⟨gb917, 3, none⟩ = some (.slice (some ad925) ((rd_TEntry l0_1 x18_2).f3).length c916_3) ∧ w'.cell? ⟨gb917, 4, none⟩ = some (.int .i64 ((rd_TEntry l0_1 x18_2).f4)) ∧ w'.cell? ⟨gb917, 5, none⟩ = some (.int .i64 ((rd_TEntry l0_1 x18_2).f5)) ∧ w'.cell? ad925 = some (.string ((rd_TRecord ((rd_TEntry l0_1 x18_2).f3) 0).f0)) ∧ w'.cell? ⟨ad925.block, ad925.off + 1, none⟩ = some (.int .i64 ((rd_TRecord ((rd_TEntry l0_1 x18_2).f3) 0).f1)) ∧ w'.cell? ⟨ad925.block, ad925.off + 2, none⟩ = some (.int .i64 ((rd_TRecord ((rd_TEntry l0_1 x18_2).f3) 0).f2)) ∧ w'.cell? ⟨ad925.block, ad925.off + 3, none⟩ = some (.string ((rd_TRecord ((rd_TEntry l0_1 x18_2).f3) 0).f3)) ∧ w'.cell? ad925 = some (.string ((rd_TRecord ((rd_TEntry l0_1 x18_2).f3) 0).f0)) ∧ w'.cell? ⟨ad925.block, ad925.off + 1, none⟩ = some (.int .i64 ((rd_TRecord ((rd_TEntry l0_1 x18_2).f3) 0).f1)) ∧ w'.cell? ⟨ad925.block, ad925.off + 2, none⟩ = some (.int .i64 ((rd_TRecord ((rd_TEntry l0_1 x18_2).f3) 0).f2)) ∧ w'.cell? ⟨ad925.block, ad925.off + 3, none⟩ = some (.string ((rd_TRecord ((rd_TEntry l0_1 x18_2).f3) 0).f3))) (ds := []) #[false, false, false, false, false, false, false, false, false, false, false, false, false, false, false, false, false, false, false, false, false, false, false, false] KR rfl rfl ⟨bc 0 BK917, bc 1 BK917, bc 2 BK917, bc 3 BK917, bc 4 BK917, bc 5 BK917, ((HB.out.cell (World.block_lt_of_cell? w _ hw925_0)).trans hw925_0), ((HB.out.cell (World.block_lt_of_cell? w _ hw925_1)).trans hw925_1), ((HB.out.cell (World.block_lt_of_cell? w _ hw925_2)).trans hw925_2), ((HB.out.cell (World.block_lt_of_cell? w _ hw925_3)).trans hw925_3), ((HB.out.cell (World.block_lt_of_cell? w _ hw926_0)).trans hw926_0), ((HB.out.cell (World.block_lt_of_cell? w _ hw926_1)).trans hw926_1), ((HB.out.cell (World.block_lt_of_cell? w _ hw926_2)).trans hw926_2), ((HB.out.cell (World.block_lt_of_cell? w _ hw926_3)).trans hw926_3)⟩ (fun hHeld => ?_); refine with_tabW spec_GoodCache.tab11 spec_GoodCache.bits11 (fun HT_ HW_ => ?_)
              generalize wc.drew = w72 at BK914 BK917 HB hx925_0 hx925_1 hx925_2 hx925_3 hx926_0 hx926_1 hx926_2 hx926_3 hHeld ⊢
              refine pA 0 74 (mL 24 1) HT_ rfl rfl ?_
              refine tA 1 75 (mL 24 3) HT_ HW_ hHeld rfl rfl (by rintro w' ⟨s0, s1, s2, s3, s4, s5, s6, s7, s8, s9, s10, s11, s12, s13⟩; go_simp; with_reducible rfl) ?_
              refine one_ (i := 2) (N := some 76) (mL 24 7) rfl rfl (one_of HT_.out KR) (by decide) (fun K hK => ?_)
              refine goes_ Tryz.func84 KR rfl #[.slice (some ad925) ((rd_TEntry l0_1 x18_2).f3).length c916_3] (by rfl) rfl rfl TA ?_
              with_reducible refine (spec_l10Same.calls kj12 _ _ ((rd_TEntry l0_1 x18_2).f3) true _ ?side1 ?side2 A61.out).mono ?_
              (case side1 => exact CW ((Kd.C_below HR916_3.out HB.out)))
              (case side2 => exact HC916_3.out)
              rintro e w73 ⟨rfl, hb⟩
              refine ⟨_, rfl, ?_⟩
              replace BK914 := KB BK914 hb
              replace BK917 := KB BK917 hb
              replace HB := BS hb
              (try clear hb)
              (try clear hb2)
              (try clear hk)
              (try clear hi)
              refine hK.out _ _ ⟨bc 0 BK917, bc 1 BK917, bc 2 BK917, bc 3 BK917, bc 4 BK917, bc 5 BK917, ((HB.out.cell (World.block_lt_of_cell? w _ hw925_0)).trans hw925_0), ((HB.out.cell (World.block_lt_of_cell? w _ hw925_1)).trans hw925_1), ((HB.out.cell (World.block_lt_of_cell? w _ hw925_2)).trans hw925_2), ((HB.out.cell (World.block_lt_of_cell? w _ hw925_3)).trans hw925_3), ((HB.out.cell (World.block_lt_of_cell? w _ hw926_0)).trans hw926_0), ((HB.out.cell (World.block_lt_of_cell? w _ hw926_1)).trans hw926_1), ((HB.out.cell (World.block_lt_of_cell? w _ hw926_2)).trans hw926_2), ((HB.out.cell (World.block_lt_of_cell? w _ hw926_3)).trans hw926_3)⟩ (fun hHeld => ?_)
              clear hK K
              refine nA ?_
              refine pA 3 77 (mL 24 15) HT_ rfl rfl ?_
              refine pA 4 78 (mL 24 31) HT_ rfl rfl ?_
              refine pA 5 79 (mL 24 63) HT_ rfl rfl ?_
              refine pA 10 84 (mL 24 1087) HT_ rfl rfl ?_
              refine tA 6 80 (mL 24 1151) HT_ HW_ hHeld rfl rfl (by rintro w' ⟨s0, s1, s2, s3, s4, s5, s6, s7, s8, s9, s10, s11, s12, s13⟩; go_simp; with_reducible rfl) ?_
              refine pA 7 81 (mL 24 1279) HT_ rfl rfl ?_
              refine pA 8 82 (mL 24 1535) HT_ rfl rfl ?_
              refine tA 9 83 (mL 24 2047) HT_ HW_ hHeld rfl rfl (by rintro w' ⟨s0, s1, s2, s3, s4, s5, s6, s7, s8, s9, s10, s11, s12, s13⟩; go_simp; with_reducible rfl) ?_
              refine tA 11 85 (mL 24 4095) HT_ HW_ hHeld rfl rfl (by rintro w' ⟨s0, s1, s2, s3, s4, s5, s6, s7, s8, s9, s10, s11, s12, s13⟩; go_simp; with_reducible rfl) ?_
              refine pA 12 86 (mL 24 8191) HT_ rfl rfl ?_
              refine pA 13 87 (mL 24 16383) HT_ rfl rfl ?_
              refine pA 14 88 (mL 24 32767) HT_ rfl rfl ?_
              refine pA 15 89 (mL 24 65535) HT_ rfl rfl ?_
              refine pA 20 94 (mL 24 1114111) HT_ rfl rfl ?_
              refine tA 16 90 (mL 24 1179647) HT_ HW_ hHeld rfl rfl (by rintro w' ⟨s0, s1, s2, s3, s4, s5, s6, s7, s8, s9, s10, s11, s12, s13⟩; go_simp; with_reducible rfl) ?_
              refine pA 17 91 (mL 24 1310719) HT_ rfl rfl ?_
              refine pA 18 92 (mL 24 1572863) HT_ rfl rfl ?_
              refine tA 19 93 (mL 24 2097151) HT_ HW_ hHeld rfl rfl (by rintro w' ⟨s0, s1, s2, s3, s4, s5, s6, s7, s8, s9, s10, s11, s12, s13⟩; go_simp; with_reducible rfl) ?_
              refine tA 21 95 (mL 24 4194303) HT_ HW_ hHeld rfl rfl (by rintro w' ⟨s0, s1, s2, s3, s4, s5, s6, s7, s8, s9, s10, s11, s12, s13⟩; go_simp; with_reducible rfl) ?_
              refine pA 22 96 (mL 24 8388607) HT_ rfl rfl ?_
              refine pA 23 97 (mL 24 16777215) HT_ rfl rfl ?_
              refine done_ (done_of HT_.out KR) ?_
              try go_wp2
              go_ret
              exact ⟨TE, TB⟩
            ·rw [if_neg c64] at H
             have c64b0 : (((rd_TRecord ((rd_TEntry l0_1 x18_2).f3) 0).f0).toList == ((rd_TEntry l0_1 x18_2).f0).toList) = false := beq_eq_false_iff_ne.mpr c64
             have c64b1 : (((rd_TRecord ((rd_TEntry l0_1 x18_2).f3) 0).f0).toList != ((rd_TEntry l0_1 x18_2).f0).toList) = true := bne_iff_ne.mpr c64
             obtain rfl := Option.some.inj H
             have hnb74 := NB917_914.out
             have hnc74 := NB914_917.out
             have hcz75 := cz6 BK917
             try go_wp2
             replace BK914 := Aside0.mk (blk_drew BK914.out)
             replace BK917 := Aside0.mk (blk_drew BK917.out)
             replace HB := Aside0.mk (below_drew1 HB.out)
             have p925 : 0 ≤ (0 : Int) := (by omega)
             have q925 : 0 < (((rd_TEntry l0_1 x18_2).f3).length : Int) := TD
             obtain ⟨ad925, e925, hx925_0, hx925_1, hx925_2, hx925_3⟩ := at_TRecord HR916_3.out 0 p925 q925
             have hw925_3 := hx925_3
             (try rw [show ((0 : Int)).toNat = 0 from rfl] at hw925_3)
             (try rw [show 0 * 4 = 0 from rfl] at hw925_3)
             (try rw [Addr.add_zero'] at hw925_3)
             have hw925_2 := hx925_2
             (try rw [show ((0 : Int)).toNat = 0 from rfl] at hw925_2)
             (try rw [show 0 * 4 = 0 from rfl] at hw925_2)
             (try rw [Addr.add_zero'] at hw925_2)
             have hw925_1 := hx925_1
             (try rw [show ((0 : Int)).toNat = 0 from rfl] at hw925_1)
             (try rw [show 0 * 4 = 0 from rfl] at hw925_1)
             (try rw [Addr.add_zero'] at hw925_1)
             have hw925_0 := hx925_0
             (try rw [show ((0 : Int)).toNat = 0 from rfl] at hw925_0)
             (try rw [show 0 * 4 = 0 from rfl] at hw925_0)
             (try rw [Addr.add_zero'] at hw925_0)
             cases e925
             have qi925 : (0 < ((rd_TEntry l0_1 x18_2).f3).length) = True := eq_true (by omega)
             (try rw [show ((0 : Int)).toNat = 0 from rfl] at hx925_0)
             (try rw [show 0 * 4 = 0 from rfl] at hx925_0)
             (try rw [Addr.add_zero'] at hx925_0)
             (try rw [show ((0 : Int)).toNat = 0 from rfl] at hx925_1)
             (try rw [show 0 * 4 = 0 from rfl] at hx925_1)
             (try rw [Addr.add_zero'] at hx925_1)
             (try rw [show ((0 : Int)).toNat = 0 from rfl] at hx925_2)
             (try rw [show 0 * 4 = 0 from rfl] at hx925_2)
             (try rw [Addr.add_zero'] at hx925_2)
             (try rw [show ((0 : Int)).toNat = 0 from rfl] at hx925_3)
             (try rw [show 0 * 4 = 0 from rfl] at hx925_3)
             (try rw [Addr.add_zero'] at hx925_3)
             replace hx925_0 := hBc HB hx925_0
             replace hx925_1 := hBc HB hx925_1
             replace hx925_2 := hBc HB hx925_2
             replace hx925_3 := hBc HB hx925_3
             replace p925 := eq_true p925
             replace q925 := eq_true q925
             refine start_ (n := 24) (S := fun w' => w'.cell? ⟨gb917, 0, none⟩ = some (.string ((rd_TEntry l0_1 x18_2).f0)) ∧ w'.cell? ⟨gb917, 1, none⟩ = some (.int .i64 ((rd_TEntry l0_1 x18_2).f1)) ∧ w'.cell? ⟨gb917, 2, none⟩ = some (.bool ((rd_TEntry l0_1 x18_2).f2)) ∧ w'.cell? ⟨gb917, 3, none⟩ = some (.slice (some ad925) ((rd_TEntry l0_1 x18_2).f3).length c916_3) ∧ w'.cell? ⟨gb917, 4, none⟩ = some (.int .i64 ((rd_TEntry l0_1 x18_2).f4)) ∧ w'.cell? ⟨gb917, 5, none⟩ = some (.int .i64 ((rd_TEntry l0_1 x18_2).f5)) ∧ w'.cell? ad925 = some (.string ((rd_TRecord ((rd_TEntry l0_1 x18_2).f3) 0).f0)) ∧ w'.cell? ⟨ad925.block, ad925.off + 1, none⟩ = some (.int .i64 ((rd_TRecord ((rd_TEntry l0_1 x18_2).f3) 0).f1)) ∧ w'.cell? ⟨ad925.block, ad925.off + 2, none⟩ = some (.int .i64 ((rd_TRecord ((rd_TEntry l0_1 x18_2).f3) 0).f2)) ∧ w'.cell? ⟨ad925.block, ad925.off + 3, none⟩ = some (.string ((rd_TRecord ((rd_TEntry l0_1 x18_2).f3) 0).f3))) (ds := []) #[false, false, false, false, false, false, false, false, false, false, false, false, false, false, false, false, false, false, false, false, false, false, false, false] KR rfl rfl ⟨bc 0 BK917, bc 1 BK917, bc 2 BK917, bc 3 BK917, bc 4 BK917, bc 5 BK917, ((HB.out.cell (World.block_lt_of_cell? w _ hw925_0)).trans hw925_0), ((HB.out.cell (World.block_lt_of_cell? w _ hw925_1)).trans hw925_1), ((HB.out.cell (World.block_lt_of_cell? w _ hw925_2)).trans hw925_2), ((HB.out.cell (World.block_lt_of_cell? w _ hw925_3)).trans hw925_3)⟩ (fun hHeld => ?_); refine with_tabW spec_GoodCache.tab11 spec_GoodCache.bits11 (fun HT_ HW_ => ?_)
             generalize wc.drew = w76 at BK914 BK917 HB hx925_0 hx925_1 hx925_2 hx925_3 hHeld ⊢
             refine pA 0 74 (mL 24 1) HT_ rfl rfl ?_
             refine tA 1 75 (mL 24 3) HT_ HW_ hHeld rfl rfl (by rintro w' ⟨s0, s1, s2, s3, s4, s5, s6, s7, s8, s9⟩; go_simp; with_reducible rfl) ?_
             refine one_ (i := 2) (N := some 76) (mL 24 7) rfl rfl (one_of HT_.out KR) (by decide) (fun K hK => ?_)
             refine goes_ Tryz.func84 KR rfl #[.slice (some ad925) ((rd_TEntry l0_1 x18_2).f3).length c916_3] (by rfl) rfl rfl TA ?_
             with_reducible refine (spec_l10Same.calls kj12 _ _ ((rd_TEntry l0_1 x18_2).f3) true _ ?side1 ?side2 A61.out).mono ?_
             (case side1 => exact CW ((Kd.C_below HR916_3.out HB.out)))
             (case side2 => exact HC916_3.out)
             rintro e w77 ⟨rfl, hb⟩
             refine ⟨_, rfl, ?_⟩
             replace BK914 := KB BK914 hb
             replace BK917 := KB BK917 hb
             replace HB := BS hb
             (try clear hb)
             (try clear hb2)
             (try clear hk)
             (try clear hi)
             refine hK.out _ _ ⟨bc 0 BK917, bc 1 BK917, bc 2 BK917, bc 3 BK917, bc 4 BK917, bc 5 BK917, ((HB.out.cell (World.block_lt_of_cell? w _ hw925_0)).trans hw925_0), ((HB.out.cell (World.block_lt_of_cell? w _ hw925_1)).trans hw925_1), ((HB.out.cell (World.block_lt_of_cell? w _ hw925_2)).trans hw925_2), ((HB.out.cell (World.block_lt_of_cell? w _ hw925_3)).trans hw925_3)⟩ (fun hHeld => ?_)
             clear hK K
             refine nA ?_
             refine pA 3 77 (mL 24 15) HT_ rfl rfl ?_
             refine pA 4 78 (mL 24 31) HT_ rfl rfl ?_
             refine pA 5 79 (mL 24 63) HT_ rfl rfl ?_
             refine pA 10 84 (mL 24 1087) HT_ rfl rfl ?_
             refine tA 6 80 (mL 24 1151) HT_ HW_ hHeld rfl rfl (by rintro w' ⟨s0, s1, s2, s3, s4, s5, s6, s7, s8, s9⟩; go_simp; with_reducible rfl) ?_
             refine pA 7 81 (mL 24 1279) HT_ rfl rfl ?_
             refine pA 8 82 (mL 24 1535) HT_ rfl rfl ?_
             refine tA 9 83 (mL 24 2047) HT_ HW_ hHeld rfl rfl (by rintro w' ⟨s0, s1, s2, s3, s4, s5, s6, s7, s8, s9⟩; go_simp; with_reducible rfl) ?_
             refine tA 11 85 (mL 24 4095) HT_ HW_ hHeld rfl rfl (by rintro w' ⟨s0, s1, s2, s3, s4, s5, s6, s7, s8, s9⟩; go_simp; with_reducible rfl) ?_
             refine pA 12 86 (mL 24 8191) HT_ rfl rfl ?_
             refine pA 13 87 (mL 24 16383) HT_ rfl rfl ?_
             refine pA 14 88 (mL 24 32767) HT_ rfl rfl ?_
             refine pU 15 89 (mL 24 65535) HT_ rfl rfl ?_
             refine pU 16 90 (mL 24 131071) HT_ rfl rfl ?_
             refine pU 17 91 (mL 24 262143) HT_ rfl rfl ?_
             refine pU 18 92 (mL 24 524287) HT_ rfl rfl ?_
             refine pU 19 93 (mL 24 1048575) HT_ rfl rfl ?_
             refine pU 20 94 (mL 24 2097151) HT_ rfl rfl ?_
             refine pU 21 95 (mL 24 4194303) HT_ rfl rfl ?_
             refine pU 22 96 (mL 24 8388607) HT_ rfl rfl ?_
             refine pA 23 97 (mL 24 16777215) HT_ rfl rfl ?_
             refine done_ (done_of HT_.out KR) ?_
             try go_wp2
             go_ret
             exact ⟨TE, TB⟩
           ·replace c62 := Bool.eq_false_iff.mpr c62
            subst c62
            replace H := iff' H
            obtain rfl := Option.some.inj H
            have hnb78 := NB917_914.out
            have hnc78 := NB914_917.out
            have hcz79 := cz6 BK917
            try go_wp2
            replace BK914 := Aside0.mk (blk_drew BK914.out)
            replace BK917 := Aside0.mk (blk_drew BK917.out)
            replace HB := Aside0.mk (below_drew1 HB.out)
            refine start_ (n := 24) (S := fun w' => w'.cell? ⟨gb917, 0, none⟩ = some (.string ((rd_TEntry l0_1 x18_2).f0)) ∧ w'.cell? ⟨gb917, 1, none⟩ = some (.int .i64 ((rd_TEntry l0_1 x18_2).f1)) ∧ w'.cell? ⟨gb917, 2, none⟩ = some (.bool ((rd_TEntry l0_1 x18_2).f2)) ∧ w'.cell? ⟨gb917, 3, none⟩ = some (.slice A916_3 ((rd_TEntry l0_1 x18_2).f3).length c916_3) ∧ w'.cell? ⟨gb917, 4, none⟩ = some (.int .i64 ((rd_TEntry l0_1 x18_2).f4)) ∧ w'.cell? ⟨gb917, 5, none⟩ = some (.int .i64 ((rd_TEntry l0_1 x18_2).f5))) (ds := []) #[false, false, false, false, false, false, false, false, false, false, false, false, false, false, false, false, false, false, false, false, false, false, false, false] KR rfl rfl ⟨bc 0 BK917, bc 1 BK917, bc 2 BK917, bc 3 BK917, bc 4 BK917, bc 5 BK917⟩ (fun hHeld => ?_); refine with_tabW spec_GoodCache.tab11 spec_GoodCache.bits11 (fun HT_ HW_ => ?_)
            generalize wc.drew = w80 at BK914 BK917 HB hHeld ⊢
            refine pA 0 74 (mL 24 1) HT_ rfl rfl ?_
            refine tA 1 75 (mL 24 3) HT_ HW_ hHeld rfl rfl (by rintro w' ⟨s0, s1, s2, s3, s4, s5⟩; go_simp; with_reducible rfl) ?_
            refine one_ (i := 2) (N := some 76) (mL 24 7) rfl rfl (one_of HT_.out KR) (by decide) (fun K hK => ?_)
            refine goes_ Tryz.func84 KR rfl #[.slice A916_3 ((rd_TEntry l0_1 x18_2).f3).length c916_3] (by rfl) rfl rfl TA ?_
            with_reducible refine (spec_l10Same.calls kj12 _ _ ((rd_TEntry l0_1 x18_2).f3) false _ ?side1 ?side2 A61.out).mono ?_
            (case side1 => exact CW ((Kd.C_below HR916_3.out HB.out)))
            (case side2 => exact HC916_3.out)
            rintro e w81 ⟨rfl, hb⟩
            refine ⟨_, rfl, ?_⟩
            replace BK914 := KB BK914 hb
            replace BK917 := KB BK917 hb
            replace HB := BS hb
            (try clear hb)
            (try clear hb2)
            (try clear hk)
            (try clear hi)
            refine hK.out _ _ ⟨bc 0 BK917, bc 1 BK917, bc 2 BK917, bc 3 BK917, bc 4 BK917, bc 5 BK917⟩ (fun hHeld => ?_)
            clear hK K
            refine nA ?_
            refine pA 3 77 (mL 24 15) HT_ rfl rfl ?_
            refine pA 4 78 (mL 24 31) HT_ rfl rfl ?_
            refine pU 5 79 (mL 24 63) HT_ rfl rfl ?_
            refine pU 6 80 (mL 24 127) HT_ rfl rfl ?_
            refine pU 7 81 (mL 24 255) HT_ rfl rfl ?_
            refine pU 8 82 (mL 24 511) HT_ rfl rfl ?_
            refine pU 9 83 (mL 24 1023) HT_ rfl rfl ?_
            refine pU 10 84 (mL 24 2047) HT_ rfl rfl ?_
            refine pU 11 85 (mL 24 4095) HT_ rfl rfl ?_
            refine pU 12 86 (mL 24 8191) HT_ rfl rfl ?_
            refine pA 13 87 (mL 24 16383) HT_ rfl rfl ?_
            refine pA 14 88 (mL 24 32767) HT_ rfl rfl ?_
            refine pU 15 89 (mL 24 65535) HT_ rfl rfl ?_
            refine pU 16 90 (mL 24 131071) HT_ rfl rfl ?_
            refine pU 17 91 (mL 24 262143) HT_ rfl rfl ?_
            refine pU 18 92 (mL 24 524287) HT_ rfl rfl ?_
            refine pU 19 93 (mL 24 1048575) HT_ rfl rfl ?_
            refine pU 20 94 (mL 24 2097151) HT_ rfl rfl ?_
            refine pU 21 95 (mL 24 4194303) HT_ rfl rfl ?_
            refine pU 22 96 (mL 24 8388607) HT_ rfl rfl ?_
            refine pA 23 97 (mL 24 16777215) HT_ rfl rfl ?_
            refine done_ (done_of HT_.out KR) ?_
            try go_wp2
            go_ret
            exact ⟨TE, TB⟩
      ·rw [if_neg c10] at H
       have c10b0 : decide (x18_2 < (l0_1.length : Int)) = false := decide_eq_false c10
       clear c10
       obtain rfl := Option.some.inj H
       go_wp2
       go_ret
       exact ⟨TE, TB⟩
end
section
/-! ### spec_OldestIn: function 34 -/
mutual
def spec_OldestIn.j0 : Nat → Bool → Int → List (S_Entry) → Option (Int × Bool)
 | 0, _, _, _ => none
 | k + 1, x15, x1375000, x1375001 => if x15 = true then (some (0, false)) else (spec_OldestIn.l0 k x1375000 x1375001 (x1375001.length : Int) 0)
def spec_OldestIn.l0 : Nat → Int → List (S_Entry) → Int → Int → Option (Int × Bool)
 | 0, _, _, _, _ => none
 | k + 1, x4, x19, x20, x21 => if x21 < x20 then (if 0 ≤ x21 then (if x21 < (x19.length : Int) then (if ((rd_TEntry x19 x21).f5) < x4 then (spec_OldestIn.l0 k ((rd_TEntry x19 x21).f5) x19 x20 (wrap64 (x21 + 1))) else (spec_OldestIn.l0 k x4 x19 x20 (wrap64 (x21 + 1)))) else (none)) else (none)) else (some (x4, true))
end
def spec_OldestIn.f (k : Nat) (a0_0 : Int) (l0_1 : List (S_Entry)) : Option (Int × Bool) := (spec_GoodCache.f k a0_0 l0_1).bind fun t1375 => (if t1375 = true then (spec_OldestIn.j0 k ((l0_1.length : Int) == 0) a0_0 l0_1) else (spec_OldestIn.j0 k true a0_0 l0_1))
theorem spec_OldestIn.calls (k : Nat) (a0_0 : Int) (A0_1 : Option Addr) (c0_1 : Nat) (l0_1 : List (S_Entry)) (r1 : Int) (r2 : Bool) (w : World) (hr0_1 : Kd.C k_Entry w A0_1 l0_1.length l0_1) (hc0_1 : l0_1.length ≤ c0_1) (h : spec_OldestIn.f k a0_0 l0_1 = some (r1, r2)) :
  Calls Tryz.prog 34 #[.agg #[.int .i64 a0_0, .slice A0_1 l0_1.length c0_1]] w fun e w' => e = .returned (.tuple #[.int .i64 r1, .bool r2]) ∧ Below w.heap.size w w' := by
 have hu54 := Tryz.underlying54
 have hu107 := Tryz.underlying107
 have HR0_1 := Aside0.mk hr0_1
 have HC0_1 := Aside0.mk hc0_1
 clear hr0_1 hc0_1
 have HB := Aside0.mk (Below.refl w.heap.size w)
 have H : ((spec_GoodCache.f k a0_0 l0_1).bind fun t1375 => (if t1375 = true then (spec_OldestIn.j0 k ((l0_1.length : Int) == 0) a0_0 l0_1) else (spec_OldestIn.j0 k true a0_0 l0_1))) = some (r1, r2) := h
 clear h
 have HC2 := Aside0.mk H
 clear H
 go_enter Tryz.func34, Tryz.ntmps34
 go_upto_region 1 with (first | ((with_reducible refine gate_dst (N := 1) rfl ?_); (try (refine gate_guard (by rfl) ?_; dsimp only)); refine bE 1 #[.int .i64 a0_0, .slice A0_1 l0_1.length c0_1] 54 ?_; intro gb1374 hg w3 hbox hb; have BK1374 := Aside0.mk (hbox); have GE1374 := bG hg; replace HB := BS hb; clear hb hbox hg))
 (try simp only [Act.put, List.setIfInBounds_toArray, List.set_cons_zero, List.set_cons_succ])
 go_cut [15] (fun v15 wc => ∃ (kq : Nat) (x15_1 : Bool), v15 = .bool x15_1 ∧ Aside0 (spec_OldestIn.j0 kq x15_1 a0_0 l0_1 = some (r1, r2)) ∧ Aside0 (kq ≤ k) ∧ Aside0 (wc.heap[gb1374]? = some (.cells #[.int .i64 a0_0, (.slice A0_1 l0_1.length c0_1)] 54 (0, 0))) ∧ Aside0 (Below w.heap.size w wc))
 case first =>
  have H := HC2.out
  clear HC2
  obtain ⟨t1375, A4, H⟩ := bnd H
  by_cases c5 : t1375 = true
  ·subst c5
   replace H := ift H
   have H' := Aside0.mk H
   clear H
   have hcz6 := cz2 BK1374
   go_wp2_with (first | ((with_reducible refine gate_callee (f := 30) rfl ?_); refine goesL_ (some 8) rfl rfl Tryz.func30 KR rfl #[.agg #[.int .i64 a0_0, .slice A0_1 l0_1.length c0_1]] rfl TA ?_; (with_reducible refine (spec_GoodCache.calls k a0_0 _ _ l0_1 true _ ?side1 ?side2 A4.out).mono ?_); (case side1 => exact CW ((Kd.C_below HR0_1.out HB.out))); (case side2 => exact HC0_1.out); rintro e w7 ⟨rfl, hb⟩; refine ⟨_, rfl, ?_⟩; replace BK1374 := KB BK1374 hb; replace HB := BS hb; clear hb; have hcz8 := cz2 BK1374))
   go_meet
   case rel => exact ⟨_, (((l0_1.length : Int) == 0)), TF, H', ⟨by first | omega | exact Nat.le_refl _⟩, KW BK1374, ⟨TB⟩⟩
  ·replace c5 := Bool.eq_false_iff.mpr c5
   subst c5
   replace H := iff' H
   have H' := Aside0.mk H
   clear H
   have hcz9 := cz2 BK1374
   go_wp2_with (first | ((with_reducible refine gate_callee (f := 30) rfl ?_); refine goesL_ (some 8) rfl rfl Tryz.func30 KR rfl #[.agg #[.int .i64 a0_0, .slice A0_1 l0_1.length c0_1]] rfl TA ?_; (with_reducible refine (spec_GoodCache.calls k a0_0 _ _ l0_1 false _ ?side1 ?side2 A4.out).mono ?_); (case side1 => exact CW ((Kd.C_below HR0_1.out HB.out))); (case side2 => exact HC0_1.out); rintro e w10 ⟨rfl, hb⟩; refine ⟨_, rfl, ?_⟩; replace BK1374 := KB BK1374 hb; replace HB := BS hb; clear hb))
   go_meet
   case rel => exact ⟨_, (true), TF, H', ⟨by first | omega | exact Nat.le_refl _⟩, KW BK1374, ⟨TB⟩⟩
 case rest =>
  clear HC2
  obtain ⟨kq, x15_1, rfl, HA, HJ1, BK1374, HB⟩ := hcut
  cases kq with
  | zero => exact absurd HA.out (by simp [spec_OldestIn.j0])
  | succ kj1 =>
   have H := HA.out
   clear HA
   simp only [spec_OldestIn.j0] at H
   by_cases c11 : x15_1 = true
   ·subst c11
    replace H := ift H
    simp only [Option.some.injEq, Prod.mk.injEq] at H
    obtain ⟨rfl, rfl⟩ := H
    go_wp2
    go_ret2
    exact ⟨TE, TB⟩
   ·replace c11 := Bool.eq_false_iff.mpr c11
    subst c11
    replace H := iff' H
    have H' := Aside0.mk H
    clear H
    have hcz12 := cz2 BK1374
    go_wp2
    go_loopg [4, 21] kj1 (fun kq v4 v21 w' => ∃ (x4_2 : Int) (x21_2 : Int), v4 = .int .i64 x4_2 ∧ v21 = .int .i64 x21_2 ∧ Aside0 (spec_OldestIn.l0 kq x4_2 l0_1 (l0_1.length : Int) x21_2 = some (r1, r2)) ∧ Aside0 (kq ≤ kj1) ∧ Aside0 (w'.heap[gb1374]? = some (.cells #[.int .i64 a0_0, (.slice A0_1 l0_1.length c0_1)] 54 (0, 0))) ∧ Aside0 (Below w.heap.size w w'))
    case atStart => exact ⟨(a0_0), (0), TF, TF, H', ⟨Nat.le_refl _⟩, KW BK1374, ⟨TB⟩⟩
    case round =>
     clear H'
     obtain ⟨x4_2, x21_2, rfl, rfl, HA, HK2, BK1374, HB⟩ := hrel
     cases gk with
     | zero => exact absurd HA.out (by simp [spec_OldestIn.l0])
     | succ k2 =>
      have H := HA.out
      clear HA
      simp only [spec_OldestIn.l0] at H
      by_cases c13 : x21_2 < (l0_1.length : Int)
      ·rw [if_pos c13] at H
       have c13b0 : decide (x21_2 < (l0_1.length : Int)) = true := decide_eq_true c13
       clear c13
       obtain ⟨c14, H⟩ := ifn H
       have c14b0 : decide (0 ≤ x21_2) = true := decide_eq_true c14
       clear c14
       obtain ⟨c15, H⟩ := ifn H
       have c15b0 : decide (x21_2 < (l0_1.length : Int)) = true := decide_eq_true c15
       clear c15
       by_cases c16 : ((rd_TEntry l0_1 x21_2).f5) < x4_2
       ·rw [if_pos c16] at H
        have c16b0 : decide (((rd_TEntry l0_1 x21_2).f5) < x4_2) = true := decide_eq_true c16
        clear c16
        have H' := Aside0.mk H
        clear H
        have p1376 : 0 ≤ (x21_2 : Int) := TD
        have q1376 : x21_2 < (l0_1.length : Int) := TD
        obtain ⟨ad1376, A1376_3, c1376_3, e1376, hx1376_0, hx1376_1, hx1376_2, hx1376_3, hx1376_4, hx1376_5, hl1376_3, hi1376_3⟩ := at_TEntry HR0_1.out x21_2 p1376 q1376
        cases e1376
        replace hx1376_0 := hBc HB hx1376_0
        replace hx1376_1 := hBc HB hx1376_1
        replace hx1376_2 := hBc HB hx1376_2
        replace hx1376_3 := hBc HB hx1376_3
        replace hx1376_4 := hBc HB hx1376_4
        replace hx1376_5 := hBc HB hx1376_5
        have HR1376_3 := Aside0.mk hi1376_3
        have HC1376_3 := Aside0.mk hl1376_3
        clear hi1376_3 hl1376_3
        replace p1376 := eq_true p1376
        replace q1376 := eq_true q1376
        go_wp2_with (first | ((with_reducible refine gate_dst (N := 6) rfl ?_); (try (refine gate_guard (by rfl) ?_; dsimp only)); refine bE 6 #[.string (⟨#[]⟩ : ByteArray), .int .i64 0, .bool false, .slice none 0 0, .int .i64 0, .int .i64 0] 107 ?_; intro gb1377 hg w17 hbox hb; have BK1377 := Aside0.mk (hbox); have GE1377 := bG hg; replace HB := BS hb; have NB1374_1377 := bN BK1374 hg; have NB1377_1374 := bM BK1374 hg; replace BK1374 := KB BK1374 hb; clear hb hbox hg; obtain ⟨hnb18, hnc18⟩ := nn NB1377_1374; have hcz19 := cz6 BK1377))
        go_roundg k2
        case measure => have := HJ1.out; have := HK2.out; omega
        case rel => exact ⟨((rd_TEntry l0_1 x21_2).f5), (wrap64 (x21_2 + 1)), TF, TF, H', ⟨by have := HJ1.out; have := HK2.out; omega⟩, ⟨TS⟩, ⟨TB⟩⟩
       ·rw [if_neg c16] at H
        have c16b0 : decide (((rd_TEntry l0_1 x21_2).f5) < x4_2) = false := decide_eq_false c16
        clear c16
        have H' := Aside0.mk H
        clear H
        have p1376 : 0 ≤ (x21_2 : Int) := TD
        have q1376 : x21_2 < (l0_1.length : Int) := TD
        obtain ⟨ad1376, A1376_3, c1376_3, e1376, hx1376_0, hx1376_1, hx1376_2, hx1376_3, hx1376_4, hx1376_5, hl1376_3, hi1376_3⟩ := at_TEntry HR0_1.out x21_2 p1376 q1376
        cases e1376
        replace hx1376_0 := hBc HB hx1376_0
        replace hx1376_1 := hBc HB hx1376_1
        replace hx1376_2 := hBc HB hx1376_2
        replace hx1376_3 := hBc HB hx1376_3
        replace hx1376_4 := hBc HB hx1376_4
        replace hx1376_5 := hBc HB hx1376_5
        have HR1376_3 := Aside0.mk hi1376_3
        have HC1376_3 := Aside0.mk hl1376_3
        clear hi1376_3 hl1376_3
        replace p1376 := eq_true p1376
        replace q1376 := eq_true q1376
        go_wp2_with (first | ((with_reducible refine gate_dst (N := 6) rfl ?_); (try (refine gate_guard (by rfl) ?_; dsimp only)); refine bE 6 #[.string (⟨#[]⟩ : ByteArray), .int .i64 0, .bool false, .slice none 0 0, .int .i64 0, .int .i64 0] 107 ?_; intro gb1377 hg w20 hbox hb; have BK1377 := Aside0.mk (hbox); have GE1377 := bG hg; replace HB := BS hb; have NB1374_1377 := bN BK1374 hg; have NB1377_1374 := bM BK1374 hg; replace BK1374 := KB BK1374 hb; clear hb hbox hg; obtain ⟨hnb21, hnc21⟩ := nn NB1377_1374; have hcz22 := cz6 BK1377))
        go_roundg k2
        case measure => have := HJ1.out; have := HK2.out; omega
        case rel => exact ⟨(x4_2), (wrap64 (x21_2 + 1)), TF, TF, H', ⟨by have := HJ1.out; have := HK2.out; omega⟩, ⟨TS⟩, ⟨TB⟩⟩
      ·rw [if_neg c13] at H
       have c13b0 : decide (x21_2 < (l0_1.length : Int)) = false := decide_eq_false c13
       clear c13
       simp only [Option.some.injEq, Prod.mk.injEq] at H
       obtain ⟨rfl, rfl⟩ := H
       go_wp2
       go_ret2
       exact ⟨TE, TB⟩
end
section
/-! ### impl_within: function 86 -/
def impl_within.f (a0 : Int) (a1 : Int) (a2 : Int) : Option (Bool) := if a0 ≥ a1 then (some (decide (a0 ≤ a2))) else (some false)
theorem impl_within.calls (a0 : Int) (a1 : Int) (a2 : Int) (r : Bool) (w : World) (h : impl_within.f a0 a1 a2 = some r) :
  Calls Tryz.prog 86 #[.int .i64 a0, .int .i64 a1, .int .i64 a2] w fun e w' => e = .returned (.bool r) ∧ Drawn0 w w' := by
 have H : (if a0 ≥ a1 then (some (decide (a0 ≤ a2))) else (some false)) = some r := h
 clear h
 by_cases c4 : a0 ≥ a1
 ·rw [if_pos c4] at H
  have c4b0 : decide (a1 ≤ a0) = true := decide_eq_true c4
  clear c4
  obtain rfl := Option.some.inj H
  go_enter Tryz.func86, Tryz.ntmps86
  go_wp2
  go_ret
  exact ⟨TF, TN⟩
 ·rw [if_neg c4] at H
  have c4b0 : decide (a1 ≤ a0) = false := decide_eq_false c4
  clear c4
  obtain rfl := Option.some.inj H
  go_enter Tryz.func86, Tryz.ntmps86
  go_wp2
  go_ret
  exact ⟨TF, TN⟩
end
section
/-! ### strings_explode: function 215 -/
def strings_explode.f (a0 : ByteArray) (a1 : Int) : Option ((List ByteArray)) := none
theorem strings_explode.calls (a0 : ByteArray) (a1 : Int) (r : (List ByteArray)) (w : World) (h : strings_explode.f a0 a1 = some r) :
  Calls Tryz.prog 215 #[.string a0, .int .i64 a1] w fun e w' => ∃ v0_ : Value, e = .returned (v0_) ∧ Kd.R Kd.string 9 w' w.heap.size (fun _ => True) v0_ r ∧ Below w.heap.size w w' := by
 cases h
end
section
/-! ### strings_Count: function 216 -/
def strings_Count.f (a0 : ByteArray) (a1 : ByteArray) : Option (Int) := if a1.size = 1 then some (Go.Lib.countByte a0.data.toList (a1.data.toList.headD 0)) else none
theorem strings_Count.calls (a0 : ByteArray) (a1 : ByteArray) (r : Int) (w : World) (h : strings_Count.f a0 a1 = some r) :
  Calls Tryz.prog 216 #[.string a0, .string a1] w fun e w' => e = .returned (.int .i64 r) ∧ Drawn0 w w' := by
 unfold strings_Count.f at h
 by_cases h1 : a1.size = 1
 ·rw [if_pos h1] at h
  obtain rfl := Option.some.inj h
  obtain ⟨⟨l⟩⟩ := a1
  match l, h1 with
  | [c], _ => exact (Go.Proofs.Any.strings_Count_one Go.Proofs.Tryz.lays138 a0 c w).mono fun e w' hh => ⟨hh.1, hh.2 ▸ Drawn0.refl _⟩
 ·rw [if_neg h1] at h
  cases h
end
section
/-! ### strings_Index: function 217 -/
def strings_Index.f (a0 : ByteArray) (a1 : ByteArray) : Option (Int) := if a1.size = 1 then some (Go.Lib.indexByte a0.data.toList (a1.data.toList.headD 0)) else none
theorem strings_Index.calls (a0 : ByteArray) (a1 : ByteArray) (r : Int) (w : World) (h : strings_Index.f a0 a1 = some r) :
  Calls Tryz.prog 217 #[.string a0, .string a1] w fun e w' => e = .returned (.int .i64 r) ∧ Drawn0 w w' := by
 unfold strings_Index.f at h
 by_cases h1 : a1.size = 1
 ·rw [if_pos h1] at h
  obtain rfl := Option.some.inj h
  obtain ⟨⟨l⟩⟩ := a1
  match l, h1 with
  | [c], _ => exact (Go.Proofs.Any.strings_Index_one Go.Proofs.Tryz.lays143 a0 c w).mono fun e w' hh => ⟨hh.1, hh.2 ▸ Drawn0.refl _⟩
 ·rw [if_neg h1] at h
  cases h
end
section
/-! ### strings_genSplit: function 191 -/
mutual
def strings_genSplit.j0 : Nat → ByteArray → ByteArray → Int → Int → Option (List ByteArray)
 | 0, _, _, _, _ => none
 | k + 1, x0, x1, x2, x3 => if 0 ≤ (mn x3 (wrap64 ((x0.size : Int) + 1))) then (if (mn x3 (wrap64 ((x0.size : Int) + 1)) : Int).toNat ≤ 17592186044416 then (strings_genSplit.l0 k x0 x1 x2 (wrap64 ((mn x3 (wrap64 ((x0.size : Int) + 1))) - 1)) (List.replicate (mn x3 (wrap64 ((x0.size : Int) + 1)) : Int).toNat (⟨#[]⟩ : ByteArray)) 0) else (none)) else (none)
def strings_genSplit.l0 : Nat → ByteArray → ByteArray → Int → Int → List ByteArray → Int → Option (List ByteArray)
 | 0, _, _, _, _, _, _ => none
 | k + 1, x0, x1, x2, x3, x9, x10 => if x10 < x3 then ((strings_Index.f x0 x1).bind fun t265 => (if t265 < 0 then (if 0 ≤ x10 then (if x10 < (x9.length : Int) then (if 0 ≤ (wrap64 (x10 + 1)) then (if (wrap64 (x10 + 1)) ≤ (x9.length : Int) then (some ((x9.set (x10 : Int).toNat x0).take ((wrap64 (x10 + 1)) : Int).toNat)) else (none)) else (none)) else (none)) else (none)) else (if 0 ≤ (wrap64 (t265 + x2)) then (if (wrap64 (t265 + x2)) ≤ (x0.size : Int) then (if 0 ≤ x10 then (if x10 < (x9.length : Int) then (if 0 ≤ (wrap64 (t265 + (x1.size : Int))) then (if (wrap64 (t265 + (x1.size : Int))) ≤ (x0.size : Int) then (strings_genSplit.l0 k (x0.extract ((wrap64 (t265 + (x1.size : Int))) : Int).toNat x0.size) x1 x2 x3 (x9.set (x10 : Int).toNat (x0.extract 0 ((wrap64 (t265 + x2)) : Int).toNat)) (wrap64 (x10 + 1))) else (none)) else (none)) else (none)) else (none)) else (none)) else (none)))) else (if 0 ≤ x10 then (if x10 < (x9.length : Int) then (if 0 ≤ (wrap64 (x10 + 1)) then (if (wrap64 (x10 + 1)) ≤ (x9.length : Int) then (some ((x9.set (x10 : Int).toNat x0).take ((wrap64 (x10 + 1)) : Int).toNat)) else (none)) else (none)) else (none)) else (none))
end
def strings_genSplit.f (k : Nat) (a0 : ByteArray) (a1 : ByteArray) (a2 : Int) (a3 : Int) : Option (List ByteArray) := if a3 = 0 then (some ([] : List ByteArray)) else (if a1.toList = ([] : List UInt8) then ((strings_explode.f a0 a3).bind fun t258 => (some t258)) else (if a3 < 0 then ((strings_Count.f a0 a1).bind fun t261 => (strings_genSplit.j0 k a0 a1 a2 (wrap64 (t261 + 1)))) else (strings_genSplit.j0 k a0 a1 a2 a3)))
theorem strings_genSplit.calls (k : Nat) (a0 : ByteArray) (a1 : ByteArray) (a2 : Int) (a3 : Int) (r : List ByteArray) (w : World) (h : strings_genSplit.f k a0 a1 a2 a3 = some r) :
  Calls Tryz.prog 191 #[.string a0, .string a1, .int .i64 a2, .int .i64 a3] w fun e w' => ∃ v0_ : Value, e = .returned (v0_) ∧ Kd.R Kd.string 9 w' w.heap.size (fun _ => True) v0_ r ∧ Below w.heap.size w w' := by
 have HB := Aside0.mk (Below.refl w.heap.size w)
 have H : (if a3 = 0 then (some ([] : List ByteArray)) else (if a1.toList = ([] : List UInt8) then ((strings_explode.f a0 a3).bind fun t258 => (some t258)) else (if a3 < 0 then ((strings_Count.f a0 a1).bind fun t261 => (strings_genSplit.j0 k a0 a1 a2 (wrap64 (t261 + 1)))) else (strings_genSplit.j0 k a0 a1 a2 a3)))) = some r := h
 clear h
 by_cases c5 : a3 = 0
 ·rw [if_pos c5] at H
  have c5b0 : (a3 == 0) = true := beq_iff_eq.mpr c5
  have c5b1 : (a3 != 0) = false := bne_eq_false_iff_eq.mpr c5
  clear c5
  obtain rfl := Option.some.inj H
  go_enter Tryz.func191, Tryz.ntmps191
  go_wp2
  go_ret
  exact ⟨_, by first | rfl | (simp [errW_none, errW_some] <;> rfl) | (simp [*, errW_none, errW_some] <;> rfl) | (simp [errW_none, errW_some]; rw [Bool.eq_iff_iff]; simp), TZ, TB⟩
 ·rw [if_neg c5] at H
  have c5b0 : (a3 == 0) = false := beq_eq_false_iff_ne.mpr c5
  have c5b1 : (a3 != 0) = true := bne_iff_ne.mpr c5
  by_cases c6 : a1.toList = ([] : List UInt8)
  ·rw [if_pos c6] at H
   have c6b0 : (a1.toList == ([] : List UInt8)) = true := beq_iff_eq.mpr c6
   have c6b1 : (a1.toList != ([] : List UInt8)) = false := bne_eq_false_iff_eq.mpr c6
   clear c6
   obtain ⟨t258, A7, H⟩ := bnd H
   obtain rfl := Option.some.inj H
   go_enter Tryz.func191, Tryz.ntmps191
   go_wp2_with (first | ((with_reducible refine gate_callee (f := 215) rfl ?_); refine goesL_ (some 18) rfl rfl Tryz.func215 KR rfl #[.string a0, .int .i64 a3] rfl TA ?_; (with_reducible refine (strings_explode.calls a0 a3 t258 _ A7.out).mono ?_); rintro e w8 ⟨v259, rfl, ho0, hb⟩; refine ⟨_, rfl, ?_⟩; have HO260 := RL ho0; replace HB := BS hb; clear hb; (try clear ho0)))
   go_ret
   exact ⟨_, by first | rfl | (simp [errW_none, errW_some] <;> rfl) | (simp [*, errW_none, errW_some] <;> rfl) | (simp [errW_none, errW_some]; rw [Bool.eq_iff_iff]; simp), (RW HO260).out, TB⟩
  ·rw [if_neg c6] at H
   have c6b0 : (a1.toList == ([] : List UInt8)) = false := beq_eq_false_iff_ne.mpr c6
   have c6b1 : (a1.toList != ([] : List UInt8)) = true := bne_iff_ne.mpr c6
   have HC9 := Aside0.mk H
   clear H
   go_enter Tryz.func191, Tryz.ntmps191
   go_upto_if 20 with (fail)
   go_cut [3] (fun v3 wc => ∃ (kq : Nat) (x3_8 : Int), v3 = .int .i64 x3_8 ∧ Aside0 (strings_genSplit.j0 kq a0 a1 a2 x3_8 = some r) ∧ Aside0 (kq ≤ k) ∧ Aside0 (Below w.heap.size w wc))
   case first =>
    have H := HC9.out
    clear HC9
    by_cases c10 : a3 < 0
    ·rw [if_pos c10] at H
     have c10b0 : decide (a3 < 0) = true := decide_eq_true c10
     clear c10
     (first | rw [c10b0] | (simp only [i64_w, i32_w]; rw [c10b0]) | skip)
     obtain ⟨t261, A11, H⟩ := bnd H
     have H' := Aside0.mk H
     clear H
     go_wp2_with (first | ((with_reducible refine gate_callee (f := 216) rfl ?_); refine goesL_ (some 23) rfl rfl Tryz.func216 KR rfl #[.string a0, .string a1] rfl TA ?_; (with_reducible refine (strings_Count.calls a0 a1 t261 _ A11.out).mono ?_); rintro e w' ⟨rfl, ⟨nd, rfl⟩⟩; refine ⟨_, rfl, ?_⟩))
     go_meet
     case rel => exact ⟨_, (wrap64 (t261 + 1)), TF, H', ⟨by first | omega | exact Nat.le_refl _⟩, ⟨TB⟩⟩
    ·rw [if_neg c10] at H
     have c10b0 : decide (a3 < 0) = false := decide_eq_false c10
     clear c10
     (first | rw [c10b0] | (simp only [i64_w, i32_w]; rw [c10b0]) | skip)
     have H' := Aside0.mk H
     clear H
     go_wp2
     go_meet
     case rel => exact ⟨_, (a3), TF, H', ⟨by first | omega | exact Nat.le_refl _⟩, ⟨TB⟩⟩
   case rest =>
    clear HC9
    obtain ⟨kq, x3_8, rfl, HA, HJ8, HB⟩ := hcut
    cases kq with
    | zero => exact absurd HA.out (by simp [strings_genSplit.j0])
    | succ kj8 =>
     have H := HA.out
     clear HA
     simp only [strings_genSplit.j0] at H
     obtain ⟨ji12, hji12⟩ : ∃ j_ : Int, (mn x3_8 (wrap64 ((a0.size : Int) + 1))) = j_ := ⟨_, rfl⟩
     replace H : (if 0 ≤ (ji12) then (if (ji12 : Int).toNat ≤ 17592186044416 then (strings_genSplit.l0 kj8 a0 a1 a2 (wrap64 ((ji12) - 1)) (List.replicate (ji12 : Int).toNat (⟨#[]⟩ : ByteArray)) 0) else (none)) else (none)) = some r := by first | (rw [hji12] at H; exact H) | (simp only [hji12] at H ⊢; exact H)
     have hji12_ : (if (wrap64 ((a0.size : Int) + 1)) < x3_8 then (wrap64 ((a0.size : Int) + 1)) else x3_8) = ji12 := hji12
     obtain ⟨c13, H⟩ := ifn H
     have c13b0 := eq_true c13
     have c13b1 : decide (0 ≤ (ji12)) = true := decide_eq_true c13
     clear c13
     obtain ⟨c14, H⟩ := ifn H
     have c14b0 := eq_true c14
     have c14b1 : decide ((ji12 : Int).toNat ≤ 17592186044416) = true := decide_eq_true c14
     clear c14
     obtain ⟨y262, hy262⟩ : ∃ y_ : List ByteArray, y_ = (List.replicate (ji12 : Int).toNat (⟨#[]⟩ : ByteArray)) := ⟨_, rfl⟩
     replace H : (strings_genSplit.l0 kj8 a0 a1 a2 (wrap64 ((ji12) - 1)) y262 0) = some r := by first | (rw [hy262]; with_reducible exact H) | (have H2_ := (Option.bind_some _ _).symm.trans H; rw [hy262]; with_reducible exact H2_) | (have H2_ := (Option.bind_some _ _).symm.trans H; with_reducible exact H2_) | with_reducible exact H | (rw [hy262]; exact H) | exact H
     have Ny262 := Aside0.mk hy262
     clear hy262
     have H' := Aside0.mk H
     clear H
     go_wp2_with (first | ((with_reducible refine gate_dst (N := 31) rfl ?_); refine Kd.R_make Kd.string _ 9 rfl (N := 31) rfl 138 _ _ rfl ji12 rfl rfl Tryz.underlying138 (.string ⟨#[]⟩) 16 info9 rfl (by decide) (by omega) (⟨#[]⟩ : ByteArray) (ok := fun _ => True) (okp := fun _ => True) rfl (fun _ hk => hk) trivial TD (Nat.le_trans (Nat.mul_le_mul_right _ (TD : ji12.toNat ≤ 17592186044416)) (by omega)) (Below.refl _ _) (Nat.le_refl _) ?_; intro v263 w15 ho16 hb hg_ hnew_; clear hg_ hnew_; (first | rw [← Ny262.out] at ho16 | (simp only [Int.reduceToNat] at ho16; rw [← Ny262.out] at ho16)); have HO264 := RL ho16; replace HB := BS hb; clear hb ho16))
     go_loopg [0, 10] kj8 (fun kq v0 v10 w' => ∃ (x0_2 : ByteArray) (x9_2 : List ByteArray) (x10_2 : Int), v0 = .string x0_2 ∧ v10 = .int .i64 x10_2 ∧ Aside0 (strings_genSplit.l0 kq x0_2 a1 a2 (wrap64 ((ji12) - 1)) x9_2 x10_2 = some r) ∧ Aside0 (kq ≤ kj8) ∧ Aside0 (Kd.R Kd.string 9 w' w.heap.size (fun _ => True) v263 x9_2) ∧ Aside0 (Below w.heap.size w w'))
     case atStart => exact ⟨(a0), (y262), (0), TF, TF, H', ⟨Nat.le_refl _⟩, RW HO264, ⟨TB⟩⟩
     case round =>
      clear H'
      obtain ⟨x0_2, x9_2, x10_2, rfl, rfl, HA, HK2, HO_9, HB⟩ := hrel
      cases gk with
      | zero => exact absurd HA.out (by simp [strings_genSplit.l0])
      | succ k2 =>
       have H := HA.out
       clear HA
       simp only [strings_genSplit.l0] at H
       by_cases c17 : x10_2 < (wrap64 ((ji12) - 1))
       ·rw [if_pos c17] at H
        have c17b0 : decide (x10_2 < (wrap64 ((ji12) - 1))) = true := decide_eq_true c17
        clear c17
        obtain ⟨t265, A18, H⟩ := bnd H
        by_cases c19 : t265 < 0
        ·rw [if_pos c19] at H
         have c19b0 : decide (t265 < 0) = true := decide_eq_true c19
         clear c19
         obtain ⟨c20, H⟩ := ifn H
         have c20b0 : decide (0 ≤ x10_2) = true := decide_eq_true c20
         clear c20
         obtain ⟨c21, H⟩ := ifn H
         have c21b0 : decide (x10_2 < (x9_2.length : Int)) = true := decide_eq_true c21
         clear c21
         obtain ⟨y266, hy266⟩ : ∃ y_ : List ByteArray, y_ = (x9_2.set (x10_2 : Int).toNat x0_2) := ⟨_, rfl⟩
         replace H : (if 0 ≤ (wrap64 (x10_2 + 1)) then (if (wrap64 (x10_2 + 1)) ≤ (x9_2.length : Int) then (some (y266.take ((wrap64 (x10_2 + 1)) : Int).toNat)) else (none)) else (none)) = some r := by first | (rw [hy266]; with_reducible exact H) | (have H2_ := (Option.bind_some _ _).symm.trans H; rw [hy266]; with_reducible exact H2_) | (have H2_ := (Option.bind_some _ _).symm.trans H; with_reducible exact H2_) | with_reducible exact H | (rw [hy266]; exact H) | exact H
         have Ny266 := Aside0.mk hy266
         clear hy266
         obtain ⟨ji23, hji23⟩ : ∃ j_ : Int, (wrap64 (x10_2 + 1)) = j_ := ⟨_, rfl⟩
         replace H : (if 0 ≤ (ji23) then (if (ji23) ≤ (x9_2.length : Int) then (some (y266.take ((ji23) : Int).toNat)) else (none)) else (none)) = some r := by first | (rw [hji23] at H; exact H) | (simp only [hji23] at H ⊢; exact H)
         (try rw [hji23] at A18)
         have hji23w : (IntKind.i64.wrap (x10_2 + 1)) = ji23 := (i64_w _).trans hji23
         obtain ⟨c24, H⟩ := ifn H
         have c24b0 := eq_true c24
         have c24b1 : decide (0 ≤ (ji23)) = true := decide_eq_true c24
         clear c24
         obtain ⟨c25, H⟩ := ifn H
         have c25b0 := eq_true c25
         have c25b1 : decide ((ji23) ≤ (x9_2.length : Int)) = true := decide_eq_true c25
         clear c25
         obtain ⟨y267, hy267⟩ : ∃ y_ : List ByteArray, y_ = (y266.take ((ji23) : Int).toNat) := ⟨_, rfl⟩
         replace H : (some y267) = some r := by first | (rw [hy267]; with_reducible exact H) | (have H2_ := (Option.bind_some _ _).symm.trans H; rw [hy267]; with_reducible exact H2_) | (have H2_ := (Option.bind_some _ _).symm.trans H; with_reducible exact H2_) | with_reducible exact H | (rw [hy267]; exact H) | exact H
         have Ny267 := Aside0.mk hy267
         clear hy267
         obtain rfl := Option.some.inj H
         go_wp2_with (first | ((with_reducible refine gate_callee (f := 217) rfl ?_); refine goesL_ (some 39) rfl rfl Tryz.func217 KR rfl #[.string x0_2, .string a1] rfl TA ?_; (with_reducible refine (strings_Index.calls x0_2 a1 t265 _ A18.out).mono ?_); rintro e w' ⟨rfl, ⟨nd, rfl⟩⟩; refine ⟨_, rfl, ?_⟩; (try (rw [drewN_self wr]; generalize hq_ : World.drewN wr _ = wr; have n0_ : Aside0 (Kd.R Kd.string 9 wr w.heap.size (fun _ => True) v263 x9_2) := ⟨by rw [← hq_]; exact (RW HO_9).out⟩; have n1_ : Aside0 (Below w.heap.size w wr) := ⟨by rw [← hq_]; exact TB⟩; clear HO_9 HB hq_; have HO_9 := n0_; have HB := n1_; clear n0_ n1_)); have p22 : 0 ≤ (x10_2 : Int) := TD; have q22 : (x10_2 : Int) < ((x9_2.length : Int) : Int) := TD; obtain ⟨go22, co22, eo22, gb22, gl22, cl22, HG22⟩ := Kd.R_form HO_9.out (by omega); (first | cases eo22 | (injection eo22 with ea_ en_ ec_; (first | subst ea_ | (injection ea_ with ea_; subst ea_)); subst ec_; clear en_)); have GB22 := Aside0.mk gb22; have GG22 := Aside0.mk HG22; clear gb22 gl22 HG22; obtain ⟨hx22_0, hf22_0⟩ := Kd.R_celln (⟨#[]⟩ : ByteArray) HO_9.out (x10_2 : Int) p22 q22; replace p22 := eq_true p22; replace q22 := eq_true q22; obtain ⟨hy26_, hz26_⟩ := Kd.R_celln (⟨#[]⟩ : ByteArray) HO_9.out (x10_2 : Int) TD TD; have HP26 := Kd.R_putg HO_9.out (x10_2 : Int) x0_2) | ((with_reducible refine gate_store (t := 9) (p := 61) rfl ?_); refine store_event (t := 9) (p := 61) (v := ?vo_w27) (w1 := (wr.setCell ⟨go22, (x10_2 : Int).toNat, none⟩ (.string x0_2))) ?hg ?ho ?hn ?hr ?_; (case ho => rfl); (case hg => rfl); (case hn => rfl); (case hr => first | (go_simp; done) | (go_simp; rfl)); intro w27 hw; have hg : wr.grownBy w27 (some go22) := (by rw [hw]; exact HP26.2); have hp_ : Kd.R Kd.string 9 w27 w.heap.size (fun _ => True) (.slice (some ⟨go22, 0, none⟩) x9_2.length co22) y266 := (by rw [hw, Ny266.out]; exact HP26.1); clear HP26; replace HO_9 := Aside0.mk (hp_); replace HB := Aside0.mk ((by rw [hw]; exact below_set (HB.out) GB22.out : Below w.heap.size w w27)); clear hg hw hp_; have q28 : ((ji23) : Int) ≤ ((x9_2.length : Int) : Int) := TD; obtain ⟨i028, hi028, _, hsz28, _⟩ := info_parts info9; have hcut28 := cut_to (P := Tryz.prog) 138 9 .i64 Tryz.underlying138 hi028 (some ⟨go22, 0, none⟩) x9_2.length co22 (ji23) TD q28 (Kd.R_reads' HO_9.out).2.1; have hr28 := Kd.R_take (m := ((ji23) : Int).toNat) HO_9.out (by have hle_ := (Kd.R_reads' HO_9.out).1; omega); have hy28 : y267.length = ((ji23) : Int).toNat := (by rw [Ny267.out, List.length_take]; have hle_ := (Kd.R_reads' HO_9.out).1; omega); rw [← Ny267.out] at hr28; rw [← hy28] at hr28 hcut28; clear hy28 hi028 hsz28 HO_9; have HO269 := Aside0.mk hr28; clear hr28; replace q28 := eq_true q28))
         go_ret
         exact ⟨_, by first | rfl | (simp [errW_none, errW_some] <;> rfl) | (simp only [← hji12, ← hji23]; first | rfl | (simp [errW_none, errW_some] <;> rfl)) | (simp [*, errW_none, errW_some] <;> rfl) | (simp [errW_none, errW_some]; rw [Bool.eq_iff_iff]; simp), (RW HO269).out, TB⟩
        ·rw [if_neg c19] at H
         have c19b0 : decide (t265 < 0) = false := decide_eq_false c19
         clear c19
         obtain ⟨ji29, hji29⟩ : ∃ j_ : Int, (wrap64 (t265 + a2)) = j_ := ⟨_, rfl⟩
         replace H : (if 0 ≤ (ji29) then (if (ji29) ≤ (x0_2.size : Int) then (if 0 ≤ x10_2 then (if x10_2 < (x9_2.length : Int) then (if 0 ≤ (wrap64 (t265 + (a1.size : Int))) then (if (wrap64 (t265 + (a1.size : Int))) ≤ (x0_2.size : Int) then (strings_genSplit.l0 k2 (x0_2.extract ((wrap64 (t265 + (a1.size : Int))) : Int).toNat x0_2.size) a1 a2 (wrap64 ((ji12) - 1)) (x9_2.set (x10_2 : Int).toNat (x0_2.extract 0 ((ji29) : Int).toNat)) (wrap64 (x10_2 + 1))) else (none)) else (none)) else (none)) else (none)) else (none)) else (none)) = some r := by first | (rw [hji29] at H; exact H) | (simp only [hji29] at H ⊢; exact H)
         (try rw [hji29] at A18)
         have hji29w : (IntKind.i64.wrap (t265 + a2)) = ji29 := (i64_w _).trans hji29
         obtain ⟨c30, H⟩ := ifn H
         have c30b0 := eq_true c30
         have c30b1 : decide (0 ≤ (ji29)) = true := decide_eq_true c30
         clear c30
         obtain ⟨c31, H⟩ := ifn H
         have c31b0 := eq_true c31
         have c31b1 : decide ((ji29) ≤ (x0_2.size : Int)) = true := decide_eq_true c31
         clear c31
         obtain ⟨c32, H⟩ := ifn H
         have c32b0 : decide (0 ≤ x10_2) = true := decide_eq_true c32
         clear c32
         obtain ⟨c33, H⟩ := ifn H
         have c33b0 : decide (x10_2 < (x9_2.length : Int)) = true := decide_eq_true c33
         clear c33
         obtain ⟨y270, hy270⟩ : ∃ y_ : List ByteArray, y_ = (x9_2.set (x10_2 : Int).toNat (x0_2.extract 0 ((ji29) : Int).toNat)) := ⟨_, rfl⟩
         replace H : (if 0 ≤ (wrap64 (t265 + (a1.size : Int))) then (if (wrap64 (t265 + (a1.size : Int))) ≤ (x0_2.size : Int) then (strings_genSplit.l0 k2 (x0_2.extract ((wrap64 (t265 + (a1.size : Int))) : Int).toNat x0_2.size) a1 a2 (wrap64 ((ji12) - 1)) y270 (wrap64 (x10_2 + 1))) else (none)) else (none)) = some r := by first | (rw [hy270]; with_reducible exact H) | (have H2_ := (Option.bind_some _ _).symm.trans H; rw [hy270]; with_reducible exact H2_) | (have H2_ := (Option.bind_some _ _).symm.trans H; with_reducible exact H2_) | with_reducible exact H | (rw [hy270]; exact H) | exact H
         have Ny270 := Aside0.mk hy270
         clear hy270
         obtain ⟨ji35, hji35⟩ : ∃ j_ : Int, (wrap64 (t265 + (a1.size : Int))) = j_ := ⟨_, rfl⟩
         replace H : (if 0 ≤ (ji35) then (if (ji35) ≤ (x0_2.size : Int) then (strings_genSplit.l0 k2 (x0_2.extract ((ji35) : Int).toNat x0_2.size) a1 a2 (wrap64 ((ji12) - 1)) y270 (wrap64 (x10_2 + 1))) else (none)) else (none)) = some r := by first | (rw [hji35] at H; exact H) | (simp only [hji35] at H ⊢; exact H)
         (try rw [hji35] at A18)
         have hji35w : (IntKind.i64.wrap (t265 + (a1.size : Int))) = ji35 := (i64_w _).trans hji35
         obtain ⟨c36, H⟩ := ifn H
         have c36b0 := eq_true c36
         have c36b1 : decide (0 ≤ (ji35)) = true := decide_eq_true c36
         clear c36
         obtain ⟨c37, H⟩ := ifn H
         have c37b0 := eq_true c37
         have c37b1 : decide ((ji35) ≤ (x0_2.size : Int)) = true := decide_eq_true c37
         clear c37
         have H' := Aside0.mk H
         clear H
         go_wp2_with (first | ((with_reducible refine gate_callee (f := 217) rfl ?_); refine goesL_ (some 39) rfl rfl Tryz.func217 KR rfl #[.string x0_2, .string a1] rfl TA ?_; (with_reducible refine (strings_Index.calls x0_2 a1 t265 _ A18.out).mono ?_); rintro e w' ⟨rfl, ⟨nd, rfl⟩⟩; refine ⟨_, rfl, ?_⟩; (try (rw [drewN_self wr]; generalize hq_ : World.drewN wr _ = wr; have n0_ : Aside0 (Kd.R Kd.string 9 wr w.heap.size (fun _ => True) v263 x9_2) := ⟨by rw [← hq_]; exact (RW HO_9).out⟩; have n1_ : Aside0 (Below w.heap.size w wr) := ⟨by rw [← hq_]; exact TB⟩; clear HO_9 HB hq_; have HO_9 := n0_; have HB := n1_; clear n0_ n1_)); have p34 : 0 ≤ (x10_2 : Int) := TD; have q34 : (x10_2 : Int) < ((x9_2.length : Int) : Int) := TD; obtain ⟨go34, co34, eo34, gb34, gl34, cl34, HG34⟩ := Kd.R_form HO_9.out (by omega); (first | cases eo34 | (injection eo34 with ea_ en_ ec_; (first | subst ea_ | (injection ea_ with ea_; subst ea_)); subst ec_; clear en_)); have GB34 := Aside0.mk gb34; have GG34 := Aside0.mk HG34; clear gb34 gl34 HG34; obtain ⟨hx34_0, hf34_0⟩ := Kd.R_celln (⟨#[]⟩ : ByteArray) HO_9.out (x10_2 : Int) p34 q34; replace p34 := eq_true p34; replace q34 := eq_true q34; obtain ⟨hy38_, hz38_⟩ := Kd.R_celln (⟨#[]⟩ : ByteArray) HO_9.out (x10_2 : Int) TD TD; have HP38 := Kd.R_putg HO_9.out (x10_2 : Int) (x0_2.extract 0 ((ji29) : Int).toNat)) | ((with_reducible refine gate_store (t := 9) (p := 49) rfl ?_); refine store_event (t := 9) (p := 49) (v := ?vo_w39) (w1 := (wr.setCell ⟨go34, (x10_2 : Int).toNat, none⟩ (.string (x0_2.extract 0 ((ji29) : Int).toNat)))) ?hg ?ho ?hn ?hr ?_; (case ho => rfl); (case hg => rfl); (case hn => rfl); (case hr => first | (go_simp; done) | (go_simp; rfl)); intro w39 hw; have hg : wr.grownBy w39 (some go34) := (by rw [hw]; exact HP38.2); have hp_ : Kd.R Kd.string 9 w39 w.heap.size (fun _ => True) (.slice (some ⟨go34, 0, none⟩) x9_2.length co34) y270 := (by rw [hw, Ny270.out]; exact HP38.1); clear HP38; replace HO_9 := Aside0.mk (hp_); replace HB := Aside0.mk ((by rw [hw]; exact below_set (HB.out) GB34.out : Below w.heap.size w w39)); clear hg hw hp_))
         go_roundg k2
         case measure => have := HJ8.out; have := HK2.out; omega
         case rel => exact ⟨(x0_2.extract ((ji35) : Int).toNat x0_2.size), (y270), (wrap64 (x10_2 + 1)), (by first | rfl | (simp; done) | (simp only [← hji35] <;> (first | rfl | simp)) | (simp [*]; done)), TF, H', ⟨by have := HJ8.out; have := HK2.out; omega⟩, RW HO_9, ⟨TB⟩⟩
       ·rw [if_neg c17] at H
        have c17b0 : decide (x10_2 < (wrap64 ((ji12) - 1))) = false := decide_eq_false c17
        clear c17
        obtain ⟨c40, H⟩ := ifn H
        have c40b0 : decide (0 ≤ x10_2) = true := decide_eq_true c40
        clear c40
        obtain ⟨c41, H⟩ := ifn H
        have c41b0 : decide (x10_2 < (x9_2.length : Int)) = true := decide_eq_true c41
        clear c41
        obtain ⟨y271, hy271⟩ : ∃ y_ : List ByteArray, y_ = (x9_2.set (x10_2 : Int).toNat x0_2) := ⟨_, rfl⟩
        replace H : (if 0 ≤ (wrap64 (x10_2 + 1)) then (if (wrap64 (x10_2 + 1)) ≤ (x9_2.length : Int) then (some (y271.take ((wrap64 (x10_2 + 1)) : Int).toNat)) else (none)) else (none)) = some r := by first | (rw [hy271]; with_reducible exact H) | (have H2_ := (Option.bind_some _ _).symm.trans H; rw [hy271]; with_reducible exact H2_) | (have H2_ := (Option.bind_some _ _).symm.trans H; with_reducible exact H2_) | with_reducible exact H | (rw [hy271]; exact H) | exact H
        have Ny271 := Aside0.mk hy271
        clear hy271
        obtain ⟨ji43, hji43⟩ : ∃ j_ : Int, (wrap64 (x10_2 + 1)) = j_ := ⟨_, rfl⟩
        replace H : (if 0 ≤ (ji43) then (if (ji43) ≤ (x9_2.length : Int) then (some (y271.take ((ji43) : Int).toNat)) else (none)) else (none)) = some r := by first | (rw [hji43] at H; exact H) | (simp only [hji43] at H ⊢; exact H)
        have hji43w : (IntKind.i64.wrap (x10_2 + 1)) = ji43 := (i64_w _).trans hji43
        obtain ⟨c44, H⟩ := ifn H
        have c44b0 := eq_true c44
        have c44b1 : decide (0 ≤ (ji43)) = true := decide_eq_true c44
        clear c44
        obtain ⟨c45, H⟩ := ifn H
        have c45b0 := eq_true c45
        have c45b1 : decide ((ji43) ≤ (x9_2.length : Int)) = true := decide_eq_true c45
        clear c45
        obtain ⟨y272, hy272⟩ : ∃ y_ : List ByteArray, y_ = (y271.take ((ji43) : Int).toNat) := ⟨_, rfl⟩
        replace H : (some y272) = some r := by first | (rw [hy272]; with_reducible exact H) | (have H2_ := (Option.bind_some _ _).symm.trans H; rw [hy272]; with_reducible exact H2_) | (have H2_ := (Option.bind_some _ _).symm.trans H; with_reducible exact H2_) | with_reducible exact H | (rw [hy272]; exact H) | exact H
        have Ny272 := Aside0.mk hy272
        clear hy272
        obtain rfl := Option.some.inj H
        have p42 : 0 ≤ (x10_2 : Int) := TD
        have q42 : (x10_2 : Int) < ((x9_2.length : Int) : Int) := TD
        obtain ⟨go42, co42, eo42, gb42, gl42, cl42, HG42⟩ := Kd.R_form HO_9.out (by omega)
        (first | cases eo42 | (injection eo42 with ea_ en_ ec_; (first | subst ea_ | (injection ea_ with ea_; subst ea_)); subst ec_; clear en_))
        have GB42 := Aside0.mk gb42
        have GG42 := Aside0.mk HG42
        clear gb42 gl42 HG42
        obtain ⟨hx42_0, hf42_0⟩ := Kd.R_celln (⟨#[]⟩ : ByteArray) HO_9.out (x10_2 : Int) p42 q42
        replace p42 := eq_true p42
        replace q42 := eq_true q42
        have HP46 := Kd.R_putg HO_9.out (x10_2 : Int) x0_2
        go_wp2_with (first | ((with_reducible refine gate_store (t := 9) (p := 61) rfl ?_); refine store_event (t := 9) (p := 61) (v := ?vo_w47) (w1 := (wr.setCell ⟨go42, (x10_2 : Int).toNat, none⟩ (.string x0_2))) ?hg ?ho ?hn ?hr ?_; (case ho => rfl); (case hg => rfl); (case hn => rfl); (case hr => first | (go_simp; done) | (go_simp; rfl)); intro w47 hw; have hg : wr.grownBy w47 (some go42) := (by rw [hw]; exact HP46.2); have hp_ : Kd.R Kd.string 9 w47 w.heap.size (fun _ => True) (.slice (some ⟨go42, 0, none⟩) x9_2.length co42) y271 := (by rw [hw, Ny271.out]; exact HP46.1); clear HP46; replace HO_9 := Aside0.mk (hp_); replace HB := Aside0.mk ((by rw [hw]; exact below_set (HB.out) GB42.out : Below w.heap.size w w47)); clear hg hw hp_; have q48 : ((ji43) : Int) ≤ ((x9_2.length : Int) : Int) := TD; obtain ⟨i048, hi048, _, hsz48, _⟩ := info_parts info9; have hcut48 := cut_to (P := Tryz.prog) 138 9 .i64 Tryz.underlying138 hi048 (some ⟨go42, 0, none⟩) x9_2.length co42 (ji43) TD q48 (Kd.R_reads' HO_9.out).2.1; have hr48 := Kd.R_take (m := ((ji43) : Int).toNat) HO_9.out (by have hle_ := (Kd.R_reads' HO_9.out).1; omega); have hy48 : y272.length = ((ji43) : Int).toNat := (by rw [Ny272.out, List.length_take]; have hle_ := (Kd.R_reads' HO_9.out).1; omega); rw [← Ny272.out] at hr48; rw [← hy48] at hr48 hcut48; clear hy48 hi048 hsz48 HO_9; have HO274 := Aside0.mk hr48; clear hr48; replace q48 := eq_true q48))
        go_ret
        exact ⟨_, by first | rfl | (simp [errW_none, errW_some] <;> rfl) | (simp only [← hji12, ← hji43]; first | rfl | (simp [errW_none, errW_some] <;> rfl)) | (simp [*, errW_none, errW_some] <;> rfl) | (simp [errW_none, errW_some]; rw [Bool.eq_iff_iff]; simp), (RW HO274).out, TB⟩
end
section
/-! ### strings_Split: function 166 -/
def strings_Split.f (k : Nat) (a0 : ByteArray) (a1 : ByteArray) : Option (List ByteArray) := (strings_genSplit.f k a0 a1 0 (-1)).bind fun t275 => (some t275)
theorem strings_Split.calls (k : Nat) (a0 : ByteArray) (a1 : ByteArray) (r : List ByteArray) (w : World) (h : strings_Split.f k a0 a1 = some r) :
  Calls Tryz.prog 166 #[.string a0, .string a1] w fun e w' => ∃ v0_ : Value, e = .returned (v0_) ∧ Kd.R Kd.string 9 w' w.heap.size (fun _ => True) v0_ r ∧ Below w.heap.size w w' := by
 have HB := Aside0.mk (Below.refl w.heap.size w)
 have H : ((strings_genSplit.f k a0 a1 0 (-1)).bind fun t275 => (some t275)) = some r := h
 clear h
 obtain ⟨t275, A3, H⟩ := bnd H
 obtain rfl := Option.some.inj H
 go_enter Tryz.func166, Tryz.ntmps166
 go_wp2_with (first | ((with_reducible refine gate_callee (f := 191) rfl ?_); refine goesL_ (some 7) rfl rfl Tryz.func191 KR rfl #[.string a0, .string a1, .int .i64 0, .int .i64 (-1)] rfl TA ?_; (with_reducible refine (strings_genSplit.calls k a0 a1 0 (-1) t275 _ A3.out).mono ?_); rintro e w4 ⟨v276, rfl, ho0, hb⟩; refine ⟨_, rfl, ?_⟩; have HO277 := RL ho0; replace HB := BS hb; clear hb; (try clear ho0)))
 go_ret
 exact ⟨_, TE, (RW HO277).out, TB⟩
end
section
/-! ### impl_labelsOf: function 128 -/
def impl_labelsOf.f (k : Nat) (a0 : ByteArray) : Option (List ByteArray) := if a0.toList = ([] : List UInt8) then (some ([] : List ByteArray)) else ((strings_Split.f k a0 (⟨#[46]⟩ : ByteArray)).bind fun t278 => (some t278))
theorem impl_labelsOf.calls (k : Nat) (a0 : ByteArray) (r : List ByteArray) (w : World) (h : impl_labelsOf.f k a0 = some r) :
  Calls Tryz.prog 128 #[.string a0] w fun e w' => ∃ v0_ : Value, e = .returned (v0_) ∧ Kd.R Kd.string 9 w' w.heap.size (fun _ => True) v0_ r ∧ Below w.heap.size w w' := by
 have HB := Aside0.mk (Below.refl w.heap.size w)
 have H : (if a0.toList = ([] : List UInt8) then (some ([] : List ByteArray)) else ((strings_Split.f k a0 (⟨#[46]⟩ : ByteArray)).bind fun t278 => (some t278))) = some r := h
 clear h
 by_cases c2 : a0.toList = ([] : List UInt8)
 ·rw [if_pos c2] at H
  have c2b0 : (a0.toList == ([] : List UInt8)) = true := beq_iff_eq.mpr c2
  have c2b1 : (a0.toList != ([] : List UInt8)) = false := bne_eq_false_iff_eq.mpr c2
  clear c2
  obtain rfl := Option.some.inj H
  go_enter Tryz.func128, Tryz.ntmps128
  go_wp2
  go_ret
  exact ⟨_, by first | rfl | (simp [errW_none, errW_some] <;> rfl) | (simp [*, errW_none, errW_some] <;> rfl) | (simp [errW_none, errW_some]; rw [Bool.eq_iff_iff]; simp), TZ, TB⟩
 ·rw [if_neg c2] at H
  have c2b0 : (a0.toList == ([] : List UInt8)) = false := beq_eq_false_iff_ne.mpr c2
  have c2b1 : (a0.toList != ([] : List UInt8)) = true := bne_iff_ne.mpr c2
  obtain ⟨t278, A3, H⟩ := bnd H
  obtain rfl := Option.some.inj H
  go_enter Tryz.func128, Tryz.ntmps128
  go_wp2_with (first | ((with_reducible refine gate_callee (f := 166) rfl ?_); refine goesL_ (some 6) rfl rfl Tryz.func166 KR rfl #[.string a0, .string (⟨#[46]⟩ : ByteArray)] rfl TA ?_; (with_reducible refine (strings_Split.calls k a0 (⟨#[46]⟩ : ByteArray) t278 _ A3.out).mono ?_); rintro e w4 ⟨v279, rfl, ho0, hb⟩; refine ⟨_, rfl, ?_⟩; have HO280 := RL ho0; replace HB := BS hb; clear hb; (try clear ho0)))
  go_ret
  exact ⟨_, by first | rfl | (simp [errW_none, errW_some] <;> rfl) | (simp [*, errW_none, errW_some] <;> rfl) | (simp [errW_none, errW_some]; rw [Bool.eq_iff_iff]; simp), (RW HO280).out, TB⟩
end
section
/-! ### strings_Trim: function 168 -/
def strings_Trim.f (a0 : ByteArray) (a1 : ByteArray) : Option (ByteArray) := if a0.size ≤ 9223372036854775807 ∧ a1.size < 4294967281 ∧ a1.data.toList.all (fun b => decide (b.toNat < 128)) = true then some ⟨(Go.Lib.trimS a0.data.toList a1.data.toList).toArray⟩ else none
theorem strings_Trim.calls (a0 : ByteArray) (a1 : ByteArray) (r : ByteArray) (w : World) (h : strings_Trim.f a0 a1 = some r) :
  Calls Tryz.prog 168 #[.string a0, .string a1] w fun e w' => e = .returned (.string r) ∧ Below w.heap.size w w' := by
 unfold strings_Trim.f at h
 split at h
 ·rename_i h1
  obtain rfl := Option.some.inj h
  exact (Go.Proofs.Any.strings_Trim_laid Go.Proofs.Tryz.lays160 KR a0 a1 w h1.1 h1.2.1 (Go.Proofs.ascii_of_all h1.2.2)).mono fun e w' hh => hh
 ·cases h
end
section
/-! ### impl_isLabel: function 131 -/
def impl_isLabel.f (a0 : ByteArray) : Option (Bool) := if a0.toList = ([42] : List UInt8) then (some true) else ((impl_within.f (a0.size : Int) 1 20).bind fun t281 => (if t281 = true then ((strings_Trim.f a0 (⟨#[97, 98, 99, 100, 101, 102, 103, 104, 105, 106, 107, 108, 109, 110, 111, 112, 113, 114, 115, 116, 117, 118, 119, 120, 121, 122, 48, 49, 50, 51, 52, 53, 54, 55, 56, 57, 45, 95]⟩ : ByteArray)).bind fun t282 => (some (t282.toList == ([] : List UInt8)))) else (some false)))
theorem impl_isLabel.calls (a0 : ByteArray) (r : Bool) (w : World) (h : impl_isLabel.f a0 = some r) :
  Calls Tryz.prog 131 #[.string a0] w fun e w' => e = .returned (.bool r) ∧ Below w.heap.size w w' := by
 have HB := Aside0.mk (Below.refl w.heap.size w)
 have H : (if a0.toList = ([42] : List UInt8) then (some true) else ((impl_within.f (a0.size : Int) 1 20).bind fun t281 => (if t281 = true then ((strings_Trim.f a0 (⟨#[97, 98, 99, 100, 101, 102, 103, 104, 105, 106, 107, 108, 109, 110, 111, 112, 113, 114, 115, 116, 117, 118, 119, 120, 121, 122, 48, 49, 50, 51, 52, 53, 54, 55, 56, 57, 45, 95]⟩ : ByteArray)).bind fun t282 => (some (t282.toList == ([] : List UInt8)))) else (some false)))) = some r := h
 clear h
 by_cases c2 : a0.toList = ([42] : List UInt8)
 ·rw [if_pos c2] at H
  have c2b0 : (a0.toList == ([42] : List UInt8)) = true := beq_iff_eq.mpr c2
  have c2b1 : (a0.toList != ([42] : List UInt8)) = false := bne_eq_false_iff_eq.mpr c2
  clear c2
  obtain rfl := Option.some.inj H
  go_enter Tryz.func131, Tryz.ntmps131
  go_wp2
  go_ret
  exact ⟨by first | rfl | (simp [errW_none, errW_some] <;> rfl) | (simp [*, errW_none, errW_some] <;> rfl) | (simp [errW_none, errW_some]; rw [Bool.eq_iff_iff]; simp), TB⟩
 ·rw [if_neg c2] at H
  have c2b0 : (a0.toList == ([42] : List UInt8)) = false := beq_eq_false_iff_ne.mpr c2
  have c2b1 : (a0.toList != ([42] : List UInt8)) = true := bne_iff_ne.mpr c2
  obtain ⟨t281, A3, H⟩ := bnd H
  by_cases c4 : t281 = true
  ·subst c4
   replace H := ift H
   obtain ⟨t282, A5, H⟩ := bnd H
   obtain rfl := Option.some.inj H
   go_enter Tryz.func131, Tryz.ntmps131
   go_wp2_with (first | ((with_reducible refine gate_callee (f := 86) rfl ?_); refine goesL_ (some 7) rfl rfl Tryz.func86 KR rfl #[.int .i64 (a0.size : Int), .int .i64 1, .int .i64 20] rfl TA ?_; (with_reducible refine (impl_within.calls (a0.size : Int) 1 20 true _ A3.out).mono ?_); rintro e w' ⟨rfl, ⟨nd, rfl⟩⟩; refine ⟨_, rfl, ?_⟩) | (go_at_call 168; (with_reducible refine (strings_Trim.calls a0 (⟨#[97, 98, 99, 100, 101, 102, 103, 104, 105, 106, 107, 108, 109, 110, 111, 112, 113, 114, 115, 116, 117, 118, 119, 120, 121, 122, 48, 49, 50, 51, 52, 53, 54, 55, 56, 57, 45, 95]⟩ : ByteArray) t282 _ A5.out).mono ?_); rintro e w6 ⟨rfl, hb⟩; replace HB := BS hb; clear hb))
   go_ret
   exact ⟨by first | rfl | (simp [errW_none, errW_some] <;> rfl) | (simp [*, errW_none, errW_some] <;> rfl) | (simp [errW_none, errW_some]; rw [Bool.eq_iff_iff]; simp), TB⟩
  ·replace c4 := Bool.eq_false_iff.mpr c4
   subst c4
   replace H := iff' H
   obtain rfl := Option.some.inj H
   go_enter Tryz.func131, Tryz.ntmps131
   go_wp2_with (first | ((with_reducible refine gate_callee (f := 86) rfl ?_); refine goesL_ (some 7) rfl rfl Tryz.func86 KR rfl #[.int .i64 (a0.size : Int), .int .i64 1, .int .i64 20] rfl TA ?_; (with_reducible refine (impl_within.calls (a0.size : Int) 1 20 false _ A3.out).mono ?_); rintro e w' ⟨rfl, ⟨nd, rfl⟩⟩; refine ⟨_, rfl, ?_⟩))
   go_ret
   exact ⟨by first | rfl | (simp [errW_none, errW_some] <;> rfl) | (simp [*, errW_none, errW_some] <;> rfl) | (simp [errW_none, errW_some]; rw [Bool.eq_iff_iff]; simp), TB⟩
end
section
/-! ### impl_GoodName_1: function 130 -/
def impl_GoodName_1.f (a0 : ByteArray) : Option (Bool) := (impl_isLabel.f a0).bind fun t283 => (some (!t283))
theorem impl_GoodName_1.calls (a0 : ByteArray) (r : Bool) (w : World) (h : impl_GoodName_1.f a0 = some r) :
  Calls Tryz.prog 130 #[.string a0] w fun e w' => e = .returned (.bool r) ∧ Below w.heap.size w w' := by
 have HB := Aside0.mk (Below.refl w.heap.size w)
 have H : ((impl_isLabel.f a0).bind fun t283 => (some (!t283))) = some r := h
 clear h
 obtain ⟨t283, A2, H⟩ := bnd H
 obtain rfl := Option.some.inj H
 go_enter Tryz.func130, Tryz.ntmps130
 go_wp2_with (first | ((with_reducible refine gate_callee (f := 131) rfl ?_); refine goesL_ (some 4) rfl rfl Tryz.func131 KR rfl #[.string a0] rfl TA ?_; (with_reducible refine (impl_isLabel.calls a0 t283 _ A2.out).mono ?_); rintro e w3 ⟨rfl, hb⟩; refine ⟨_, rfl, ?_⟩; replace HB := BS hb; clear hb))
 go_ret
 exact ⟨TE, TB⟩
end
section
/-! ### slices_IndexFunc_string_string_GoodName_1: function 167 -/
def slices_IndexFunc_string_string_GoodName_1.l0 : Nat → List ByteArray → Int → Int → Option (Int)
 | 0, _, _, _ => none
 | k + 1, x0, x7, x8 => if x8 < x7 then (if 0 ≤ x8 then (if x8 < (x0.length : Int) then ((impl_GoodName_1.f (rdOf ByteArray.empty x0 x8)).bind fun t285 => (if t285 = true then (some x8) else (slices_IndexFunc_string_string_GoodName_1.l0 k x0 x7 (wrap64 (x8 + 1))))) else (none)) else (none)) else (some (-1))
def slices_IndexFunc_string_string_GoodName_1.f (k : Nat) (l0 : List ByteArray)  : Option (Int) := slices_IndexFunc_string_string_GoodName_1.l0 k l0 (l0.length : Int) 0
theorem slices_IndexFunc_string_string_GoodName_1.calls (k : Nat) (A0 : Option Addr) (c0 : Nat) (l0 : List ByteArray)  (r : Int) (w : World) (hr0 : Kd.C Kd.string w A0 l0.length l0) (hc0 : l0.length ≤ c0) (h : slices_IndexFunc_string_string_GoodName_1.f k l0 = some r) :
  Calls Tryz.prog 167 #[.slice A0 l0.length c0, .func (.func 130) #[] #[]] w fun e w' => e = .returned (.int .i64 r) ∧ Below w.heap.size w w' := by
 have HR0 := Aside0.mk hr0
 have HC0 := Aside0.mk hc0
 clear hr0 hc0
 have HB := Aside0.mk (Below.refl w.heap.size w)
 have H : (slices_IndexFunc_string_string_GoodName_1.l0 k l0 (l0.length : Int) 0) = some r := h
 clear h
 have H' := Aside0.mk H
 clear H
 go_enter Tryz.func167, Tryz.ntmps167
 go_wp2
 go_loopg [8] k (fun kq v8 w' => ∃ (x8_1 : Int), v8 = .int .i64 x8_1 ∧ Aside0 (slices_IndexFunc_string_string_GoodName_1.l0 kq l0 (l0.length : Int) x8_1 = some r) ∧ Aside0 (kq ≤ k) ∧ Aside0 (Below w.heap.size w w'))
 case atStart => exact ⟨(0), TF, H', ⟨Nat.le_refl _⟩, ⟨TB⟩⟩
 case round =>
  clear H'
  obtain ⟨x8_1, rfl, HA, HK1, HB⟩ := hrel
  cases gk with
  | zero => exact absurd HA.out (by simp [slices_IndexFunc_string_string_GoodName_1.l0])
  | succ k1 =>
   have H := HA.out
   clear HA
   simp only [slices_IndexFunc_string_string_GoodName_1.l0] at H
   by_cases c3 : x8_1 < (l0.length : Int)
   ·rw [if_pos c3] at H
    have c3b0 : decide (x8_1 < (l0.length : Int)) = true := decide_eq_true c3
    clear c3
    obtain ⟨c4, H⟩ := ifn H
    have c4b0 : decide (0 ≤ x8_1) = true := decide_eq_true c4
    clear c4
    obtain ⟨c5, H⟩ := ifn H
    have c5b0 : decide (x8_1 < (l0.length : Int)) = true := decide_eq_true c5
    clear c5
    obtain ⟨t285, A6, H⟩ := bnd H
    by_cases c7 : t285 = true
    ·subst c7
     replace H := ift H
     obtain rfl := Option.some.inj H
     have p284 : 0 ≤ (x8_1 : Int) := TD
     have q284 : x8_1 < (l0.length : Int) := TD
     obtain ⟨ad284, e284, hx284_0⟩ := Kd.at_string (Kd.C_below HR0.out HB.out) x8_1 p284 q284
     cases e284
     replace p284 := eq_true p284
     replace q284 := eq_true q284
     go_wp2_with (first | (go_at_call 130; (with_reducible refine (impl_GoodName_1.calls (rdOf ByteArray.empty l0 x8_1) true _ A6.out).mono ?_); rintro e w8 ⟨rfl, hb⟩; replace HB := BS hb; clear hb))
     go_ret
     exact ⟨TE, TB⟩
    ·replace c7 := Bool.eq_false_iff.mpr c7
     subst c7
     replace H := iff' H
     have H' := Aside0.mk H
     clear H
     have p284 : 0 ≤ (x8_1 : Int) := TD
     have q284 : x8_1 < (l0.length : Int) := TD
     obtain ⟨ad284, e284, hx284_0⟩ := Kd.at_string (Kd.C_below HR0.out HB.out) x8_1 p284 q284
     cases e284
     replace p284 := eq_true p284
     replace q284 := eq_true q284
     go_wp2_with (first | (go_at_call 130; (with_reducible refine (impl_GoodName_1.calls (rdOf ByteArray.empty l0 x8_1) false _ A6.out).mono ?_); rintro e w9 ⟨rfl, hb⟩; replace HB := BS hb; clear hb))
     go_roundg k1
     case measure => have := HK1.out; omega
     case rel => exact ⟨(wrap64 (x8_1 + 1)), TF, H', ⟨TM⟩, ⟨TB⟩⟩
   ·rw [if_neg c3] at H
    have c3b0 : decide (x8_1 < (l0.length : Int)) = false := decide_eq_false c3
    clear c3
    obtain rfl := Option.some.inj H
    go_wp2
    go_ret
    exact ⟨TE, TB⟩
end
section
/-! ### slices_ContainsFunc_string_string_GoodName_1: function 129 -/
def slices_ContainsFunc_string_string_GoodName_1.f (k : Nat) (l0 : List ByteArray)  : Option (Bool) := (slices_IndexFunc_string_string_GoodName_1.f k l0).bind fun t286 => (some (decide (t286 ≥ 0)))
theorem slices_ContainsFunc_string_string_GoodName_1.calls (k : Nat) (A0 : Option Addr) (c0 : Nat) (l0 : List ByteArray)  (r : Bool) (w : World) (hr0 : Kd.C Kd.string w A0 l0.length l0) (hc0 : l0.length ≤ c0) (h : slices_ContainsFunc_string_string_GoodName_1.f k l0 = some r) :
  Calls Tryz.prog 129 #[.slice A0 l0.length c0, .func (.func 130) #[] #[]] w fun e w' => e = .returned (.bool r) ∧ Below w.heap.size w w' := by
 have HR0 := Aside0.mk hr0
 have HC0 := Aside0.mk hc0
 clear hr0 hc0
 have HB := Aside0.mk (Below.refl w.heap.size w)
 have H : ((slices_IndexFunc_string_string_GoodName_1.f k l0).bind fun t286 => (some (decide (t286 ≥ 0)))) = some r := h
 clear h
 obtain ⟨t286, A3, H⟩ := bnd H
 obtain rfl := Option.some.inj H
 go_enter Tryz.func129, Tryz.ntmps129
 go_wp2_with (first | ((with_reducible refine gate_callee (f := 167) rfl ?_); refine goesL_ (some 7) rfl rfl Tryz.func167 KR rfl #[.slice A0 l0.length c0, .func (.func 130) #[] #[]] rfl TA ?_; (with_reducible refine (slices_IndexFunc_string_string_GoodName_1.calls k _ _ l0  t286 _ ?side1 ?side2 A3.out).mono ?_); (case side1 => exact CW (HR0.out)); (case side2 => exact HC0.out); rintro e w4 ⟨rfl, hb⟩; refine ⟨_, rfl, ?_⟩; replace HB := BS hb; clear hb))
 go_ret
 exact ⟨TE, TB⟩
end
section
/-! ### impl_GoodName: function 77 -/
def impl_GoodName.f (k : Nat) (a0 : ByteArray) : Option (Bool) := if (a0.size : Int) > 60 then (some false) else ((impl_labelsOf.f k a0).bind fun t287 => (if (t287.length : Int) ≤ 8 then ((slices_ContainsFunc_string_string_GoodName_1.f k t287).bind fun t290 => (some (!t290))) else (some false)))
theorem impl_GoodName.calls (k : Nat) (a0 : ByteArray) (r : Bool) (w : World) (h : impl_GoodName.f k a0 = some r) :
  Calls Tryz.prog 77 #[.string a0] w fun e w' => e = .returned (.bool r) ∧ Below w.heap.size w w' := by
 have HB := Aside0.mk (Below.refl w.heap.size w)
 have H : (if (a0.size : Int) > 60 then (some false) else ((impl_labelsOf.f k a0).bind fun t287 => (if (t287.length : Int) ≤ 8 then ((slices_ContainsFunc_string_string_GoodName_1.f k t287).bind fun t290 => (some (!t290))) else (some false)))) = some r := h
 clear h
 by_cases c2 : (a0.size : Int) > 60
 ·rw [if_pos c2] at H
  have c2b0 : decide (60 < (a0.size : Int)) = true := decide_eq_true c2
  have c2b1 : decide (60 < a0.size) = true := decide_eq_true (by omega)
  clear c2
  obtain rfl := Option.some.inj H
  go_enter Tryz.func77, Tryz.ntmps77
  go_wp2
  go_ret
  exact ⟨TE, TB⟩
 ·rw [if_neg c2] at H
  have c2b0 : decide (60 < (a0.size : Int)) = false := decide_eq_false c2
  have c2b1 : decide (60 < a0.size) = false := decide_eq_false (by omega)
  clear c2
  obtain ⟨t287, A3, H⟩ := bnd H
  by_cases c4 : (t287.length : Int) ≤ 8
  ·rw [if_pos c4] at H
   have c4b0 : decide ((t287.length : Int) ≤ 8) = true := decide_eq_true c4
   have c4b1 : decide (t287.length ≤ 8) = true := decide_eq_true (by omega)
   clear c4
   obtain ⟨t290, A5, H⟩ := bnd H
   obtain rfl := Option.some.inj H
   go_enter Tryz.func77, Tryz.ntmps77
   go_wp2_with (first | ((with_reducible refine gate_callee (f := 128) rfl ?_); refine goesL_ (some 8) rfl rfl Tryz.func128 KR rfl #[.string a0] rfl TA ?_; (with_reducible refine (impl_labelsOf.calls k a0 t287 _ A3.out).mono ?_); rintro e w6 ⟨v288, rfl, ho0, hb⟩; refine ⟨_, rfl, ?_⟩; have HO289 := RL ho0; replace HB := BS hb; clear hb; (try clear ho0); obtain ⟨Ao7, co7, eo7⟩ := Kd.R_slice HO289.out; subst eo7) | (go_at_call 129; (with_reducible refine (slices_ContainsFunc_string_string_GoodName_1.calls k _ _ t287  t290 _ ?side1 ?side2 A5.out).mono ?_); (case side1 => exact CW ((Kd.R_reads' HO289.out).2.2)); (case side2 => exact RI HO289); rintro e w8 ⟨rfl, hb⟩; replace HO289 := RB HO289 hb; replace HB := BS hb; clear hb))
   go_ret
   exact ⟨TE, TB⟩
  ·rw [if_neg c4] at H
   have c4b0 : decide ((t287.length : Int) ≤ 8) = false := decide_eq_false c4
   have c4b1 : decide (t287.length ≤ 8) = false := decide_eq_false (by omega)
   clear c4
   obtain rfl := Option.some.inj H
   go_enter Tryz.func77, Tryz.ntmps77
   go_wp2_with (first | ((with_reducible refine gate_callee (f := 128) rfl ?_); refine goesL_ (some 8) rfl rfl Tryz.func128 KR rfl #[.string a0] rfl TA ?_; (with_reducible refine (impl_labelsOf.calls k a0 t287 _ A3.out).mono ?_); rintro e w9 ⟨v288, rfl, ho0, hb⟩; refine ⟨_, rfl, ?_⟩; have HO289 := RL ho0; replace HB := BS hb; clear hb; (try clear ho0); obtain ⟨Ao10, co10, eo10⟩ := Kd.R_slice HO289.out; subst eo10))
   go_ret
   exact ⟨TE, TB⟩
end
section
/-! ### slices_Index_int_int: function 199 -/
def slices_Index_int_int.l0 : Nat → List Int → Int → Int → Int → Option (Int)
 | 0, _, _, _, _ => none
 | k + 1, x0, x1, x7, x8 => if x8 < x7 then (if 0 ≤ x8 then (if x8 < (x0.length : Int) then (if x1 = (rd x0 x8) then (some x8) else (slices_Index_int_int.l0 k x0 x1 x7 (wrap64 (x8 + 1)))) else (none)) else (none)) else (some (-1))
def slices_Index_int_int.f (k : Nat) (l0 : List Int) (a1 : Int) : Option (Int) := slices_Index_int_int.l0 k l0 a1 (l0.length : Int) 0
theorem slices_Index_int_int.calls (k : Nat) (A0 : Option Addr) (c0 : Nat) (l0 : List Int) (a1 : Int) (r : Int) (w : World) (hr0 : Kd.C (Kd.int .i64) w A0 l0.length l0) (hc0 : l0.length ≤ c0) (h : slices_Index_int_int.f k l0 a1 = some r) :
  Calls Tryz.prog 199 #[.slice A0 l0.length c0, .int .i64 a1] w fun e w' => e = .returned (.int .i64 r) ∧ Drawn0 w w' := by
 have HR0 := Aside0.mk hr0
 have HC0 := Aside0.mk hc0
 clear hr0 hc0
 have H : (slices_Index_int_int.l0 k l0 a1 (l0.length : Int) 0) = some r := h
 clear h
 have H' := Aside0.mk H
 clear H
 go_enter Tryz.func199, Tryz.ntmps199
 go_wp2
 go_loopg [8] k (fun kq v8 w' => ∃ (x8_1 : Int), v8 = .int .i64 x8_1 ∧ Aside0 (slices_Index_int_int.l0 kq l0 a1 (l0.length : Int) x8_1 = some r) ∧ Aside0 (kq ≤ k) ∧ Drawn0 w w')
 case atStart => exact ⟨(0), TF, H', ⟨Nat.le_refl _⟩, TN⟩
 case round =>
  clear H'
  obtain ⟨x8_1, rfl, HA, HK1, ⟨m1, rfl⟩⟩ := hrel
  cases gk with
  | zero => exact absurd HA.out (by simp [slices_Index_int_int.l0])
  | succ k1 =>
   have H := HA.out
   clear HA
   simp only [slices_Index_int_int.l0] at H
   by_cases c3 : x8_1 < (l0.length : Int)
   ·rw [if_pos c3] at H
    have c3b0 : decide (x8_1 < (l0.length : Int)) = true := decide_eq_true c3
    clear c3
    obtain ⟨c4, H⟩ := ifn H
    have c4b0 : decide (0 ≤ x8_1) = true := decide_eq_true c4
    clear c4
    obtain ⟨c5, H⟩ := ifn H
    have c5b0 : decide (x8_1 < (l0.length : Int)) = true := decide_eq_true c5
    clear c5
    by_cases c6 : a1 = (rd l0 x8_1)
    ·rw [if_pos c6] at H
     have c6b0 : (a1 == (rd l0 x8_1)) = true := beq_iff_eq.mpr c6
     have c6b1 : (a1 != (rd l0 x8_1)) = false := bne_eq_false_iff_eq.mpr c6
     clear c6
     obtain rfl := Option.some.inj H
     have p964 : 0 ≤ (x8_1 : Int) := TD
     have q964 : x8_1 < (l0.length : Int) := TD
     obtain ⟨ad964, e964, hx964_0⟩ := Kd.at_int HR0.out x8_1 p964 q964
     cases e964
     replace p964 := eq_true p964
     replace q964 := eq_true q964
     go_wp2
     go_ret
     exact ⟨TF, TN⟩
    ·rw [if_neg c6] at H
     have c6b0 : (a1 == (rd l0 x8_1)) = false := beq_eq_false_iff_ne.mpr c6
     have c6b1 : (a1 != (rd l0 x8_1)) = true := bne_iff_ne.mpr c6
     have H' := Aside0.mk H
     clear H
     have p964 : 0 ≤ (x8_1 : Int) := TD
     have q964 : x8_1 < (l0.length : Int) := TD
     obtain ⟨ad964, e964, hx964_0⟩ := Kd.at_int HR0.out x8_1 p964 q964
     cases e964
     replace p964 := eq_true p964
     replace q964 := eq_true q964
     go_wp2
     go_roundg k1
     case measure => have := HK1.out; omega
     case rel => exact ⟨(wrap64 (x8_1 + 1)), TF, H', ⟨TM⟩, TN⟩
   ·rw [if_neg c3] at H
    have c3b0 : decide (x8_1 < (l0.length : Int)) = false := decide_eq_false c3
    clear c3
    obtain rfl := Option.some.inj H
    go_wp2
    go_ret
    exact ⟨TF, TN⟩
end
section
/-! ### slices_Contains_int_int: function 169 -/
def slices_Contains_int_int.f (k : Nat) (l0 : List Int) (a1 : Int) : Option (Bool) := (slices_Index_int_int.f k l0 a1).bind fun t965 => (some (decide (t965 ≥ 0)))
theorem slices_Contains_int_int.calls (k : Nat) (A0 : Option Addr) (c0 : Nat) (l0 : List Int) (a1 : Int) (r : Bool) (w : World) (hr0 : Kd.C (Kd.int .i64) w A0 l0.length l0) (hc0 : l0.length ≤ c0) (h : slices_Contains_int_int.f k l0 a1 = some r) :
  Calls Tryz.prog 169 #[.slice A0 l0.length c0, .int .i64 a1] w fun e w' => e = .returned (.bool r) ∧ Drawn0 w w' := by
 have HR0 := Aside0.mk hr0
 have HC0 := Aside0.mk hc0
 clear hr0 hc0
 have H : ((slices_Index_int_int.f k l0 a1).bind fun t965 => (some (decide (t965 ≥ 0)))) = some r := h
 clear h
 obtain ⟨t965, A3, H⟩ := bnd H
 obtain rfl := Option.some.inj H
 go_enter Tryz.func169, Tryz.ntmps169
 go_wp2_with (first | ((with_reducible refine gate_callee (f := 199) rfl ?_); refine goesL_ (some 7) rfl rfl Tryz.func199 KR rfl #[.slice A0 l0.length c0, .int .i64 a1] rfl TA ?_; (with_reducible refine (slices_Index_int_int.calls k _ _ l0 a1 t965 _ ?side1 ?side2 A3.out).mono ?_); (case side1 => exact CW (HR0.out)); (case side2 => exact HC0.out); rintro e w' ⟨rfl, ⟨nd, rfl⟩⟩; refine ⟨_, rfl, ?_⟩))
 go_ret
 exact ⟨TF, TN⟩
end
section
/-! ### impl_isType: function 136 -/
def impl_isType.f (k : Nat) (a0 : Int) : Option (Bool) := (slices_Contains_int_int.f k (([1, 2, 5, 6, 15, 16] : List Int)) a0).bind fun t969 => (some t969)
theorem impl_isType.calls (k : Nat) (a0 : Int) (r : Bool) (w : World) (h : impl_isType.f k a0 = some r) :
  Calls Tryz.prog 136 #[.int .i64 a0] w fun e w' => e = .returned (.bool r) ∧ Below w.heap.size w w' := by
 have HB := Aside0.mk (Below.refl w.heap.size w)
 have H : ((slices_Contains_int_int.f k (([1, 2, 5, 6, 15, 16] : List Int)) a0).bind fun t969 => (some t969)) = some r := h
 clear h
 obtain ⟨y966, hy966⟩ : ∃ y_ : List Int, y_ = (([1, 2, 5, 6, 15, 16] : List Int)) := ⟨_, rfl⟩
 replace H : ((slices_Contains_int_int.f k y966 a0).bind fun t969 => (some t969)) = some r := by first | (rw [hy966]; with_reducible exact H) | (have H2_ := (Option.bind_some _ _).symm.trans H; rw [hy966]; with_reducible exact H2_) | (have H2_ := (Option.bind_some _ _).symm.trans H; with_reducible exact H2_) | with_reducible exact H | (rw [hy966]; exact H) | exact H
 have Ny966 := Aside0.mk hy966
 clear hy966
 obtain ⟨t969, A2, H⟩ := bnd H
 obtain rfl := Option.some.inj H
 go_enter Tryz.func136, Tryz.ntmps136
 go_wp2_with (first | ((with_reducible refine gate_dst (N := 3) rfl ?_); refine Kd.R_lit (Kd.int .i64) _ 3 ?hg (N := 3) ?hd (xs := ([1, 2, 5, 6, 15, 16] : List Int)) (inner := [.int .i64 1, .int .i64 2, .int .i64 5, .int .i64 6, .int .i64 15, .int .i64 16]) (ok := fun _ => True) (okp := fun _ => True) ?hr ?hp (fun _ hk => hk) trivial (Below.refl _ _) (Nat.le_refl _) (by simp) ?_; (case hd => rfl); (case hg => rfl); (case hr => first | (go_simp; done) | (go_simp; rfl)); (case hp => exact (Reps.one (show Kd.M (Kd.int .i64) _ _ _ 1 [.int .i64 1] from rfl) (Reps.one (show Kd.M (Kd.int .i64) _ _ _ 2 [.int .i64 2] from rfl) (Reps.one (show Kd.M (Kd.int .i64) _ _ _ 5 [.int .i64 5] from rfl) (Reps.one (show Kd.M (Kd.int .i64) _ _ _ 6 [.int .i64 6] from rfl) (Reps.one (show Kd.M (Kd.int .i64) _ _ _ 15 [.int .i64 15] from rfl) (Reps.one (show Kd.M (Kd.int .i64) _ _ _ 16 [.int .i64 16] from rfl) (Reps.none _ _)))))))); intro v967 w3 ho4 hb hg_ hnew_; clear hg_ hnew_; (first | rw [← Ny966.out] at ho4 | (simp only [Int.reduceToNat] at ho4; rw [← Ny966.out] at ho4)); have HO968 := RL ho4; replace HB := BS hb; clear hb ho4; obtain ⟨Ao5, co5, eo5⟩ := Kd.R_slice HO968.out; subst eo5) | ((with_reducible refine gate_callee (f := 169) rfl ?_); refine goesL_ (some 5) rfl rfl Tryz.func169 KR rfl #[.slice Ao5 y966.length co5, .int .i64 a0] rfl TA ?_; (with_reducible refine (slices_Contains_int_int.calls k _ _ y966 a0 t969 _ ?side1 ?side2 A2.out).mono ?_); (case side1 => exact CW ((Kd.R_reads' HO968.out).2.2)); (case side2 => exact RI HO968); rintro e w' ⟨rfl, ⟨nd, rfl⟩⟩; refine ⟨_, rfl, ?_⟩))
 go_ret
 exact ⟨TE, TB⟩
end
section
/-! ### impl_numberIn: function 208 -/
def impl_numberIn.f (a0 : ByteArray) (a1 : Int) : Option (Int × Bool) :=
 if a0.size ≤ 281474976710656 then
  match Go.Lib.atoiAll a0.data.toList with
  | .ok v => some (v, decide (0 ≤ v ∧ v ≤ a1) && (Go.Lib.itoa v == a0.data.toList))
  | .range => some (Go.Lib.atoiSat a0.data.toList, false)
  | _ => some (0, false)
 else none
theorem num_eqs (v : Int) (s : ByteArray) : ((⟨(Go.Lib.itoa v).toArray⟩ : ByteArray).toList == s.toList) = (Go.Lib.itoa v == s.data.toList) := by
 rw [Go.Lib.toList_data, Go.Lib.toList_data]
set_option maxHeartbeats 1000000 in
theorem impl_numberIn.calls (a0 : ByteArray) (a1 : Int) (r1 : Int) (r2 : Bool) (w : World) (hG_ : Glob w) (h : impl_numberIn.f a0 a1 = some (r1, r2)) :
  Calls Tryz.prog 208 #[.string a0, .int .i64 a1] w fun e w' => e = .returned (.tuple #[.int .i64 r1, .bool r2]) ∧ Below w.heap.size w w' := by
 unfold impl_numberIn.f at h
 split at h
 ·rename_i hsz
  cases hA : Go.Lib.atoiAll a0.data.toList with
  | range =>
   rw [hA] at h
   simp only [Option.some.injEq, Prod.mk.injEq] at h
   obtain ⟨rfl, rfl⟩ := h
   go_enter Tryz.func208, Tryz.ntmps208
   go_wp2_with (go_at_call 227; (with_reducible refine (num_atoi_range a0 hsz hA _ hG_).mono ?_); rintro e w1 ⟨tp, p, rfl, hb⟩)
   go_ret2
   exact ⟨rfl, hb⟩
  | ok v =>
   rw [hA] at h
   simp only [Option.some.injEq, Prod.mk.injEq] at h
   obtain ⟨rfl, rfl⟩ := h
   obtain ⟨vb0, vb1⟩ := Go.Lib.atoiAll_bounds hA
   by_cases hv : 0 ≤ v ∧ v ≤ a1
   ·have hW : impl_within.f v 0 a1 = some true := by
     unfold impl_within.f
     rw [if_pos hv.1]
     simp [hv.2]
    have hd : decide (0 ≤ v ∧ v ≤ a1) = true := decide_eq_true hv
    rw [hd, Bool.true_and, ← num_eqs]
    have HB := Aside0.mk (Below.refl w.heap.size w)
    go_enter Tryz.func208, Tryz.ntmps208
    go_wp2_with (first | (go_at_call 227; (with_reducible refine (num_atoi_ok a0 hsz v hA _).mono ?_); rintro e w1 ⟨rfl, hb⟩; have n0_ := Aside0.mk (below_step HB.out hb); clear HB hb; have HB := n0_; clear n0_) | (go_at_call 86; (with_reducible refine (impl_within.calls v 0 a1 true _ hW).mono ?_); rintro e w' ⟨rfl, ⟨nd, rfl⟩⟩) | (go_at_call 181; (with_reducible refine (num_itoa v vb0 vb1 _ (Glob.below hG_ TB)).mono ?_); rintro e w3 ⟨rfl, hb⟩; have n0_ := BS hb; clear HB hb; have HB := n0_; clear n0_))
    go_ret2
    exact ⟨TF, TB⟩
   ·have hW : impl_within.f v 0 a1 = some false := by
     unfold impl_within.f
     by_cases h0 : v ≥ 0
     ·rw [if_pos h0]
      have : ¬ v ≤ a1 := fun h => hv ⟨h0, h⟩
      simp [this]
     ·rw [if_neg h0]
    have hd : decide (0 ≤ v ∧ v ≤ a1) = false := decide_eq_false hv
    rw [hd, Bool.false_and]
    have HB := Aside0.mk (Below.refl w.heap.size w)
    go_enter Tryz.func208, Tryz.ntmps208
    go_wp2_with (first | (go_at_call 227; (with_reducible refine (num_atoi_ok a0 hsz v hA _).mono ?_); rintro e w1 ⟨rfl, hb⟩; have n0_ := Aside0.mk (below_step HB.out hb); clear HB hb; have HB := n0_; clear n0_) | (go_at_call 86; (with_reducible refine (impl_within.calls v 0 a1 false _ hW).mono ?_); rintro e w' ⟨rfl, ⟨nd, rfl⟩⟩))
    go_ret2
    exact ⟨TF, TB⟩
  | _ =>
   have hnn : noNum (Go.Lib.atoiAll a0.data.toList) := by rw [hA]; trivial
   rw [hA] at h
   simp only [Option.some.injEq, Prod.mk.injEq] at h
   obtain ⟨rfl, rfl⟩ := h
   go_enter Tryz.func208, Tryz.ntmps208
   go_wp2_with (go_at_call 227; (with_reducible refine (num_atoi_syntax a0 hsz hnn _ hG_).mono ?_); rintro e w1 ⟨tp, p, rfl, hb⟩)
   go_ret2
   exact ⟨rfl, hb⟩
 ·cases h
end
section
/-! ### impl_big: function 209 -/
def impl_big.l0 : Nat → Int → List Int → Int → Option (ByteArray)
 | 0, _, _, _ => none
 | k + 1, x0, x5, x6 => if x6 ≥ 0 then (if 0 ≤ (wrap64 (8 * x6)) then (if x5.length < 140737488355328 then (impl_big.l0 k x0 (x5 ++ [(shr .i64 x0 (wrap64 (8 * x6))) % 256]) (wrap64 (x6 - 1))) else (none)) else (none)) else (some (strOfNums x5))
def impl_big.f (k : Nat) (a0 : Int) (a1 : Int) : Option (ByteArray) := impl_big.l0 k a0 (([] : List Int)) (wrap64 (a1 - 1))
theorem impl_big.calls (k : Nat) (a0 : Int) (a1 : Int) (r : ByteArray) (w : World) (h : impl_big.f k a0 a1 = some r) :
  Calls Tryz.prog 209 #[.int .i64 a0, .int .i64 a1] w fun e w' => e = .returned (.string r) ∧ Below w.heap.size w w' := by
 have HB := Aside0.mk (Below.refl w.heap.size w)
 have H : (impl_big.l0 k a0 (([] : List Int)) (wrap64 (a1 - 1))) = some r := h
 clear h
 obtain ⟨y291, hy291⟩ : ∃ y_ : List Int, y_ = (([] : List Int)) := ⟨_, rfl⟩
 replace H : (impl_big.l0 k a0 y291 (wrap64 (a1 - 1))) = some r := by first | (rw [hy291]; with_reducible exact H) | (have H2_ := (Option.bind_some _ _).symm.trans H; rw [hy291]; with_reducible exact H2_) | (have H2_ := (Option.bind_some _ _).symm.trans H; with_reducible exact H2_) | with_reducible exact H | (rw [hy291]; exact H) | exact H
 have Ny291 := Aside0.mk hy291
 clear hy291
 have H' := Aside0.mk H
 clear H
 go_enter Tryz.func209, Tryz.ntmps209
 go_wp2_with (first | ((with_reducible refine gate_dst (N := 7) rfl ?_); refine Kd.R_lit (Kd.int .u8) _ 5 ?hg (N := 7) ?hd (xs := ([] : List Int)) (inner := []) (ok := fun _ => True) (okp := fun _ => True) ?hr ?hp (fun _ hk => hk) trivial (Below.refl _ _) (Nat.le_refl _) (by simp) ?_; (case hd => rfl); (case hg => rfl); (case hr => first | (go_simp; done) | (go_simp; rfl)); (case hp => exact (Reps.none _ _)); intro v292 w3 ho4 hb hg_ hnew_; clear hg_ hnew_; (first | rw [← Ny291.out] at ho4 | (simp only [Int.reduceToNat] at ho4; rw [← Ny291.out] at ho4)); have HO293 := RL ho4; replace HB := BS hb; clear hb ho4))
 go_loopg [5, 6] k (fun kq v5 v6 w' => ∃ (x5_1 : List Int) (x6_1 : Int), v6 = .int .i64 x6_1 ∧ Aside0 (impl_big.l0 kq a0 x5_1 x6_1 = some r) ∧ Aside0 (kq ≤ k) ∧ Aside0 (Kd.R (Kd.int .u8) 5 w' w.heap.size (fun _ => True) v5 x5_1) ∧ Aside0 (Below w.heap.size w w'))
 case atStart => exact ⟨(y291), (wrap64 (a1 - 1)), TF, H', ⟨Nat.le_refl _⟩, RW HO293, ⟨TB⟩⟩
 case round =>
  clear H'
  obtain ⟨x5_1, x6_1, rfl, HA, HK1, HO_5, HB⟩ := hrel
  cases gk with
  | zero => exact absurd HA.out (by simp [impl_big.l0])
  | succ k1 =>
   have H := HA.out
   clear HA
   simp only [impl_big.l0] at H
   by_cases c5 : x6_1 ≥ 0
   ·rw [if_pos c5] at H
    have c5b0 : decide (0 ≤ x6_1) = true := decide_eq_true c5
    clear c5
    obtain ⟨ji6, hji6⟩ : ∃ j_ : Int, (wrap64 (8 * x6_1)) = j_ := ⟨_, rfl⟩
    replace H : (if 0 ≤ (ji6) then (if x5_1.length < 140737488355328 then (impl_big.l0 k1 a0 (x5_1 ++ [(shr .i64 a0 (ji6)) % 256]) (wrap64 (x6_1 - 1))) else (none)) else (none)) = some r := by first | (rw [hji6] at H; exact H) | (simp only [hji6] at H ⊢; exact H)
    have hji6w : (IntKind.i64.wrap (8 * x6_1)) = ji6 := (i64_w _).trans hji6
    obtain ⟨c7, H⟩ := ifn H
    have c7b0 := eq_true c7
    have c7b1 : decide (0 ≤ (ji6)) = true := decide_eq_true c7
    clear c7
    obtain ⟨ji8, hji8⟩ : ∃ j_ : Int, (shr .i64 a0 (ji6)) = j_ := ⟨_, rfl⟩
    replace H : (if x5_1.length < 140737488355328 then (impl_big.l0 k1 a0 (x5_1 ++ [(ji8) % 256]) (wrap64 (x6_1 - 1))) else (none)) = some r := by first | (rw [hji8] at H; exact H) | (simp only [hji8] at H ⊢; exact H)
    have hji8_ : (a0 / 2 ^ min (ji6).toNat 64) = ji8 := hji8
    have hji8z : (ji6) ≤ 64 → (a0 / 2 ^ (ji6).toNat) = ji8 := shr_small hji8
    obtain ⟨c9, H⟩ := ifn H
    have LMc9 := Aside0.mk c9
    clear c9
    obtain ⟨y294, hy294⟩ : ∃ y_ : List Int, y_ = (x5_1 ++ [(ji8) % 256]) := ⟨_, rfl⟩
    replace H : (impl_big.l0 k1 a0 y294 (wrap64 (x6_1 - 1))) = some r := by first | (rw [hy294]; with_reducible exact H) | (have H2_ := (Option.bind_some _ _).symm.trans H; rw [hy294]; with_reducible exact H2_) | (have H2_ := (Option.bind_some _ _).symm.trans H; with_reducible exact H2_) | with_reducible exact H | (rw [hy294]; exact H) | exact H
    have Ny294 := Aside0.mk hy294
    clear hy294
    have H' := Aside0.mk H
    clear H
    go_wp2_with (first | ((with_reducible refine gate_builtin (b := .append) (xs := #[.tmp 14, .tmp 20]) rfl ?_); at_builtin; refine Kd.R_append (Kd.int .u8) (w0 := w) w.heap.size rfl (.tmp 14) (.tmp 20) 162 5 (.int .u8 0) 1 rfl Tryz.underlying162 info5 rfl (by decide) (by omega) u5 x5_1 ((ji8) % 256) [.int .u8 ((ji8) % 256)] (fun _ => True) (fun _ => False) rfl rfl ?aP (fun _ hk => hk.elim) ?aF ?aO ?aB ?aS ?aL ?_; (case aP => exact rfl); (case aB => exact TB); (case aF => exact (fun _ _ => trivial)); (case aO => exact (RW HO_5).out); (case aS => exact (below_size TB)); (case aL => have := LMc9.out; omega); intro v295 w10 ho hb hg hat; rw [← Ny294.out] at ho; have n0_ := Aside0.mk (hb); have n1_ := Aside0.mk (ho); clear HB; clear HO_5; have HB := n0_; have HO296 := n1_; clear n0_ n1_; clear ho hb hg hat))
    go_roundg k1
    case measure => have := HK1.out; omega
    case rel => exact ⟨(y294), (wrap64 (x6_1 - 1)), TF, H', ⟨TM⟩, RW HO296, ⟨TB⟩⟩
   ·rw [if_neg c5] at H
    have c5b0 : decide (0 ≤ x6_1) = false := decide_eq_false c5
    clear c5
    obtain rfl := Option.some.inj H
    have hcv11 := own_string (P := Tryz.prog) Tryz.underlying162 Tryz.underlying5 Tryz.underlying9 (Kd.own_of_R HO_5.out)
    go_wp2
    go_ret
    exact ⟨TE, TB⟩
end
section
/-! ### strings_Contains: function 224 -/
def strings_Contains.f (a0 : ByteArray) (a1 : ByteArray) : Option (Bool) := (strings_Index.f a0 a1).bind fun t297 => (some (decide (t297 ≥ 0)))
theorem strings_Contains.calls (a0 : ByteArray) (a1 : ByteArray) (r : Bool) (w : World) (h : strings_Contains.f a0 a1 = some r) :
  Calls Tryz.prog 224 #[.string a0, .string a1] w fun e w' => e = .returned (.bool r) ∧ Drawn0 w w' := by
 have H : ((strings_Index.f a0 a1).bind fun t297 => (some (decide (t297 ≥ 0)))) = some r := h
 clear h
 obtain ⟨t297, A3, H⟩ := bnd H
 obtain rfl := Option.some.inj H
 go_enter Tryz.func224, Tryz.ntmps224
 go_wp2_with (first | ((with_reducible refine gate_callee (f := 217) rfl ?_); refine goesL_ (some 7) rfl rfl Tryz.func217 KR rfl #[.string a0, .string a1] rfl TA ?_; (with_reducible refine (strings_Index.calls a0 a1 t297 _ A3.out).mono ?_); rintro e w' ⟨rfl, ⟨nd, rfl⟩⟩; refine ⟨_, rfl, ?_⟩))
 go_ret
 exact ⟨TF, TN⟩
end
section
/-! ### impl_isTarget: function 210 -/
def impl_isTarget.f (k : Nat) (a0 : ByteArray) : Option (Bool) := if a0.toList = ([] : List UInt8) then (some false) else ((impl_GoodName.f k a0).bind fun t298 => (if t298 = true then ((strings_Contains.f a0 (⟨#[42]⟩ : ByteArray)).bind fun t299 => (some (!t299))) else (some false)))
theorem impl_isTarget.calls (k : Nat) (a0 : ByteArray) (r : Bool) (w : World) (h : impl_isTarget.f k a0 = some r) :
  Calls Tryz.prog 210 #[.string a0] w fun e w' => e = .returned (.bool r) ∧ Below w.heap.size w w' := by
 have HB := Aside0.mk (Below.refl w.heap.size w)
 have H : (if a0.toList = ([] : List UInt8) then (some false) else ((impl_GoodName.f k a0).bind fun t298 => (if t298 = true then ((strings_Contains.f a0 (⟨#[42]⟩ : ByteArray)).bind fun t299 => (some (!t299))) else (some false)))) = some r := h
 clear h
 by_cases c2 : a0.toList = ([] : List UInt8)
 ·rw [if_pos c2] at H
  have c2b0 : (a0.toList == ([] : List UInt8)) = true := beq_iff_eq.mpr c2
  have c2b1 : (a0.toList != ([] : List UInt8)) = false := bne_eq_false_iff_eq.mpr c2
  clear c2
  obtain rfl := Option.some.inj H
  go_enter Tryz.func210, Tryz.ntmps210
  go_wp2
  go_ret
  exact ⟨by first | rfl | (simp [errW_none, errW_some] <;> rfl) | (simp [*, errW_none, errW_some] <;> rfl) | (simp [errW_none, errW_some]; rw [Bool.eq_iff_iff]; simp), TB⟩
 ·rw [if_neg c2] at H
  have c2b0 : (a0.toList == ([] : List UInt8)) = false := beq_eq_false_iff_ne.mpr c2
  have c2b1 : (a0.toList != ([] : List UInt8)) = true := bne_iff_ne.mpr c2
  obtain ⟨t298, A3, H⟩ := bnd H
  by_cases c4 : t298 = true
  ·subst c4
   replace H := ift H
   obtain ⟨t299, A5, H⟩ := bnd H
   obtain rfl := Option.some.inj H
   go_enter Tryz.func210, Tryz.ntmps210
   go_wp2_with (first | (go_at_call 77; (with_reducible refine (impl_GoodName.calls k a0 true _ A3.out).mono ?_); rintro e w6 ⟨rfl, hb⟩; replace HB := BS hb; clear hb) | (go_at_call 224; (with_reducible refine (strings_Contains.calls a0 (⟨#[42]⟩ : ByteArray) t299 _ A5.out).mono ?_); rintro e w' ⟨rfl, ⟨nd, rfl⟩⟩))
   go_ret
   exact ⟨by first | rfl | (simp [errW_none, errW_some] <;> rfl) | (simp [*, errW_none, errW_some] <;> rfl) | (simp [errW_none, errW_some]; rw [Bool.eq_iff_iff]; simp), TB⟩
  ·replace c4 := Bool.eq_false_iff.mpr c4
   subst c4
   replace H := iff' H
   obtain rfl := Option.some.inj H
   go_enter Tryz.func210, Tryz.ntmps210
   go_wp2_with (first | (go_at_call 77; (with_reducible refine (impl_GoodName.calls k a0 false _ A3.out).mono ?_); rintro e w7 ⟨rfl, hb⟩; replace HB := BS hb; clear hb))
   go_ret
   exact ⟨by first | rfl | (simp [errW_none, errW_some] <;> rfl) | (simp [*, errW_none, errW_some] <;> rfl) | (simp [errW_none, errW_some]; rw [Bool.eq_iff_iff]; simp), TB⟩
end
section
/-! ### impl_labelBytes: function 211 -/
def impl_labelBytes.l0 : Nat → ByteArray → List ByteArray → Int → Int → Option (ByteArray)
 | 0, _, _, _, _ => none
 | k + 1, x3, x7, x8, x9 => if x9 < x8 then (if 0 ≤ x9 then (if x9 < (x7.length : Int) then ((some (([(((rdOf ByteArray.empty x7 x9).size : Int)) % 256] : List Int) : List Int)).bind fun y304 => (if (strOfNums y304).size + (rdOf ByteArray.empty x7 x9).size ≤ 9223372036854775807 then (if x3.size + ((strOfNums y304) ++ (rdOf ByteArray.empty x7 x9)).size ≤ 9223372036854775807 then (impl_labelBytes.l0 k (x3 ++ ((strOfNums y304) ++ (rdOf ByteArray.empty x7 x9))) x7 x8 (wrap64 (x9 + 1))) else (none)) else (none))) else (none)) else (none)) else (some x3)
def impl_labelBytes.f (k : Nat) (a0 : ByteArray) : Option (ByteArray) := (impl_labelsOf.f k a0).bind fun t300 => (impl_labelBytes.l0 k (⟨#[]⟩ : ByteArray) t300 (t300.length : Int) 0)
theorem impl_labelBytes.calls (k : Nat) (a0 : ByteArray) (r : ByteArray) (w : World) (h : impl_labelBytes.f k a0 = some r) :
  Calls Tryz.prog 211 #[.string a0] w fun e w' => e = .returned (.string r) ∧ Below w.heap.size w w' := by
 have HB := Aside0.mk (Below.refl w.heap.size w)
 have H : ((impl_labelsOf.f k a0).bind fun t300 => (impl_labelBytes.l0 k (⟨#[]⟩ : ByteArray) t300 (t300.length : Int) 0)) = some r := h
 clear h
 obtain ⟨t300, A2, H⟩ := bnd H
 have H' := Aside0.mk H
 clear H
 go_enter Tryz.func211, Tryz.ntmps211
 go_wp2_with (first | ((with_reducible refine gate_callee (f := 128) rfl ?_); refine goesL_ (some 7) rfl rfl Tryz.func128 KR rfl #[.string a0] rfl TA ?_; (with_reducible refine (impl_labelsOf.calls k a0 t300 _ A2.out).mono ?_); rintro e w3 ⟨v301, rfl, ho0, hb⟩; refine ⟨_, rfl, ?_⟩; have HO302 := RL ho0; replace HB := BS hb; clear hb; (try clear ho0); obtain ⟨Ao4, co4, eo4⟩ := Kd.R_slice HO302.out; subst eo4))
 go_loopg [3, 9] k (fun kq v3 v9 w' => ∃ (x3_1 : ByteArray) (x9_1 : Int), v3 = .string x3_1 ∧ v9 = .int .i64 x9_1 ∧ Aside0 (impl_labelBytes.l0 kq x3_1 t300 (t300.length : Int) x9_1 = some r) ∧ Aside0 (kq ≤ k) ∧ Aside0 (Kd.R Kd.string 9 w' w.heap.size (fun _ => True) (.slice Ao4 t300.length co4) t300) ∧ Aside0 (Below w.heap.size w w'))
 case atStart => exact ⟨((⟨#[]⟩ : ByteArray)), (0), TF, TF, H', ⟨Nat.le_refl _⟩, RW HO302, ⟨TB⟩⟩
 case round =>
  clear H'
  obtain ⟨x3_1, x9_1, rfl, rfl, HA, HK1, HO_7, HB⟩ := hrel
  cases gk with
  | zero => exact absurd HA.out (by simp [impl_labelBytes.l0])
  | succ k1 =>
   have H := HA.out
   clear HA
   simp only [impl_labelBytes.l0] at H
   by_cases c5 : x9_1 < (t300.length : Int)
   ·rw [if_pos c5] at H
    have c5b0 : decide (x9_1 < (t300.length : Int)) = true := decide_eq_true c5
    clear c5
    obtain ⟨c6, H⟩ := ifn H
    have c6b0 : decide (0 ≤ x9_1) = true := decide_eq_true c6
    clear c6
    obtain ⟨c7, H⟩ := ifn H
    have c7b0 : decide (x9_1 < (t300.length : Int)) = true := decide_eq_true c7
    clear c7
    obtain ⟨y304, hy304⟩ : ∃ y_ : List Int, y_ = (([(((rdOf ByteArray.empty t300 x9_1).size : Int)) % 256] : List Int)) := ⟨_, rfl⟩
    replace H : (if (strOfNums y304).size + (rdOf ByteArray.empty t300 x9_1).size ≤ 9223372036854775807 then (if x3_1.size + ((strOfNums y304) ++ (rdOf ByteArray.empty t300 x9_1)).size ≤ 9223372036854775807 then (impl_labelBytes.l0 k1 (x3_1 ++ ((strOfNums y304) ++ (rdOf ByteArray.empty t300 x9_1))) t300 (t300.length : Int) (wrap64 (x9_1 + 1))) else (none)) else (none)) = some r := by first | (rw [hy304]; with_reducible exact H) | (have H2_ := (Option.bind_some _ _).symm.trans H; rw [hy304]; with_reducible exact H2_) | (have H2_ := (Option.bind_some _ _).symm.trans H; with_reducible exact H2_) | with_reducible exact H | (rw [hy304]; exact H) | exact H
    have Ny304 := Aside0.mk hy304
    clear hy304
    obtain ⟨c8, H⟩ := ifn H
    have c8b0 := eq_true c8
    have c8b1 : decide ((strOfNums y304).size + (rdOf ByteArray.empty t300 x9_1).size ≤ 9223372036854775807) = true := decide_eq_true c8
    try have c8b2 : (9223372036854775807 < (strOfNums y304).size + (rdOf ByteArray.empty t300 x9_1).size) = False := eq_false (Nat.not_lt.2 c8)
    obtain ⟨c9, H⟩ := ifn H
    have c9b0 := eq_true c9
    have c9b1 : decide (x3_1.size + ((strOfNums y304) ++ (rdOf ByteArray.empty t300 x9_1)).size ≤ 9223372036854775807) = true := decide_eq_true c9
    try have c9b2 : (9223372036854775807 < x3_1.size + ((strOfNums y304) ++ (rdOf ByteArray.empty t300 x9_1)).size) = False := eq_false (Nat.not_lt.2 c9)
    have H' := Aside0.mk H
    clear H
    have p303 : 0 ≤ (x9_1 : Int) := TD
    have q303 : x9_1 < (t300.length : Int) := TD
    obtain ⟨ad303, e303, hx303_0⟩ := Kd.at_string (Kd.R_reads' HO_7.out).2.2 x9_1 p303 q303
    cases e303
    replace p303 := eq_true p303
    replace q303 := eq_true q303
    go_wp2_with (first | ((with_reducible refine gate_dst (N := 17) rfl ?_); refine Kd.R_lit (Kd.int .u8) _ 5 ?hg (N := 17) ?hd (xs := ([(((rdOf ByteArray.empty t300 x9_1).size : Int)) % 256] : List Int)) (inner := [.int .u8 ((((rdOf ByteArray.empty t300 x9_1).size : Int)) % 256)]) (ok := fun _ => True) (okp := fun _ => True) ?hr ?hp (fun _ hk => hk) trivial (Below.refl _ _) (Nat.le_refl _) (by simp) ?_; (case hd => rfl); (case hg => rfl); (case hr => first | (go_simp; done) | (go_simp; rfl)); (case hp => exact (Reps.one (show Kd.M (Kd.int .u8) _ _ _ ((((rdOf ByteArray.empty t300 x9_1).size : Int)) % 256) [.int .u8 ((((rdOf ByteArray.empty t300 x9_1).size : Int)) % 256)] from rfl) (Reps.none _ _))); intro v305 w10 ho11 hb hg_ hnew_; clear hg_ hnew_; (first | rw [← Ny304.out] at ho11 | (simp only [Int.reduceToNat] at ho11; rw [← Ny304.out] at ho11)); replace HO_7 := RB HO_7 hb; have HO306 := RL ho11; replace HB := BS hb; clear hb ho11; have hcv12 := own_string (P := Tryz.prog) Tryz.underlying162 Tryz.underlying5 Tryz.underlying9 (Kd.own_of_R HO306.out)))
    go_roundg k1
    case measure => have := HK1.out; omega
    case rel => exact ⟨(x3_1 ++ ((strOfNums y304) ++ (rdOf ByteArray.empty t300 x9_1))), (wrap64 (x9_1 + 1)), TF, TF, H', ⟨TM⟩, RW HO_7, ⟨TB⟩⟩
   ·rw [if_neg c5] at H
    have c5b0 : decide (x9_1 < (t300.length : Int)) = false := decide_eq_false c5
    clear c5
    obtain rfl := Option.some.inj H
    go_wp2
    go_ret
    exact ⟨TE, TB⟩
end
section
/-! ### stringslite_Index: function 226 -/
def stringslite_Index.f (a0 : ByteArray) (a1 : ByteArray) : Option (Int) := if a1.size = 1 then some (Go.Lib.indexByte a0.data.toList (a1.data.toList.headD 0)) else none
theorem stringslite_Index.calls (a0 : ByteArray) (a1 : ByteArray) (r : Int) (w : World) (h : stringslite_Index.f a0 a1 = some r) :
  Calls Tryz.prog 226 #[.string a0, .string a1] w fun e w' => e = .returned (.int .i64 r) ∧ Drawn0 w w' := by
 unfold stringslite_Index.f at h
 by_cases h1 : a1.size = 1
 ·rw [if_pos h1] at h
  obtain rfl := Option.some.inj h
  obtain ⟨⟨l⟩⟩ := a1
  match l, h1 with
  | [c], _ => exact (Go.Proofs.Any.stringslite_Index_one Go.Proofs.Tryz.lays219 a0 c w).mono fun e w' hh => ⟨hh.1, hh.2 ▸ Drawn0.refl _⟩
 ·rw [if_neg h1] at h
  cases h
end
section
/-! ### stringslite_Cut: function 207 -/
def stringslite_Cut.f (a0 : ByteArray) (a1 : ByteArray) : Option (ByteArray × ByteArray × Bool) := (stringslite_Index.f a0 a1).bind fun t307 => (if t307 ≥ 0 then (if 0 ≤ t307 then (if t307 ≤ (a0.size : Int) then (if 0 ≤ (wrap64 (t307 + (a1.size : Int))) then (if (wrap64 (t307 + (a1.size : Int))) ≤ (a0.size : Int) then (some (a0.extract 0 (t307 : Int).toNat, a0.extract ((wrap64 (t307 + (a1.size : Int))) : Int).toNat a0.size, true)) else (none)) else (none)) else (none)) else (none)) else (some (a0, (⟨#[]⟩ : ByteArray), false)))
theorem stringslite_Cut.calls (a0 : ByteArray) (a1 : ByteArray) (r1 : ByteArray) (r2 : ByteArray) (r3 : Bool) (w : World) (h : stringslite_Cut.f a0 a1 = some (r1, r2, r3)) :
  Calls Tryz.prog 207 #[.string a0, .string a1] w fun e w' => e = .returned (.tuple #[.string r1, .string r2, .bool r3]) ∧ Drawn0 w w' := by
 have H : ((stringslite_Index.f a0 a1).bind fun t307 => (if t307 ≥ 0 then (if 0 ≤ t307 then (if t307 ≤ (a0.size : Int) then (if 0 ≤ (wrap64 (t307 + (a1.size : Int))) then (if (wrap64 (t307 + (a1.size : Int))) ≤ (a0.size : Int) then (some (a0.extract 0 (t307 : Int).toNat, a0.extract ((wrap64 (t307 + (a1.size : Int))) : Int).toNat a0.size, true)) else (none)) else (none)) else (none)) else (none)) else (some (a0, (⟨#[]⟩ : ByteArray), false)))) = some (r1, r2, r3) := h
 clear h
 obtain ⟨t307, A3, H⟩ := bnd H
 by_cases c4 : t307 ≥ 0
 ·rw [if_pos c4] at H
  have c4b0 : decide (0 ≤ t307) = true := decide_eq_true c4
  clear c4
  obtain ⟨c5, H⟩ := ifn H
  have c5b0 := eq_true c5
  have c5b1 : decide (0 ≤ t307) = true := decide_eq_true c5
  clear c5
  obtain ⟨c6, H⟩ := ifn H
  have c6b0 := eq_true c6
  have c6b1 : decide (t307 ≤ (a0.size : Int)) = true := decide_eq_true c6
  clear c6
  obtain ⟨ji7, hji7⟩ : ∃ j_ : Int, (wrap64 (t307 + (a1.size : Int))) = j_ := ⟨_, rfl⟩
  replace H : (if 0 ≤ (ji7) then (if (ji7) ≤ (a0.size : Int) then (some (a0.extract 0 (t307 : Int).toNat, a0.extract ((ji7) : Int).toNat a0.size, true)) else (none)) else (none)) = some (r1, r2, r3) := by first | (rw [hji7] at H; exact H) | (simp only [hji7] at H ⊢; exact H)
  (try rw [hji7] at A3)
  have hji7w : (IntKind.i64.wrap (t307 + (a1.size : Int))) = ji7 := (i64_w _).trans hji7
  obtain ⟨c8, H⟩ := ifn H
  have c8b0 := eq_true c8
  have c8b1 : decide (0 ≤ (ji7)) = true := decide_eq_true c8
  clear c8
  obtain ⟨c9, H⟩ := ifn H
  have c9b0 := eq_true c9
  have c9b1 : decide ((ji7) ≤ (a0.size : Int)) = true := decide_eq_true c9
  clear c9
  simp only [Option.some.injEq, Prod.mk.injEq] at H
  obtain ⟨rfl, rfl, rfl⟩ := H
  go_enter Tryz.func207, Tryz.ntmps207
  go_wp2_with (first | (go_at_call 226; (with_reducible refine (stringslite_Index.calls a0 a1 t307 _ A3.out).mono ?_); rintro e w' ⟨rfl, ⟨nd, rfl⟩⟩; (try first | exact ⟨rfl, _, World.drewN_drewN _ _ _⟩ | exact ⟨rfl, _, Eq.trans (World.drewN_drewN _ _ _) (congrArg (World.drewN _) (Nat.add_assoc _ _ _))⟩)))
  repeat (go_quiet (first | (go_at_call 226; (with_reducible refine (stringslite_Index.calls a0 a1 t307 _ A3.out).mono ?_); rintro e w' ⟨rfl, ⟨nd, rfl⟩⟩; (try first | exact ⟨rfl, _, World.drewN_drewN _ _ _⟩ | exact ⟨rfl, _, Eq.trans (World.drewN_drewN _ _ _) (congrArg (World.drewN _) (Nat.add_assoc _ _ _))⟩))); try go_wp2_with (first | (go_at_call 226; (with_reducible refine (stringslite_Index.calls a0 a1 t307 _ A3.out).mono ?_); rintro e w' ⟨rfl, ⟨nd, rfl⟩⟩; (try first | exact ⟨rfl, _, World.drewN_drewN _ _ _⟩ | exact ⟨rfl, _, Eq.trans (World.drewN_drewN _ _ _) (congrArg (World.drewN _) (Nat.add_assoc _ _ _))⟩))))
  go_ret3
  exact ⟨by first | rfl | (simp; done) | (simp only [← hji7] <;> (first | rfl | simp)) | (simp [*]; done), TN⟩
 ·rw [if_neg c4] at H
  have c4b0 : decide (0 ≤ t307) = false := decide_eq_false c4
  clear c4
  simp only [Option.some.injEq, Prod.mk.injEq] at H
  obtain ⟨rfl, rfl, rfl⟩ := H
  go_enter Tryz.func207, Tryz.ntmps207
  go_wp2_with (first | (go_at_call 226; (with_reducible refine (stringslite_Index.calls a0 a1 t307 _ A3.out).mono ?_); rintro e w' ⟨rfl, ⟨nd, rfl⟩⟩; (try first | exact ⟨rfl, _, World.drewN_drewN _ _ _⟩ | exact ⟨rfl, _, Eq.trans (World.drewN_drewN _ _ _) (congrArg (World.drewN _) (Nat.add_assoc _ _ _))⟩)))
  repeat (go_quiet (first | (go_at_call 226; (with_reducible refine (stringslite_Index.calls a0 a1 t307 _ A3.out).mono ?_); rintro e w' ⟨rfl, ⟨nd, rfl⟩⟩; (try first | exact ⟨rfl, _, World.drewN_drewN _ _ _⟩ | exact ⟨rfl, _, Eq.trans (World.drewN_drewN _ _ _) (congrArg (World.drewN _) (Nat.add_assoc _ _ _))⟩))); try go_wp2_with (first | (go_at_call 226; (with_reducible refine (stringslite_Index.calls a0 a1 t307 _ A3.out).mono ?_); rintro e w' ⟨rfl, ⟨nd, rfl⟩⟩; (try first | exact ⟨rfl, _, World.drewN_drewN _ _ _⟩ | exact ⟨rfl, _, Eq.trans (World.drewN_drewN _ _ _) (congrArg (World.drewN _) (Nat.add_assoc _ _ _))⟩))))
  go_ret3
  exact ⟨TF, TN⟩
end
section
/-! ### strings_Cut: function 182 -/
def strings_Cut.f (a0 : ByteArray) (a1 : ByteArray) : Option (ByteArray × ByteArray × Bool) := (stringslite_Cut.f a0 a1).bind fun bt308 => (some (bt308.1, bt308.2.1, bt308.2.2))
theorem strings_Cut.calls (a0 : ByteArray) (a1 : ByteArray) (r1 : ByteArray) (r2 : ByteArray) (r3 : Bool) (w : World) (h : strings_Cut.f a0 a1 = some (r1, r2, r3)) :
  Calls Tryz.prog 182 #[.string a0, .string a1] w fun e w' => e = .returned (.tuple #[.string r1, .string r2, .bool r3]) ∧ Drawn0 w w' := by
 have H : ((stringslite_Cut.f a0 a1).bind fun bt308 => (some (bt308.1, bt308.2.1, bt308.2.2))) = some (r1, r2, r3) := h
 clear h
 obtain ⟨⟨t308, t309, t310⟩, A3, H⟩ := bnd H
 try dsimp only at H
 simp only [Option.some.injEq, Prod.mk.injEq] at H
 obtain ⟨rfl, rfl, rfl⟩ := H
 go_enter Tryz.func182, Tryz.ntmps182
 go_wp2_with (first | ((with_reducible refine gate_callee (f := 207) rfl ?_); refine goesL_ (some 9) rfl rfl Tryz.func207 KR rfl #[.string a0, .string a1] rfl TA ?_; (with_reducible refine (stringslite_Cut.calls a0 a1 t308 t309 t310 _ A3.out).mono ?_); rintro e w' ⟨rfl, ⟨nd, rfl⟩⟩; refine ⟨_, rfl, ?_⟩))
 go_ret3
 exact ⟨TF, TN⟩
end
section
/-! ### impl_DataBytes_1: function 213 -/
def impl_DataBytes_1.f (a0 : Int) : Option (Bool) := if a0 < 32 then (some true) else (some (decide (a0 > 126)))
theorem impl_DataBytes_1.calls (a0 : Int) (r : Bool) (w : World) (h : impl_DataBytes_1.f a0 = some r) :
  Calls Tryz.prog 213 #[.int .u8 a0] w fun e w' => e = .returned (.bool r) ∧ Drawn0 w w' := by
 have H : (if a0 < 32 then (some true) else (some (decide (a0 > 126)))) = some r := h
 clear h
 by_cases c2 : a0 < 32
 ·rw [if_pos c2] at H
  have c2b0 : decide (a0 < 32) = true := decide_eq_true c2
  clear c2
  obtain rfl := Option.some.inj H
  go_enter Tryz.func213, Tryz.ntmps213
  go_wp2
  go_ret
  exact ⟨TF, TN⟩
 ·rw [if_neg c2] at H
  have c2b0 : decide (a0 < 32) = false := decide_eq_false c2
  clear c2
  obtain rfl := Option.some.inj H
  go_enter Tryz.func213, Tryz.ntmps213
  go_wp2
  go_ret
  exact ⟨TF, TN⟩
end
section
/-! ### slices_IndexFunc_byte_byte_DataBytes_1: function 228 -/
def slices_IndexFunc_byte_byte_DataBytes_1.l0 : Nat → List Int → Int → Int → Option (Int)
 | 0, _, _, _ => none
 | k + 1, x0, x7, x8 => if x8 < x7 then (if 0 ≤ x8 then (if x8 < (x0.length : Int) then ((impl_DataBytes_1.f (rd x0 x8)).bind fun t312 => (if t312 = true then (some x8) else (slices_IndexFunc_byte_byte_DataBytes_1.l0 k x0 x7 (wrap64 (x8 + 1))))) else (none)) else (none)) else (some (-1))
def slices_IndexFunc_byte_byte_DataBytes_1.f (k : Nat) (l0 : List Int)  : Option (Int) := slices_IndexFunc_byte_byte_DataBytes_1.l0 k l0 (l0.length : Int) 0
theorem slices_IndexFunc_byte_byte_DataBytes_1.calls (k : Nat) (A0 : Option Addr) (c0 : Nat) (l0 : List Int)  (r : Int) (w : World) (hr0 : Kd.C (Kd.int .u8) w A0 l0.length l0) (hc0 : l0.length ≤ c0) (h : slices_IndexFunc_byte_byte_DataBytes_1.f k l0 = some r) :
  Calls Tryz.prog 228 #[.slice A0 l0.length c0, .func (.func 213) #[] #[]] w fun e w' => e = .returned (.int .i64 r) ∧ Drawn0 w w' := by
 have HR0 := Aside0.mk hr0
 have HC0 := Aside0.mk hc0
 clear hr0 hc0
 have H : (slices_IndexFunc_byte_byte_DataBytes_1.l0 k l0 (l0.length : Int) 0) = some r := h
 clear h
 have H' := Aside0.mk H
 clear H
 go_enter Tryz.func228, Tryz.ntmps228
 go_wp2
 go_loopg [8] k (fun kq v8 w' => ∃ (x8_1 : Int), v8 = .int .i64 x8_1 ∧ Aside0 (slices_IndexFunc_byte_byte_DataBytes_1.l0 kq l0 (l0.length : Int) x8_1 = some r) ∧ Aside0 (kq ≤ k) ∧ Drawn0 w w')
 case atStart => exact ⟨(0), TF, H', ⟨Nat.le_refl _⟩, TN⟩
 case round =>
  clear H'
  obtain ⟨x8_1, rfl, HA, HK1, ⟨m1, rfl⟩⟩ := hrel
  cases gk with
  | zero => exact absurd HA.out (by simp [slices_IndexFunc_byte_byte_DataBytes_1.l0])
  | succ k1 =>
   have H := HA.out
   clear HA
   simp only [slices_IndexFunc_byte_byte_DataBytes_1.l0] at H
   by_cases c3 : x8_1 < (l0.length : Int)
   ·rw [if_pos c3] at H
    have c3b0 : decide (x8_1 < (l0.length : Int)) = true := decide_eq_true c3
    clear c3
    obtain ⟨c4, H⟩ := ifn H
    have c4b0 : decide (0 ≤ x8_1) = true := decide_eq_true c4
    clear c4
    obtain ⟨c5, H⟩ := ifn H
    have c5b0 : decide (x8_1 < (l0.length : Int)) = true := decide_eq_true c5
    clear c5
    obtain ⟨t312, A6, H⟩ := bnd H
    by_cases c7 : t312 = true
    ·subst c7
     replace H := ift H
     obtain rfl := Option.some.inj H
     have p311 : 0 ≤ (x8_1 : Int) := TD
     have q311 : x8_1 < (l0.length : Int) := TD
     obtain ⟨ad311, e311, hx311_0⟩ := Kd.at_int HR0.out x8_1 p311 q311
     cases e311
     replace p311 := eq_true p311
     replace q311 := eq_true q311
     go_wp2_with (first | (go_at_call 213; (with_reducible refine (impl_DataBytes_1.calls (rd l0 x8_1) true _ A6.out).mono ?_); rintro e w' ⟨rfl, ⟨nd, rfl⟩⟩))
     go_ret
     exact ⟨TF, TN⟩
    ·replace c7 := Bool.eq_false_iff.mpr c7
     subst c7
     replace H := iff' H
     have H' := Aside0.mk H
     clear H
     have p311 : 0 ≤ (x8_1 : Int) := TD
     have q311 : x8_1 < (l0.length : Int) := TD
     obtain ⟨ad311, e311, hx311_0⟩ := Kd.at_int HR0.out x8_1 p311 q311
     cases e311
     replace p311 := eq_true p311
     replace q311 := eq_true q311
     go_wp2_with (first | (go_at_call 213; (with_reducible refine (impl_DataBytes_1.calls (rd l0 x8_1) false _ A6.out).mono ?_); rintro e w' ⟨rfl, ⟨nd, rfl⟩⟩))
     go_roundg k1
     case measure => have := HK1.out; omega
     case rel => exact ⟨(wrap64 (x8_1 + 1)), TF, H', ⟨TM⟩, TN⟩
   ·rw [if_neg c3] at H
    have c3b0 : decide (x8_1 < (l0.length : Int)) = false := decide_eq_false c3
    clear c3
    obtain rfl := Option.some.inj H
    go_wp2
    go_ret
    exact ⟨TF, TN⟩
end
section
/-! ### slices_ContainsFunc_byte_byte_DataBytes_1: function 212 -/
def slices_ContainsFunc_byte_byte_DataBytes_1.f (k : Nat) (l0 : List Int)  : Option (Bool) := (slices_IndexFunc_byte_byte_DataBytes_1.f k l0).bind fun t313 => (some (decide (t313 ≥ 0)))
theorem slices_ContainsFunc_byte_byte_DataBytes_1.calls (k : Nat) (A0 : Option Addr) (c0 : Nat) (l0 : List Int)  (r : Bool) (w : World) (hr0 : Kd.C (Kd.int .u8) w A0 l0.length l0) (hc0 : l0.length ≤ c0) (h : slices_ContainsFunc_byte_byte_DataBytes_1.f k l0 = some r) :
  Calls Tryz.prog 212 #[.slice A0 l0.length c0, .func (.func 213) #[] #[]] w fun e w' => e = .returned (.bool r) ∧ Drawn0 w w' := by
 have HR0 := Aside0.mk hr0
 have HC0 := Aside0.mk hc0
 clear hr0 hc0
 have H : ((slices_IndexFunc_byte_byte_DataBytes_1.f k l0).bind fun t313 => (some (decide (t313 ≥ 0)))) = some r := h
 clear h
 obtain ⟨t313, A3, H⟩ := bnd H
 obtain rfl := Option.some.inj H
 go_enter Tryz.func212, Tryz.ntmps212
 go_wp2_with (first | ((with_reducible refine gate_callee (f := 228) rfl ?_); refine goesL_ (some 7) rfl rfl Tryz.func228 KR rfl #[.slice A0 l0.length c0, .func (.func 213) #[] #[]] rfl TA ?_; (with_reducible refine (slices_IndexFunc_byte_byte_DataBytes_1.calls k _ _ l0  t313 _ ?side1 ?side2 A3.out).mono ?_); (case side1 => exact CW (HR0.out)); (case side2 => exact HC0.out); rintro e w' ⟨rfl, ⟨nd, rfl⟩⟩; refine ⟨_, rfl, ?_⟩))
 go_ret
 exact ⟨TF, TN⟩
end
section
/-! ### impl_DataBytes: function 187 -/
mutual
def impl_DataBytes.l0 : Nat → ByteArray → List ByteArray → List ByteArray → Int → Int → Option (ByteArray × Bool)
 | 0, _, _, _, _, _ => none
 | k + 1, x6, x7, x24, x25, x26 => if x26 < x25 then (if 0 ≤ x26 then (if x26 < (x24.length : Int) then ((impl_numberIn.f (rdOf ByteArray.empty x24 x26) 255).bind fun bt318 => (if bt318.2 = true then (if (x7.length : Int) = 4 then ((impl_big.f k bt318.1 1).bind fun t320 => (if x6.size + t320.size ≤ 9223372036854775807 then (impl_DataBytes.l0 k (x6 ++ t320) x7 x24 x25 (wrap64 (x26 + 1))) else (none))) else (some ((⟨#[]⟩ : ByteArray), false))) else (some ((⟨#[]⟩ : ByteArray), false)))) else (none)) else (none)) else (some (x6, true))
def impl_DataBytes.j1 : Nat → ByteArray → Int → Bool → Option (ByteArray × Bool)
 | 0, _, _, _ => none
 | k + 1, x1, x19, x48 => if x48 = true then ((impl_isTarget.f k x1).bind fun t321 => (if t321 = true then ((impl_labelBytes.f k x1).bind fun t322 => (if t322.size + 1 ≤ 9223372036854775807 then (some (t322 ++ (⟨#[0]⟩ : ByteArray), true)) else (none))) else (some ((⟨#[]⟩ : ByteArray), false)))) else (if x19 = 6 then ((impl_numberIn.f x1 4294967295).bind fun bt323 => (if bt323.2 = true then ((impl_big.f k bt323.1 4).bind fun t325 => (some (t325, true))) else (some ((⟨#[]⟩ : ByteArray), false)))) else (if x19 = 15 then ((strings_Cut.f x1 (⟨#[32]⟩ : ByteArray)).bind fun bt326 => ((impl_numberIn.f bt326.1 65535).bind fun bt329 => (if bt329.2 = true then ((impl_isTarget.f k bt326.2.1).bind fun t331 => (impl_DataBytes.j2 k bt326.2.1 bt329.1 (!t331))) else (impl_DataBytes.j2 k bt326.2.1 bt329.1 true)))) else (if x19 = 16 then (if (x1.size : Int) > 30 then (some ((⟨#[]⟩ : ByteArray), false)) else (if x1.size ≤ 9223372036854775807 then ((slices_ContainsFunc_byte_byte_DataBytes_1.f k (bytesOf x1)).bind fun t337 => (if t337 = true then (some ((⟨#[]⟩ : ByteArray), false)) else ((impl_big.f k (x1.size : Int) 1).bind fun t338 => (if t338.size + x1.size ≤ 9223372036854775807 then (some (t338 ++ x1, true)) else (none))))) else (none))) else (some ((⟨#[]⟩ : ByteArray), false)))))
def impl_DataBytes.j2 : Nat → ByteArray → Int → Bool → Option (ByteArray × Bool)
 | 0, _, _, _ => none
 | k + 1, x15, x17, x87 => if x87 = true then (some ((⟨#[]⟩ : ByteArray), false)) else ((impl_big.f k x17 2).bind fun t332 => ((impl_labelBytes.f k x15).bind fun t333 => (if t332.size + t333.size ≤ 9223372036854775807 then (if (t332 ++ t333).size + 1 ≤ 9223372036854775807 then (some ((t332 ++ t333) ++ (⟨#[0]⟩ : ByteArray), true)) else (none)) else (none))))
end
def impl_DataBytes.f (k : Nat) (a0 : Int) (a1 : ByteArray) : Option (ByteArray × Bool) := if a0 = 1 then ((strings_Split.f k a1 (⟨#[46]⟩ : ByteArray)).bind fun t314 => (impl_DataBytes.l0 k (⟨#[]⟩ : ByteArray) t314 t314 (t314.length : Int) 0)) else (if a0 = 2 then (impl_DataBytes.j1 k a1 a0 (a0 == 2)) else (impl_DataBytes.j1 k a1 a0 (a0 == 5)))
theorem impl_DataBytes.calls (k : Nat) (a0 : Int) (a1 : ByteArray) (r1 : ByteArray) (r2 : Bool) (w : World) (hG_ : Glob w) (h : impl_DataBytes.f k a0 a1 = some (r1, r2)) :
  Calls Tryz.prog 187 #[.int .i64 a0, .string a1] w fun e w' => e = .returned (.tuple #[.string r1, .bool r2]) ∧ Below w.heap.size w w' := by
 have HGL := Aside0.mk hG_
 clear hG_
 have HB := Aside0.mk (Below.refl w.heap.size w)
 have H : (if a0 = 1 then ((strings_Split.f k a1 (⟨#[46]⟩ : ByteArray)).bind fun t314 => (impl_DataBytes.l0 k (⟨#[]⟩ : ByteArray) t314 t314 (t314.length : Int) 0)) else (if a0 = 2 then (impl_DataBytes.j1 k a1 a0 (a0 == 2)) else (impl_DataBytes.j1 k a1 a0 (a0 == 5)))) = some (r1, r2) := h
 clear h
 by_cases c3 : a0 = 1
 ·rw [if_pos c3] at H
  have c3b0 : (a0 == 1) = true := beq_iff_eq.mpr c3
  have c3b1 : (a0 != 1) = false := bne_eq_false_iff_eq.mpr c3
  clear c3
  obtain ⟨t314, A4, H⟩ := bnd H
  have H' := Aside0.mk H
  clear H
  go_enter Tryz.func187, Tryz.ntmps187
  go_wp2_with (first | ((with_reducible refine gate_callee (f := 166) rfl ?_); refine goesL_ (some 23) rfl rfl Tryz.func166 KR rfl #[.string a1, .string (⟨#[46]⟩ : ByteArray)] rfl TA ?_; (with_reducible refine (strings_Split.calls k a1 (⟨#[46]⟩ : ByteArray) t314 _ A4.out).mono ?_); rintro e w5 ⟨v315, rfl, ho0, hb⟩; refine ⟨_, rfl, ?_⟩; have HO316 := RL ho0; replace HB := BS hb; clear hb; (try clear ho0); obtain ⟨Ao6, co6, eo6⟩ := Kd.R_slice HO316.out; subst eo6))
  go_loopg [6, 26] k (fun kq v6 v26 w' => ∃ (x6_1 : ByteArray) (x26_1 : Int), v6 = .string x6_1 ∧ v26 = .int .i64 x26_1 ∧ Aside0 (impl_DataBytes.l0 kq x6_1 t314 t314 (t314.length : Int) x26_1 = some (r1, r2)) ∧ Aside0 (kq ≤ k) ∧ Aside0 (Kd.R Kd.string 9 w' w.heap.size (fun _ => True) (.slice Ao6 t314.length co6) t314) ∧ Aside0 (Kd.R Kd.string 9 w' w.heap.size (fun _ => True) (.slice Ao6 t314.length co6) t314) ∧ Aside0 (Below w.heap.size w w'))
  case atStart => exact ⟨((⟨#[]⟩ : ByteArray)), (0), TF, TF, H', ⟨Nat.le_refl _⟩, RW HO316, RW HO316, ⟨TB⟩⟩
  case round =>
   clear H'
   obtain ⟨x6_1, x26_1, rfl, rfl, HA, HK1, HO_7, HO_24, HB⟩ := hrel
   cases gk with
   | zero => exact absurd HA.out (by simp [impl_DataBytes.l0])
   | succ k1 =>
    have H := HA.out
    clear HA
    simp only [impl_DataBytes.l0] at H
    by_cases c7 : x26_1 < (t314.length : Int)
    ·rw [if_pos c7] at H
     have c7b0 : decide (x26_1 < (t314.length : Int)) = true := decide_eq_true c7
     clear c7
     obtain ⟨c8, H⟩ := ifn H
     have c8b0 : decide (0 ≤ x26_1) = true := decide_eq_true c8
     clear c8
     obtain ⟨c9, H⟩ := ifn H
     have c9b0 : decide (x26_1 < (t314.length : Int)) = true := decide_eq_true c9
     clear c9
     obtain ⟨⟨t318, t319⟩, A10, H⟩ := bnd H
     try dsimp only at H
     by_cases c11 : t319 = true
     ·subst c11
      replace H := ift H
      by_cases c12 : (t314.length : Int) = 4
      ·rw [if_pos c12] at H
       have c12b0 : ((t314.length : Int) == 4) = true := beq_iff_eq.mpr c12
       have c12b1 : ((t314.length : Int) != 4) = false := bne_eq_false_iff_eq.mpr c12
       clear c12
       obtain ⟨t320, A13, H⟩ := bnd H
       obtain ⟨c14, H⟩ := ifn H
       have c14b0 := eq_true c14
       have c14b1 : decide (x6_1.size + t320.size ≤ 9223372036854775807) = true := decide_eq_true c14
       try have c14b2 : (9223372036854775807 < x6_1.size + t320.size) = False := eq_false (Nat.not_lt.2 c14)
       have H' := Aside0.mk H
       clear H
       have p317 : 0 ≤ (x26_1 : Int) := TD
       have q317 : x26_1 < (t314.length : Int) := TD
       obtain ⟨ad317, e317, hx317_0⟩ := Kd.at_string (Kd.R_reads' HO_24.out).2.2 x26_1 p317 q317
       cases e317
       replace p317 := eq_true p317
       replace q317 := eq_true q317
       go_wp2_with (first | ((with_reducible refine gate_callee (f := 208) rfl ?_); refine goesL_ (some 32) rfl rfl Tryz.func208 KR rfl #[.string (rdOf ByteArray.empty t314 x26_1), .int .i64 255] rfl TA ?_; (with_reducible refine (impl_numberIn.calls (rdOf ByteArray.empty t314 x26_1) 255 t318 true _ ?side1 A10.out).mono ?_); (case side1 => exact GW HGL); rintro e w15 ⟨rfl, hb⟩; refine ⟨_, rfl, ?_⟩; replace HO_7 := RB HO_7 hb; replace HO_24 := RB HO_24 hb; replace HB := BS hb; clear hb) | ((with_reducible refine gate_callee (f := 209) rfl ?_); refine goesL_ (some 44) rfl rfl Tryz.func209 KR rfl #[.int .i64 t318, .int .i64 1] rfl TA ?_; (with_reducible refine (impl_big.calls k1 t318 1 t320 _ A13.out).mono ?_); rintro e w16 ⟨rfl, hb⟩; refine ⟨_, rfl, ?_⟩; replace HO_7 := RB HO_7 hb; replace HO_24 := RB HO_24 hb; replace HB := BS hb; clear hb))
       go_roundg k1
       case measure => have := HK1.out; omega
       case rel => exact ⟨(x6_1 ++ t320), (wrap64 (x26_1 + 1)), TF, TF, H', ⟨TM⟩, RW HO_7, RW HO_24, ⟨TB⟩⟩
      ·rw [if_neg c12] at H
       have c12b0 : ((t314.length : Int) == 4) = false := beq_eq_false_iff_ne.mpr c12
       have c12b1 : ((t314.length : Int) != 4) = true := bne_iff_ne.mpr c12
       simp only [Option.some.injEq, Prod.mk.injEq] at H
       obtain ⟨rfl, rfl⟩ := H
       have p317 : 0 ≤ (x26_1 : Int) := TD
       have q317 : x26_1 < (t314.length : Int) := TD
       obtain ⟨ad317, e317, hx317_0⟩ := Kd.at_string (Kd.R_reads' HO_24.out).2.2 x26_1 p317 q317
       cases e317
       replace p317 := eq_true p317
       replace q317 := eq_true q317
       go_wp2_with (first | ((with_reducible refine gate_callee (f := 208) rfl ?_); refine goesL_ (some 32) rfl rfl Tryz.func208 KR rfl #[.string (rdOf ByteArray.empty t314 x26_1), .int .i64 255] rfl TA ?_; (with_reducible refine (impl_numberIn.calls (rdOf ByteArray.empty t314 x26_1) 255 t318 true _ ?side1 A10.out).mono ?_); (case side1 => exact GW HGL); rintro e w17 ⟨rfl, hb⟩; refine ⟨_, rfl, ?_⟩; replace HO_7 := RB HO_7 hb; replace HO_24 := RB HO_24 hb; replace HB := BS hb; clear hb))
       go_ret2
       exact ⟨TE, TB⟩
     ·replace c11 := Bool.eq_false_iff.mpr c11
      subst c11
      replace H := iff' H
      simp only [Option.some.injEq, Prod.mk.injEq] at H
      obtain ⟨rfl, rfl⟩ := H
      have p317 : 0 ≤ (x26_1 : Int) := TD
      have q317 : x26_1 < (t314.length : Int) := TD
      obtain ⟨ad317, e317, hx317_0⟩ := Kd.at_string (Kd.R_reads' HO_24.out).2.2 x26_1 p317 q317
      cases e317
      replace p317 := eq_true p317
      replace q317 := eq_true q317
      go_wp2_with (first | ((with_reducible refine gate_callee (f := 208) rfl ?_); refine goesL_ (some 32) rfl rfl Tryz.func208 KR rfl #[.string (rdOf ByteArray.empty t314 x26_1), .int .i64 255] rfl TA ?_; (with_reducible refine (impl_numberIn.calls (rdOf ByteArray.empty t314 x26_1) 255 t318 false _ ?side1 A10.out).mono ?_); (case side1 => exact GW HGL); rintro e w18 ⟨rfl, hb⟩; refine ⟨_, rfl, ?_⟩; replace HO_7 := RB HO_7 hb; replace HO_24 := RB HO_24 hb; replace HB := BS hb; clear hb))
      go_ret2
      exact ⟨TE, TB⟩
    ·rw [if_neg c7] at H
     have c7b0 : decide (x26_1 < (t314.length : Int)) = false := decide_eq_false c7
     clear c7
     simp only [Option.some.injEq, Prod.mk.injEq] at H
     obtain ⟨rfl, rfl⟩ := H
     go_wp2
     go_ret2
     exact ⟨TE, TB⟩
 ·rw [if_neg c3] at H
  have c3b0 : (a0 == 1) = false := beq_eq_false_iff_ne.mpr c3
  have c3b1 : (a0 != 1) = true := bne_iff_ne.mpr c3
  have HC19 := Aside0.mk H
  clear H
  go_enter Tryz.func187, Tryz.ntmps187
  go_upto_if 48 with (fail)
  go_cut [48] (fun v48 wc => ∃ (kq : Nat) (x48_18 : Bool), v48 = .bool x48_18 ∧ Aside0 (impl_DataBytes.j1 kq a1 a0 x48_18 = some (r1, r2)) ∧ Aside0 (kq ≤ k) ∧ Aside0 (Below w.heap.size w wc))
  case first =>
   have H := HC19.out
   clear HC19
   by_cases c20 : a0 = 2
   ·rw [if_pos c20] at H
    have c20b0 : (a0 == 2) = true := beq_iff_eq.mpr c20
    have c20b1 : (a0 != 2) = false := bne_eq_false_iff_eq.mpr c20
    clear c20
    (first | rw [c20b0] | (simp only [i64_w, i32_w]; rw [c20b0]) | rw [c20b1] | skip)
    have H' := Aside0.mk H
    clear H
    go_wp2
    go_meet
    case rel => exact ⟨_, ((a0 == 2)), TF, H', ⟨by first | omega | exact Nat.le_refl _⟩, ⟨TB⟩⟩
   ·rw [if_neg c20] at H
    have c20b0 : (a0 == 2) = false := beq_eq_false_iff_ne.mpr c20
    have c20b1 : (a0 != 2) = true := bne_iff_ne.mpr c20
    (first | rw [c20b0] | (simp only [i64_w, i32_w]; rw [c20b0]) | rw [c20b1] | skip)
    have H' := Aside0.mk H
    clear H
    go_wp2
    go_meet
    case rel => exact ⟨_, ((a0 == 5)), TF, H', ⟨by first | omega | exact Nat.le_refl _⟩, ⟨TB⟩⟩
  case rest =>
   clear HC19
   obtain ⟨kq, x48_18, rfl, HA, HJ18, HB⟩ := hcut
   cases kq with
   | zero => exact absurd HA.out (by simp [impl_DataBytes.j1])
   | succ kj18 =>
    have H := HA.out
    clear HA
    simp only [impl_DataBytes.j1] at H
    by_cases c21 : x48_18 = true
    ·subst c21
     replace H := ift H
     obtain ⟨t321, A22, H⟩ := bnd H
     by_cases c23 : t321 = true
     ·subst c23
      replace H := ift H
      obtain ⟨t322, A24, H⟩ := bnd H
      obtain ⟨c25, H⟩ := ifn H
      have c25b0 := eq_true c25
      have c25b1 : decide (t322.size + 1 ≤ 9223372036854775807) = true := decide_eq_true c25
      try have c25b2 : (9223372036854775807 < t322.size + 1) = False := eq_false (Nat.not_lt.2 c25)
      simp only [Option.some.injEq, Prod.mk.injEq] at H
      obtain ⟨rfl, rfl⟩ := H
      go_wp2_with (first | ((with_reducible refine gate_callee (f := 210) rfl ?_); refine goesL_ (some 52) rfl rfl Tryz.func210 KR rfl #[.string a1] rfl TA ?_; (with_reducible refine (impl_isTarget.calls kj18 a1 true _ A22.out).mono ?_); rintro e w26 ⟨rfl, hb⟩; refine ⟨_, rfl, ?_⟩; replace HB := BS hb; clear hb) | ((with_reducible refine gate_callee (f := 211) rfl ?_); refine goesL_ (some 55) rfl rfl Tryz.func211 KR rfl #[.string a1] rfl TA ?_; (with_reducible refine (impl_labelBytes.calls kj18 a1 t322 _ A24.out).mono ?_); rintro e w27 ⟨rfl, hb⟩; refine ⟨_, rfl, ?_⟩; replace HB := BS hb; clear hb))
      go_ret2
      exact ⟨TE, TB⟩
     ·replace c23 := Bool.eq_false_iff.mpr c23
      subst c23
      replace H := iff' H
      simp only [Option.some.injEq, Prod.mk.injEq] at H
      obtain ⟨rfl, rfl⟩ := H
      go_wp2_with (first | ((with_reducible refine gate_callee (f := 210) rfl ?_); refine goesL_ (some 52) rfl rfl Tryz.func210 KR rfl #[.string a1] rfl TA ?_; (with_reducible refine (impl_isTarget.calls kj18 a1 false _ A22.out).mono ?_); rintro e w28 ⟨rfl, hb⟩; refine ⟨_, rfl, ?_⟩; replace HB := BS hb; clear hb))
      go_ret2
      exact ⟨TE, TB⟩
    ·replace c21 := Bool.eq_false_iff.mpr c21
     subst c21
     replace H := iff' H
     by_cases c29 : a0 = 6
     ·rw [if_pos c29] at H
      have c29b0 : (a0 == 6) = true := beq_iff_eq.mpr c29
      have c29b1 : (a0 != 6) = false := bne_eq_false_iff_eq.mpr c29
      clear c29
      obtain ⟨⟨t323, t324⟩, A30, H⟩ := bnd H
      try dsimp only at H
      by_cases c31 : t324 = true
      ·subst c31
       replace H := ift H
       obtain ⟨t325, A32, H⟩ := bnd H
       simp only [Option.some.injEq, Prod.mk.injEq] at H
       obtain ⟨rfl, rfl⟩ := H
       go_wp2_with (first | ((with_reducible refine gate_callee (f := 208) rfl ?_); refine goesL_ (some 61) rfl rfl Tryz.func208 KR rfl #[.string a1, .int .i64 4294967295] rfl TA ?_; (with_reducible refine (impl_numberIn.calls a1 4294967295 t323 true _ ?side1 A30.out).mono ?_); (case side1 => exact GW HGL); rintro e w33 ⟨rfl, hb⟩; refine ⟨_, rfl, ?_⟩; replace HB := BS hb; clear hb) | ((with_reducible refine gate_callee (f := 209) rfl ?_); refine goesL_ (some 67) rfl rfl Tryz.func209 KR rfl #[.int .i64 t323, .int .i64 4] rfl TA ?_; (with_reducible refine (impl_big.calls kj18 t323 4 t325 _ A32.out).mono ?_); rintro e w34 ⟨rfl, hb⟩; refine ⟨_, rfl, ?_⟩; replace HB := BS hb; clear hb))
       go_ret2
       exact ⟨TE, TB⟩
      ·replace c31 := Bool.eq_false_iff.mpr c31
       subst c31
       replace H := iff' H
       simp only [Option.some.injEq, Prod.mk.injEq] at H
       obtain ⟨rfl, rfl⟩ := H
       go_wp2_with (first | ((with_reducible refine gate_callee (f := 208) rfl ?_); refine goesL_ (some 61) rfl rfl Tryz.func208 KR rfl #[.string a1, .int .i64 4294967295] rfl TA ?_; (with_reducible refine (impl_numberIn.calls a1 4294967295 t323 false _ ?side1 A30.out).mono ?_); (case side1 => exact GW HGL); rintro e w35 ⟨rfl, hb⟩; refine ⟨_, rfl, ?_⟩; replace HB := BS hb; clear hb))
       go_ret2
       exact ⟨TE, TB⟩
     ·rw [if_neg c29] at H
      have c29b0 : (a0 == 6) = false := beq_eq_false_iff_ne.mpr c29
      have c29b1 : (a0 != 6) = true := bne_iff_ne.mpr c29
      by_cases c36 : a0 = 15
      ·rw [if_pos c36] at H
       have c36b0 : (a0 == 15) = true := beq_iff_eq.mpr c36
       have c36b1 : (a0 != 15) = false := bne_eq_false_iff_eq.mpr c36
       clear c36
       obtain ⟨⟨t326, t327, t328⟩, A37, H⟩ := bnd H
       try dsimp only at H
       obtain ⟨⟨t329, t330⟩, A38, H⟩ := bnd H
       try dsimp only at H
       have HC39 := Aside0.mk H
       clear H
       go_upto_region 27 with (first | ((with_reducible refine gate_callee (f := 182) rfl ?_); refine goesL_ (some 72) rfl rfl Tryz.func182 KR rfl #[.string a1, .string (⟨#[32]⟩ : ByteArray)] rfl TA ?_; (with_reducible refine (strings_Cut.calls a1 (⟨#[32]⟩ : ByteArray) t326 t327 t328 _ A37.out).mono ?_); rintro e w' ⟨rfl, ⟨nd, rfl⟩⟩; refine ⟨_, rfl, ?_⟩) | ((with_reducible refine gate_callee (f := 208) rfl ?_); refine goesL_ (some 78) rfl rfl Tryz.func208 KR rfl #[.string t326, .int .i64 65535] rfl TA ?_; (with_reducible refine (impl_numberIn.calls t326 65535 t329 t330 _ ?side1 A38.out).mono ?_); (case side1 => exact GW HGL); rintro e w40 ⟨rfl, hb⟩; refine ⟨_, rfl, ?_⟩; replace HB := BS hb; clear hb))
       (try simp only [Act.put, List.setIfInBounds_toArray, List.set_cons_zero, List.set_cons_succ])
       go_cut [87] (fun v87 wc => ∃ (kq : Nat) (x87_38 : Bool), v87 = .bool x87_38 ∧ Aside0 (impl_DataBytes.j2 kq t327 t329 x87_38 = some (r1, r2)) ∧ Aside0 (kq ≤ kj18) ∧ Aside0 (Below w.heap.size w wc))
       case first =>
        have H := HC39.out
        clear HC39
        by_cases c41 : t330 = true
        ·subst c41
         replace H := ift H
         obtain ⟨t331, A42, H⟩ := bnd H
         have H' := Aside0.mk H
         clear H
         go_wp2_with (first | (go_at_call 210; (with_reducible refine (impl_isTarget.calls kj18 t327 t331 _ A42.out).mono ?_); rintro e w43 ⟨rfl, hb⟩; replace HB := BS hb; clear hb))
         go_meet
         case rel => exact ⟨_, (!t331), TF, H', ⟨by have := HJ18.out; first | omega | exact Nat.le_refl _⟩, ⟨TB⟩⟩
        ·replace c41 := Bool.eq_false_iff.mpr c41
         subst c41
         replace H := iff' H
         have H' := Aside0.mk H
         clear H
         go_wp2
         go_meet
         case rel => exact ⟨_, (true), TF, H', ⟨by have := HJ18.out; first | omega | exact Nat.le_refl _⟩, ⟨TB⟩⟩
       case rest =>
        clear HC39
        obtain ⟨kq, x87_38, rfl, HA, HJ38, HB⟩ := hcut
        cases kq with
        | zero => exact absurd HA.out (by simp [impl_DataBytes.j2])
        | succ kj38 =>
         have H := HA.out
         clear HA
         simp only [impl_DataBytes.j2] at H
         by_cases c44 : x87_38 = true
         ·subst c44
          replace H := ift H
          simp only [Option.some.injEq, Prod.mk.injEq] at H
          obtain ⟨rfl, rfl⟩ := H
          go_wp2
          go_ret2
          exact ⟨TE, TB⟩
         ·replace c44 := Bool.eq_false_iff.mpr c44
          subst c44
          replace H := iff' H
          obtain ⟨t332, A45, H⟩ := bnd H
          obtain ⟨t333, A46, H⟩ := bnd H
          obtain ⟨c47, H⟩ := ifn H
          have c47b0 := eq_true c47
          have c47b1 : decide (t332.size + t333.size ≤ 9223372036854775807) = true := decide_eq_true c47
          try have c47b2 : (9223372036854775807 < t332.size + t333.size) = False := eq_false (Nat.not_lt.2 c47)
          obtain ⟨c48, H⟩ := ifn H
          have c48b0 := eq_true c48
          have c48b1 : decide ((t332 ++ t333).size + 1 ≤ 9223372036854775807) = true := decide_eq_true c48
          try have c48b7 : (t332.size + t333.size + 1 ≤ 9223372036854775807) = True := eq_true (by have h_ := c48; simp only [ByteArray.size_append] at h_; exact h_)
          try have c48b9 : (9223372036854775807 < t332.size + t333.size + 1) = False := eq_false (Nat.not_lt.2 (by have h_ := c48; simp only [ByteArray.size_append] at h_; exact h_))
          try have c48b8 : decide (t332.size + t333.size + 1 ≤ 9223372036854775807) = true := decide_eq_true (by have h_ := c48; simp only [ByteArray.size_append] at h_; exact h_)
          try have c48b2 : (9223372036854775807 < (t332 ++ t333).size + 1) = False := eq_false (Nat.not_lt.2 c48)
          simp only [Option.some.injEq, Prod.mk.injEq] at H
          obtain ⟨rfl, rfl⟩ := H
          go_wp2_with (first | ((with_reducible refine gate_callee (f := 209) rfl ?_); refine goesL_ (some 89) rfl rfl Tryz.func209 KR rfl #[.int .i64 t329, .int .i64 2] rfl TA ?_; (with_reducible refine (impl_big.calls kj38 t329 2 t332 _ A45.out).mono ?_); rintro e w49 ⟨rfl, hb⟩; refine ⟨_, rfl, ?_⟩; replace HB := BS hb; clear hb) | ((with_reducible refine gate_callee (f := 211) rfl ?_); refine goesL_ (some 91) rfl rfl Tryz.func211 KR rfl #[.string t327] rfl TA ?_; (with_reducible refine (impl_labelBytes.calls kj38 t327 t333 _ A46.out).mono ?_); rintro e w50 ⟨rfl, hb⟩; refine ⟨_, rfl, ?_⟩; replace HB := BS hb; clear hb))
          go_ret2
          exact ⟨TE, TB⟩
      ·rw [if_neg c36] at H
       have c36b0 : (a0 == 15) = false := beq_eq_false_iff_ne.mpr c36
       have c36b1 : (a0 != 15) = true := bne_iff_ne.mpr c36
       by_cases c51 : a0 = 16
       ·rw [if_pos c51] at H
        have c51b0 : (a0 == 16) = true := beq_iff_eq.mpr c51
        have c51b1 : (a0 != 16) = false := bne_eq_false_iff_eq.mpr c51
        clear c51
        by_cases c52 : (a1.size : Int) > 30
        ·rw [if_pos c52] at H
         have c52b0 : decide (30 < (a1.size : Int)) = true := decide_eq_true c52
         have c52b1 : decide (30 < a1.size) = true := decide_eq_true (by omega)
         clear c52
         simp only [Option.some.injEq, Prod.mk.injEq] at H
         obtain ⟨rfl, rfl⟩ := H
         go_wp2
         go_ret2
         exact ⟨TE, TB⟩
        ·rw [if_neg c52] at H
         have c52b0 : decide (30 < (a1.size : Int)) = false := decide_eq_false c52
         have c52b1 : decide (30 < a1.size) = false := decide_eq_false (by omega)
         clear c52
         obtain ⟨c53, H⟩ := ifn H
         have c53b0 := eq_true c53
         have c53b1 : decide (a1.size ≤ 9223372036854775807) = true := decide_eq_true c53
         try have c53b2 : (9223372036854775807 < a1.size) = False := eq_false (Nat.not_lt.2 c53)
         clear c53
         obtain ⟨y334, hy334⟩ : ∃ y_ : List Int, y_ = (bytesOf a1) := ⟨_, rfl⟩
         replace H : ((slices_ContainsFunc_byte_byte_DataBytes_1.f kj18 y334).bind fun t337 => (if t337 = true then (some ((⟨#[]⟩ : ByteArray), false)) else ((impl_big.f kj18 (a1.size : Int) 1).bind fun t338 => (if t338.size + a1.size ≤ 9223372036854775807 then (some (t338 ++ a1, true)) else (none))))) = some (r1, r2) := by first | (rw [hy334]; with_reducible exact H) | (have H2_ := (Option.bind_some _ _).symm.trans H; rw [hy334]; with_reducible exact H2_) | (have H2_ := (Option.bind_some _ _).symm.trans H; with_reducible exact H2_) | with_reducible exact H | (rw [hy334]; exact H) | exact H
         have Ny334 := Aside0.mk hy334
         clear hy334
         obtain ⟨t337, A54, H⟩ := bnd H
         by_cases c55 : t337 = true
         ·subst c55
          replace H := ift H
          simp only [Option.some.injEq, Prod.mk.injEq] at H
          obtain ⟨rfl, rfl⟩ := H
          go_wp2_with (first | ((with_reducible refine gate_dst (N := 101) rfl ?_); (try (refine gate_guard (by rfl) ?_; dsimp only)); refine Kd.V_bytes _ 5 rfl (N := 101) rfl 9 162 _ rfl a1 rfl Tryz.underlying9 Tryz.underlying162 Tryz.underlying5 TD (ok := fun k_ => wc.heap.size ≤ k_) (Nat.le_refl _) (Below.refl _ _) (Nat.le_refl _) ?_; intro v335 w56 ho57 hb hg_ hnew_; clear hg_ hnew_; (first | rw [← Ny334.out] at ho57 | (simp only [Int.reduceToNat] at ho57; rw [← Ny334.out] at ho57)); have HO336 := Aside0.mk (Kd.V_lower (Kd.V_mono (ok' := fun k_ => True) ho57 (fun k_ hk_ => trivial)) (below_size TB)); replace HB := BS hb; clear hb ho57; obtain ⟨Ao58, co58, eo58⟩ := Kd.V_slice HO336.out; subst eo58) | (go_at_call 212; (with_reducible refine (slices_ContainsFunc_byte_byte_DataBytes_1.calls kj18 _ _ y334  true _ ?side1 ?side2 A54.out).mono ?_); (case side1 => exact CW ((Kd.V_reads' HO336.out).2.2)); (case side2 => exact (Kd.V_reads' HO336.out).2.1); rintro e w' ⟨rfl, ⟨nd, rfl⟩⟩))
          go_ret2
          exact ⟨TE, TB⟩
         ·replace c55 := Bool.eq_false_iff.mpr c55
          subst c55
          replace H := iff' H
          obtain ⟨t338, A59, H⟩ := bnd H
          obtain ⟨c60, H⟩ := ifn H
          have c60b0 := eq_true c60
          have c60b1 : decide (t338.size + a1.size ≤ 9223372036854775807) = true := decide_eq_true c60
          try have c60b2 : (9223372036854775807 < t338.size + a1.size) = False := eq_false (Nat.not_lt.2 c60)
          simp only [Option.some.injEq, Prod.mk.injEq] at H
          obtain ⟨rfl, rfl⟩ := H
          go_wp2_with (first | ((with_reducible refine gate_dst (N := 101) rfl ?_); (try (refine gate_guard (by rfl) ?_; dsimp only)); refine Kd.V_bytes _ 5 rfl (N := 101) rfl 9 162 _ rfl a1 rfl Tryz.underlying9 Tryz.underlying162 Tryz.underlying5 TD (ok := fun k_ => wc.heap.size ≤ k_) (Nat.le_refl _) (Below.refl _ _) (Nat.le_refl _) ?_; intro v335 w61 ho62 hb hg_ hnew_; clear hg_ hnew_; (first | rw [← Ny334.out] at ho62 | (simp only [Int.reduceToNat] at ho62; rw [← Ny334.out] at ho62)); have HO336 := Aside0.mk (Kd.V_lower (Kd.V_mono (ok' := fun k_ => True) ho62 (fun k_ hk_ => trivial)) (below_size TB)); replace HB := BS hb; clear hb ho62; obtain ⟨Ao63, co63, eo63⟩ := Kd.V_slice HO336.out; subst eo63) | (go_at_call 212; (with_reducible refine (slices_ContainsFunc_byte_byte_DataBytes_1.calls kj18 _ _ y334  false _ ?side1 ?side2 A54.out).mono ?_); (case side1 => exact CW ((Kd.V_reads' HO336.out).2.2)); (case side2 => exact (Kd.V_reads' HO336.out).2.1); rintro e w' ⟨rfl, ⟨nd, rfl⟩⟩) | ((with_reducible refine gate_callee (f := 209) rfl ?_); refine goesL_ (some 106) rfl rfl Tryz.func209 KR rfl #[.int .i64 (a1.size : Int), .int .i64 1] rfl TA ?_; (with_reducible refine (impl_big.calls kj18 (a1.size : Int) 1 t338 _ A59.out).mono ?_); rintro e w64 ⟨rfl, hb⟩; refine ⟨_, rfl, ?_⟩; replace HO336 := Aside0.mk (Kd.V_below (by (with_reducible repeat (first | apply Kd.V_alloc | apply Kd.V_drewN | apply Kd.V_drew)); exact HO336.out) hb); replace HB := BS hb; clear hb))
          go_ret2
          exact ⟨TE, TB⟩
       ·rw [if_neg c51] at H
        have c51b0 : (a0 == 16) = false := beq_eq_false_iff_ne.mpr c51
        have c51b1 : (a0 != 16) = true := bne_iff_ne.mpr c51
        simp only [Option.some.injEq, Prod.mk.injEq] at H
        obtain ⟨rfl, rfl⟩ := H
        go_wp2
        go_ret2
        exact ⟨TE, TB⟩
end
section
/-! ### impl_GoodRecord: function 162 -/
def impl_GoodRecord.f (k : Nat) (a0_0 : ByteArray) (a0_1 : Int) (a0_2 : Int) (a0_3 : ByteArray) : Option (Bool) := (impl_GoodName.f k a0_0).bind fun t340 => (if t340 = true then ((impl_within.f a0_2 0 100000).bind fun t341 => (if t341 = true then (if (a0_3.size : Int) > 100 then (some false) else ((impl_DataBytes.f k a0_1 a0_3).bind fun bt342 => (some bt342.2))) else (some false))) else (some false))
theorem impl_GoodRecord.calls (k : Nat) (a0_0 : ByteArray) (a0_1 : Int) (a0_2 : Int) (a0_3 : ByteArray) (r : Bool) (w : World) (hG_ : Glob w) (h : impl_GoodRecord.f k a0_0 a0_1 a0_2 a0_3 = some r) :
  Calls Tryz.prog 162 #[.agg #[.string a0_0, .int .i64 a0_1, .int .i64 a0_2, .string a0_3]] w fun e w' => e = .returned (.bool r) ∧ Below w.heap.size w w' := by
 have hu93 := Tryz.underlying93
 have HGL := Aside0.mk hG_
 clear hG_
 have HB := Aside0.mk (Below.refl w.heap.size w)
 have H : ((impl_GoodName.f k a0_0).bind fun t340 => (if t340 = true then ((impl_within.f a0_2 0 100000).bind fun t341 => (if t341 = true then (if (a0_3.size : Int) > 100 then (some false) else ((impl_DataBytes.f k a0_1 a0_3).bind fun bt342 => (some bt342.2))) else (some false))) else (some false))) = some r := h
 clear h
 obtain ⟨t340, A2, H⟩ := bnd H
 by_cases c3 : t340 = true
 ·subst c3
  replace H := ift H
  obtain ⟨t341, A4, H⟩ := bnd H
  by_cases c5 : t341 = true
  ·subst c5
   replace H := ift H
   by_cases c6 : (a0_3.size : Int) > 100
   ·rw [if_pos c6] at H
    have c6b0 : decide (100 < (a0_3.size : Int)) = true := decide_eq_true c6
    have c6b1 : decide (100 < a0_3.size) = true := decide_eq_true (by omega)
    clear c6
    obtain rfl := Option.some.inj H
    go_enter Tryz.func162, Tryz.ntmps162
    go_wp2_with (first | ((with_reducible refine gate_dst (N := 1) rfl ?_); (try (refine gate_guard (by rfl) ?_; dsimp only)); refine bE 1 #[.string a0_0, .int .i64 a0_1, .int .i64 a0_2, .string a0_3] 93 ?_; intro gb339 hg w7 hbox hb; have BK339 := Aside0.mk (hbox); have GE339 := bG hg; replace HB := BS hb; clear hb hbox hg; have hcz8 := cz4 BK339) | ((with_reducible refine gate_callee (f := 77) rfl ?_); refine goesL_ (some 7) rfl rfl Tryz.func77 KR rfl #[.string a0_0] rfl TA ?_; (with_reducible refine (impl_GoodName.calls k a0_0 true _ A2.out).mono ?_); rintro e w9 ⟨rfl, hb⟩; refine ⟨_, rfl, ?_⟩; replace BK339 := KB BK339 hb; replace HB := BS hb; clear hb; have hcz10 := cz4 BK339) | (go_at_call 86; (with_reducible refine (impl_within.calls a0_2 0 100000 true _ A4.out).mono ?_); rintro e w' ⟨rfl, ⟨nd, rfl⟩⟩))
    go_ret
    exact ⟨TE, TB⟩
   ·rw [if_neg c6] at H
    have c6b0 : decide (100 < (a0_3.size : Int)) = false := decide_eq_false c6
    have c6b1 : decide (100 < a0_3.size) = false := decide_eq_false (by omega)
    clear c6
    obtain ⟨⟨t342, t343⟩, A11, H⟩ := bnd H
    try dsimp only at H
    obtain rfl := Option.some.inj H
    go_enter Tryz.func162, Tryz.ntmps162
    go_wp2_with (first | ((with_reducible refine gate_dst (N := 1) rfl ?_); (try (refine gate_guard (by rfl) ?_; dsimp only)); refine bE 1 #[.string a0_0, .int .i64 a0_1, .int .i64 a0_2, .string a0_3] 93 ?_; intro gb339 hg w12 hbox hb; have BK339 := Aside0.mk (hbox); have GE339 := bG hg; replace HB := BS hb; clear hb hbox hg; have hcz13 := cz4 BK339) | ((with_reducible refine gate_callee (f := 77) rfl ?_); refine goesL_ (some 7) rfl rfl Tryz.func77 KR rfl #[.string a0_0] rfl TA ?_; (with_reducible refine (impl_GoodName.calls k a0_0 true _ A2.out).mono ?_); rintro e w14 ⟨rfl, hb⟩; refine ⟨_, rfl, ?_⟩; replace BK339 := KB BK339 hb; replace HB := BS hb; clear hb; have hcz15 := cz4 BK339) | (go_at_call 86; (with_reducible refine (impl_within.calls a0_2 0 100000 true _ A4.out).mono ?_); rintro e w' ⟨rfl, ⟨nd, rfl⟩⟩) | ((with_reducible refine gate_callee (f := 187) rfl ?_); refine goesL_ (some 26) rfl rfl Tryz.func187 KR rfl #[.int .i64 a0_1, .string a0_3] rfl TA ?_; (with_reducible refine (impl_DataBytes.calls k a0_1 a0_3 t342 t343 _ ?side1 A11.out).mono ?_); (case side1 => exact GW HGL); rintro e w16 ⟨rfl, hb⟩; refine ⟨_, rfl, ?_⟩; replace BK339 := KB BK339 hb; replace HB := BS hb; clear hb))
    go_ret
    exact ⟨TE, TB⟩
  ·replace c5 := Bool.eq_false_iff.mpr c5
   subst c5
   replace H := iff' H
   obtain rfl := Option.some.inj H
   go_enter Tryz.func162, Tryz.ntmps162
   go_wp2_with (first | ((with_reducible refine gate_dst (N := 1) rfl ?_); (try (refine gate_guard (by rfl) ?_; dsimp only)); refine bE 1 #[.string a0_0, .int .i64 a0_1, .int .i64 a0_2, .string a0_3] 93 ?_; intro gb339 hg w17 hbox hb; have BK339 := Aside0.mk (hbox); have GE339 := bG hg; replace HB := BS hb; clear hb hbox hg; have hcz18 := cz4 BK339) | ((with_reducible refine gate_callee (f := 77) rfl ?_); refine goesL_ (some 7) rfl rfl Tryz.func77 KR rfl #[.string a0_0] rfl TA ?_; (with_reducible refine (impl_GoodName.calls k a0_0 true _ A2.out).mono ?_); rintro e w19 ⟨rfl, hb⟩; refine ⟨_, rfl, ?_⟩; replace BK339 := KB BK339 hb; replace HB := BS hb; clear hb; have hcz20 := cz4 BK339) | (go_at_call 86; (with_reducible refine (impl_within.calls a0_2 0 100000 false _ A4.out).mono ?_); rintro e w' ⟨rfl, ⟨nd, rfl⟩⟩))
   go_ret
   exact ⟨TE, TB⟩
 ·replace c3 := Bool.eq_false_iff.mpr c3
  subst c3
  replace H := iff' H
  obtain rfl := Option.some.inj H
  go_enter Tryz.func162, Tryz.ntmps162
  go_wp2_with (first | ((with_reducible refine gate_dst (N := 1) rfl ?_); (try (refine gate_guard (by rfl) ?_; dsimp only)); refine bE 1 #[.string a0_0, .int .i64 a0_1, .int .i64 a0_2, .string a0_3] 93 ?_; intro gb339 hg w21 hbox hb; have BK339 := Aside0.mk (hbox); have GE339 := bG hg; replace HB := BS hb; clear hb hbox hg; have hcz22 := cz4 BK339) | ((with_reducible refine gate_callee (f := 77) rfl ?_); refine goesL_ (some 7) rfl rfl Tryz.func77 KR rfl #[.string a0_0] rfl TA ?_; (with_reducible refine (impl_GoodName.calls k a0_0 false _ A2.out).mono ?_); rintro e w23 ⟨rfl, hb⟩; refine ⟨_, rfl, ?_⟩; replace BK339 := KB BK339 hb; replace HB := BS hb; clear hb))
  go_ret
  exact ⟨TE, TB⟩
end
section
/-! ### cmp_isNaN_int: function 141 -/
def cmp_isNaN_int.f (a0 : Int) : Option (Bool) := some (a0 != a0)
theorem cmp_isNaN_int.calls (a0 : Int) (r : Bool) (w : World) (h : cmp_isNaN_int.f a0 = some r) :
  Calls Tryz.prog 141 #[.int .i64 a0] w fun e w' => e = .returned (.bool r) ∧ Drawn0 w w' := by
 have H : (some (a0 != a0)) = some r := h
 clear h
 obtain rfl := Option.some.inj H
 go_enter Tryz.func141, Tryz.ntmps141
 go_wp2
 go_ret
 exact ⟨TF, TN⟩
end
section
/-! ### cmp_Compare_int: function 92 -/
def cmp_Compare_int.f (a0 : Int) (a1 : Int) : Option (Int) := (cmp_isNaN_int.f a0).bind fun t362 => ((cmp_isNaN_int.f a1).bind fun t363 => (if t362 = true then (if t363 = true then (some 0) else (some (-1))) else (if t363 = true then (some 1) else (if a0 < a1 then (some (-1)) else (if a0 > a1 then (some 1) else (some 0))))))
theorem cmp_Compare_int.calls (a0 : Int) (a1 : Int) (r : Int) (w : World) (h : cmp_Compare_int.f a0 a1 = some r) :
  Calls Tryz.prog 92 #[.int .i64 a0, .int .i64 a1] w fun e w' => e = .returned (.int .i64 r) ∧ Drawn0 w w' := by
 have H : ((cmp_isNaN_int.f a0).bind fun t362 => ((cmp_isNaN_int.f a1).bind fun t363 => (if t362 = true then (if t363 = true then (some 0) else (some (-1))) else (if t363 = true then (some 1) else (if a0 < a1 then (some (-1)) else (if a0 > a1 then (some 1) else (some 0))))))) = some r := h
 clear h
 obtain ⟨t362, A3, H⟩ := bnd H
 obtain ⟨t363, A4, H⟩ := bnd H
 by_cases c5 : t362 = true
 ·subst c5
  replace H := ift H
  by_cases c6 : t363 = true
  ·subst c6
   replace H := ift H
   obtain rfl := Option.some.inj H
   go_enter Tryz.func92, Tryz.ntmps92
   go_wp2_with (first | ((with_reducible refine gate_callee (f := 141) rfl ?_); refine goesL_ (some 8) rfl rfl Tryz.func141 KR rfl #[.int .i64 a0] rfl TA ?_; (with_reducible refine (cmp_isNaN_int.calls a0 true _ A3.out).mono ?_); rintro e w' ⟨rfl, ⟨nd, rfl⟩⟩; refine ⟨_, rfl, ?_⟩) | ((with_reducible refine gate_callee (f := 141) rfl ?_); refine goesL_ (some 10) rfl rfl Tryz.func141 KR rfl #[.int .i64 a1] rfl TA ?_; (with_reducible refine (cmp_isNaN_int.calls a1 true _ A4.out).mono ?_); rintro e w' ⟨rfl, ⟨nd, rfl⟩⟩; refine ⟨_, rfl, ?_⟩))
   go_ret
   exact ⟨TF, TN⟩
  ·replace c6 := Bool.eq_false_iff.mpr c6
   subst c6
   replace H := iff' H
   obtain rfl := Option.some.inj H
   go_enter Tryz.func92, Tryz.ntmps92
   go_wp2_with (first | ((with_reducible refine gate_callee (f := 141) rfl ?_); refine goesL_ (some 8) rfl rfl Tryz.func141 KR rfl #[.int .i64 a0] rfl TA ?_; (with_reducible refine (cmp_isNaN_int.calls a0 true _ A3.out).mono ?_); rintro e w' ⟨rfl, ⟨nd, rfl⟩⟩; refine ⟨_, rfl, ?_⟩) | ((with_reducible refine gate_callee (f := 141) rfl ?_); refine goesL_ (some 10) rfl rfl Tryz.func141 KR rfl #[.int .i64 a1] rfl TA ?_; (with_reducible refine (cmp_isNaN_int.calls a1 false _ A4.out).mono ?_); rintro e w' ⟨rfl, ⟨nd, rfl⟩⟩; refine ⟨_, rfl, ?_⟩))
   go_ret
   exact ⟨TF, TN⟩
 ·replace c5 := Bool.eq_false_iff.mpr c5
  subst c5
  replace H := iff' H
  by_cases c7 : t363 = true
  ·subst c7
   replace H := ift H
   obtain rfl := Option.some.inj H
   go_enter Tryz.func92, Tryz.ntmps92
   go_wp2_with (first | ((with_reducible refine gate_callee (f := 141) rfl ?_); refine goesL_ (some 8) rfl rfl Tryz.func141 KR rfl #[.int .i64 a0] rfl TA ?_; (with_reducible refine (cmp_isNaN_int.calls a0 false _ A3.out).mono ?_); rintro e w' ⟨rfl, ⟨nd, rfl⟩⟩; refine ⟨_, rfl, ?_⟩) | ((with_reducible refine gate_callee (f := 141) rfl ?_); refine goesL_ (some 10) rfl rfl Tryz.func141 KR rfl #[.int .i64 a1] rfl TA ?_; (with_reducible refine (cmp_isNaN_int.calls a1 true _ A4.out).mono ?_); rintro e w' ⟨rfl, ⟨nd, rfl⟩⟩; refine ⟨_, rfl, ?_⟩))
   go_ret
   exact ⟨TF, TN⟩
  ·replace c7 := Bool.eq_false_iff.mpr c7
   subst c7
   replace H := iff' H
   by_cases c8 : a0 < a1
   ·rw [if_pos c8] at H
    have c8b0 : decide (a0 < a1) = true := decide_eq_true c8
    clear c8
    obtain rfl := Option.some.inj H
    go_enter Tryz.func92, Tryz.ntmps92
    go_wp2_with (first | ((with_reducible refine gate_callee (f := 141) rfl ?_); refine goesL_ (some 8) rfl rfl Tryz.func141 KR rfl #[.int .i64 a0] rfl TA ?_; (with_reducible refine (cmp_isNaN_int.calls a0 false _ A3.out).mono ?_); rintro e w' ⟨rfl, ⟨nd, rfl⟩⟩; refine ⟨_, rfl, ?_⟩) | ((with_reducible refine gate_callee (f := 141) rfl ?_); refine goesL_ (some 10) rfl rfl Tryz.func141 KR rfl #[.int .i64 a1] rfl TA ?_; (with_reducible refine (cmp_isNaN_int.calls a1 false _ A4.out).mono ?_); rintro e w' ⟨rfl, ⟨nd, rfl⟩⟩; refine ⟨_, rfl, ?_⟩))
    go_ret
    exact ⟨TF, TN⟩
   ·rw [if_neg c8] at H
    have c8b0 : decide (a0 < a1) = false := decide_eq_false c8
    clear c8
    by_cases c9 : a0 > a1
    ·rw [if_pos c9] at H
     have c9b0 : decide (a1 < a0) = true := decide_eq_true c9
     clear c9
     obtain rfl := Option.some.inj H
     go_enter Tryz.func92, Tryz.ntmps92
     go_wp2_with (first | ((with_reducible refine gate_callee (f := 141) rfl ?_); refine goesL_ (some 8) rfl rfl Tryz.func141 KR rfl #[.int .i64 a0] rfl TA ?_; (with_reducible refine (cmp_isNaN_int.calls a0 false _ A3.out).mono ?_); rintro e w' ⟨rfl, ⟨nd, rfl⟩⟩; refine ⟨_, rfl, ?_⟩) | ((with_reducible refine gate_callee (f := 141) rfl ?_); refine goesL_ (some 10) rfl rfl Tryz.func141 KR rfl #[.int .i64 a1] rfl TA ?_; (with_reducible refine (cmp_isNaN_int.calls a1 false _ A4.out).mono ?_); rintro e w' ⟨rfl, ⟨nd, rfl⟩⟩; refine ⟨_, rfl, ?_⟩))
     go_ret
     exact ⟨TF, TN⟩
    ·rw [if_neg c9] at H
     have c9b0 : decide (a1 < a0) = false := decide_eq_false c9
     clear c9
     obtain rfl := Option.some.inj H
     go_enter Tryz.func92, Tryz.ntmps92
     go_wp2_with (first | ((with_reducible refine gate_callee (f := 141) rfl ?_); refine goesL_ (some 8) rfl rfl Tryz.func141 KR rfl #[.int .i64 a0] rfl TA ?_; (with_reducible refine (cmp_isNaN_int.calls a0 false _ A3.out).mono ?_); rintro e w' ⟨rfl, ⟨nd, rfl⟩⟩; refine ⟨_, rfl, ?_⟩) | ((with_reducible refine gate_callee (f := 141) rfl ?_); refine goesL_ (some 10) rfl rfl Tryz.func141 KR rfl #[.int .i64 a1] rfl TA ?_; (with_reducible refine (cmp_isNaN_int.calls a1 false _ A4.out).mono ?_); rintro e w' ⟨rfl, ⟨nd, rfl⟩⟩; refine ⟨_, rfl, ?_⟩))
     go_ret
     exact ⟨TF, TN⟩
end
section
/-! ### cmp_Or_int: function 138 -/
def cmp_Or_int.l0 : Nat → Int → List Int → Int → Int → Option (Int)
 | 0, _, _, _, _ => none
 | k + 1, x3, x6, x7, x8 => if x8 < x7 then (if 0 ≤ x8 then (if x8 < (x6.length : Int) then (if (rd x6 x8) = x3 then (cmp_Or_int.l0 k x3 x6 x7 (wrap64 (x8 + 1))) else (some (rd x6 x8))) else (none)) else (none)) else (some x3)
def cmp_Or_int.f (k : Nat) (l0 : List Int) : Option (Int) := cmp_Or_int.l0 k 0 l0 (l0.length : Int) 0
theorem cmp_Or_int.calls (k : Nat) (A0 : Option Addr) (c0 : Nat) (l0 : List Int) (r : Int) (w : World) (hr0 : Kd.C (Kd.int .i64) w A0 l0.length l0) (hc0 : l0.length ≤ c0) (h : cmp_Or_int.f k l0 = some r) :
  Calls Tryz.prog 138 #[.slice A0 l0.length c0] w fun e w' => e = .returned (.int .i64 r) ∧ Drawn0 w w' := by
 have HR0 := Aside0.mk hr0
 have HC0 := Aside0.mk hc0
 clear hr0 hc0
 have H : (cmp_Or_int.l0 k 0 l0 (l0.length : Int) 0) = some r := h
 clear h
 have H' := Aside0.mk H
 clear H
 go_enter Tryz.func138, Tryz.ntmps138
 go_wp2
 go_loopg [8] k (fun kq v8 w' => ∃ (x8_1 : Int), v8 = .int .i64 x8_1 ∧ Aside0 (cmp_Or_int.l0 kq 0 l0 (l0.length : Int) x8_1 = some r) ∧ Aside0 (kq ≤ k) ∧ Drawn0 w w')
 case atStart => exact ⟨(0), TF, H', ⟨Nat.le_refl _⟩, TN⟩
 case round =>
  clear H'
  obtain ⟨x8_1, rfl, HA, HK1, ⟨m1, rfl⟩⟩ := hrel
  cases gk with
  | zero => exact absurd HA.out (by simp [cmp_Or_int.l0])
  | succ k1 =>
   have H := HA.out
   clear HA
   simp only [cmp_Or_int.l0] at H
   by_cases c2 : x8_1 < (l0.length : Int)
   ·rw [if_pos c2] at H
    have c2b0 : decide (x8_1 < (l0.length : Int)) = true := decide_eq_true c2
    clear c2
    obtain ⟨c3, H⟩ := ifn H
    have c3b0 : decide (0 ≤ x8_1) = true := decide_eq_true c3
    clear c3
    obtain ⟨c4, H⟩ := ifn H
    have c4b0 : decide (x8_1 < (l0.length : Int)) = true := decide_eq_true c4
    clear c4
    by_cases c5 : (rd l0 x8_1) = 0
    ·rw [if_pos c5] at H
     have c5b0 : ((rd l0 x8_1) == 0) = true := beq_iff_eq.mpr c5
     have c5b1 : ((rd l0 x8_1) != 0) = false := bne_eq_false_iff_eq.mpr c5
     clear c5
     have H' := Aside0.mk H
     clear H
     have p364 : 0 ≤ (x8_1 : Int) := TD
     have q364 : x8_1 < (l0.length : Int) := TD
     obtain ⟨ad364, e364, hx364_0⟩ := Kd.at_int HR0.out x8_1 p364 q364
     cases e364
     replace p364 := eq_true p364
     replace q364 := eq_true q364
     go_wp2
     go_roundg k1
     case measure => have := HK1.out; omega
     case rel => exact ⟨(wrap64 (x8_1 + 1)), TF, H', ⟨TM⟩, TN⟩
    ·rw [if_neg c5] at H
     have c5b0 : ((rd l0 x8_1) == 0) = false := beq_eq_false_iff_ne.mpr c5
     have c5b1 : ((rd l0 x8_1) != 0) = true := bne_iff_ne.mpr c5
     obtain rfl := Option.some.inj H
     have p364 : 0 ≤ (x8_1 : Int) := TD
     have q364 : x8_1 < (l0.length : Int) := TD
     obtain ⟨ad364, e364, hx364_0⟩ := Kd.at_int HR0.out x8_1 p364 q364
     cases e364
     replace p364 := eq_true p364
     replace q364 := eq_true q364
     go_wp2
     go_ret
     exact ⟨TF, TN⟩
   ·rw [if_neg c2] at H
    have c2b0 : decide (x8_1 < (l0.length : Int)) = false := decide_eq_false c2
    clear c2
    obtain rfl := Option.some.inj H
    go_wp2
    go_ret
    exact ⟨TF, TN⟩
end
section
/-! ### slices_Reverse_string_string: function 171 -/
def slices_Reverse_string_string.l0 : Nat → List ByteArray → Int → Int → Option (List ByteArray)
 | 0, _, _, _ => none
 | k + 1, x0, x2, x3 => if x2 < x3 then (if 0 ≤ x3 then (if x3 < (x0.length : Int) then (if 0 ≤ x2 then (if x2 < (x0.length : Int) then (slices_Reverse_string_string.l0 k ((x0.set (x2 : Int).toNat (rdOf ByteArray.empty x0 x3)).set (x3 : Int).toNat (rdOf ByteArray.empty x0 x2)) (wrap64 (x2 + 1)) (wrap64 (x3 - 1))) else (none)) else (none)) else (none)) else (none)) else (some x0)
def slices_Reverse_string_string.f (k : Nat) (l0 : List ByteArray) : Option (List ByteArray) := slices_Reverse_string_string.l0 k l0 0 (wrap64 ((l0.length : Int) - 1))
def slices_Reverse_string_string.T3 : Bool × List (List Nat × List Nat) := (true, [([], []), ([], []), ([], []), ([], []), ([], []), ([], []), ([4, 5], [4, 5]), ([6], [6]), ([], []), ([], []), ([8, 9], [8, 9]), ([10], [10]), ([0, 1, 0, 1, 4, 5, 6, 7, 11], [0, 1]), ([12, 7, 0, 1, 4, 5, 6, 7, 11], [7, 12]), ([2, 3, 0, 1, 2, 3, 4, 5, 6, 7, 8, 9, 10, 11, 12, 13], [2, 3]), ([14, 11, 13, 0, 1, 2, 3, 4, 5, 6, 7, 8, 9, 10, 11, 12, 13], [11, 14])])
def slices_Reverse_string_string.B3 : List Nat := [0, 0, 0, 0, 0, 0, 48, 112, 0, 0, 768, 1792, 4083, 8179, 16383, 32767]
theorem slices_Reverse_string_string.tab3 : rtab .any (opsOf Tryz.f171 3) = slices_Reverse_string_string.T3 := by kernel_rfl
theorem slices_Reverse_string_string.bits3 : waitsOk slices_Reverse_string_string.T3.2 slices_Reverse_string_string.B3 = true := by kernel_rfl
theorem slices_Reverse_string_string.calls (k : Nat) (P0_ : Nat → Prop) (u9000_ : Value) (l0 : List ByteArray) (r : List ByteArray) (w0 w : World) (hB : Below w0.heap.size w0 w) (ho0 : Kd.R Kd.string 9 w w0.heap.size P0_ u9000_ l0) (h : slices_Reverse_string_string.f k l0 = some r) :
  Calls Tryz.prog 171 #[u9000_] w fun e w' => e = .returned (.tuple #[]) ∧ Kd.R Kd.string 9 w' w0.heap.size (fun k_ => (P0_ k_ ∨ w.heap.size ≤ k_)) u9000_ r ∧ Below w0.heap.size w0 w' ∧ Kept w w' (fun k_ => P0_ k_) := by
 have HO0 := Aside0.mk (show Kd.R Kd.string 9 w w0.heap.size (fun k_ => (P0_ k_ ∨ w.heap.size ≤ k_)) u9000_ l0 from Kd.R_mono ho0 (fun k_ hk => (.inl hk)))
 have HK := Aside0.mk (Kept.refl w (fun k_ => P0_ k_))
 have HW0 := Aside0.mk hB.size
 have HB := Aside0.mk hB
 clear hB
 have H : (slices_Reverse_string_string.l0 k l0 0 (wrap64 ((l0.length : Int) - 1))) = some r := h
 clear h
 have H' := Aside0.mk H
 clear H
 obtain ⟨Ao2, co2, eo2⟩ := Kd.R_slice HO0.out
 subst eo2
 go_enter Tryz.func171, Tryz.ntmps171
 go_wp2
 go_loopg [2, 3] k (fun kq v2 v3 w' => ∃ (x0_1 : List ByteArray) (x2_1 : Int) (x3_1 : Int), v2 = .int .i64 x2_1 ∧ v3 = .int .i64 x3_1 ∧ Aside0 (slices_Reverse_string_string.l0 kq x0_1 x2_1 x3_1 = some r) ∧ Aside0 (kq ≤ k) ∧ Aside0 (Kd.R Kd.string 9 w' w0.heap.size (fun k_ => (P0_ k_ ∨ w.heap.size ≤ k_)) (.slice Ao2 l0.length co2) x0_1) ∧ Aside0 (Kept w w' (fun k_ => P0_ k_)) ∧ Aside0 (Below w0.heap.size w0 w'))
 case atStart => exact ⟨(l0), (0), (wrap64 ((l0.length : Int) - 1)), TF, TF, H', ⟨Nat.le_refl _⟩, RW HO0, ⟨TK⟩, ⟨TB⟩⟩
 case round =>
  clear H'
  obtain ⟨x0_1, x2_1, x3_1, rfl, rfl, HA, HK1, HO_0, HK, HB⟩ := hrel
  have hl0_1 := (Kd.R_reads' HO_0.out).1
  rw [hl0_1] at HO_0
  (try simp only [hl0_1])
  cases gk with
  | zero => exact absurd HA.out (by simp [slices_Reverse_string_string.l0])
  | succ k1 =>
   have H := HA.out
   clear HA
   simp only [slices_Reverse_string_string.l0] at H
   by_cases c3 : x2_1 < x3_1
   ·rw [if_pos c3] at H
    have c3b0 : decide (x2_1 < x3_1) = true := decide_eq_true c3
    clear c3
    obtain ⟨c4, H⟩ := ifn H
    have c4b0 : decide (0 ≤ x3_1) = true := decide_eq_true c4
    clear c4
    obtain ⟨c5, H⟩ := ifn H
    have c5b0 : decide (x3_1 < (x0_1.length : Int)) = true := decide_eq_true c5
    clear c5
    obtain ⟨c6, H⟩ := ifn H
    have c6b0 : decide (0 ≤ x2_1) = true := decide_eq_true c6
    clear c6
    obtain ⟨c7, H⟩ := ifn H
    have c7b0 : decide (x2_1 < (x0_1.length : Int)) = true := decide_eq_true c7
    clear c7
    obtain ⟨y346, hy346⟩ : ∃ y_ : List ByteArray, y_ = (x0_1.set (x2_1 : Int).toNat (rdOf ByteArray.empty x0_1 x3_1)) := ⟨_, rfl⟩
    replace H : (slices_Reverse_string_string.l0 k1 (y346.set (x3_1 : Int).toNat (rdOf ByteArray.empty x0_1 x2_1)) (wrap64 (x2_1 + 1)) (wrap64 (x3_1 - 1))) = some r := by first | (rw [hy346]; with_reducible exact H) | (have H2_ := (Option.bind_some _ _).symm.trans H; rw [hy346]; with_reducible exact H2_) | (have H2_ := (Option.bind_some _ _).symm.trans H; with_reducible exact H2_) | with_reducible exact H | (rw [hy346]; exact H) | exact H
    have Ny346 := Aside0.mk hy346
    clear hy346
    obtain ⟨y347, hy347⟩ : ∃ y_ : List ByteArray, y_ = (y346.set (x3_1 : Int).toNat (rdOf ByteArray.empty x0_1 x2_1)) := ⟨_, rfl⟩
    replace H : (slices_Reverse_string_string.l0 k1 y347 (wrap64 (x2_1 + 1)) (wrap64 (x3_1 - 1))) = some r := by first | (rw [hy347]; with_reducible exact H) | (have H2_ := (Option.bind_some _ _).symm.trans H; rw [hy347]; with_reducible exact H2_) | (have H2_ := (Option.bind_some _ _).symm.trans H; with_reducible exact H2_) | with_reducible exact H | (rw [hy347]; exact H) | exact H
    have Ny347 := Aside0.mk hy347
    clear hy347
    have H' := Aside0.mk H
    clear H
    try go_wp2
    replace HO_0 := Aside0.mk (Kd.R_drew HO_0.out)
    replace HK := Aside0.mk (Kept.drew HK.out)
    replace HB := Aside0.mk (below_drew1 HB.out)
    have p344 : 0 ≤ (x3_1 : Int) := TD
    have q344 : x3_1 < (x0_1.length : Int) := TD
    obtain ⟨ad344, e344, hx344_0⟩ := Kd.at_string (Kd.R_reads' HO_0.out).2.2 x3_1 p344 q344
    cases e344
    replace p344 := eq_true p344
    replace q344 := eq_true q344
    have p345 : 0 ≤ (x2_1 : Int) := TD
    have q345 : x2_1 < (x0_1.length : Int) := TD
    obtain ⟨ad345, e345, hx345_0⟩ := Kd.at_string (Kd.R_reads' HO_0.out).2.2 x2_1 p345 q345
    obtain rfl : ad344 = ad345 := (by injection e345)
    replace p345 := eq_true p345
    replace q345 := eq_true q345
    have p8 : 0 ≤ (x2_1 : Int) := TD
    have q8 : (x2_1 : Int) < ((x0_1.length : Int) : Int) := TD
    obtain ⟨go8, co8, eo8, gb8, gl8, cl8, HG8⟩ := Kd.R_form HO_0.out (by omega)
    (first | cases eo8 | (injection eo8 with ea_ en_ ec_; (first | subst ea_ | (injection ea_ with ea_; subst ea_)); subst ec_; clear en_))
    have GB8 := Aside0.mk gb8
    have GG8 := Aside0.mk HG8
    clear gb8 gl8 HG8
    have HMgo8 := Aside0.mk (show (P0_ go8 ∨ w.heap.size ≤ go8) from (HO_0.out.1 _ rfl))
    (first | simp only [add_plain] at hx344_0 | skip)
    (first | simp only [add_plain] at hx345_0 | skip)
    obtain ⟨hx8_0, hf8_0⟩ := Kd.R_celln (⟨#[]⟩ : ByteArray) HO_0.out (x2_1 : Int) p8 q8
    replace p8 := eq_true p8
    replace q8 := eq_true q8
    have HP11 := Kd.R_putn HO_0.out (x2_1 : Int) (rdOf ByteArray.empty x0_1 x3_1)
    rw [← Ny346.out] at HP11
    have HQ11 := Aside0.mk HP11
    clear HP11
    have p9 : 0 ≤ (x3_1 : Int) := TD
    have q9 : (x3_1 : Int) < ((x0_1.length : Int) : Int) := TD
    obtain ⟨hx9_0, hf9_0⟩ := Kd.R_celln (⟨#[]⟩ : ByteArray) HQ11.out (x3_1 : Int) p9 q9
    replace p9 := eq_true p9
    replace q9 := eq_true q9
    have HP12 := Kd.R_putn HQ11.out (x3_1 : Int) (rdOf ByteArray.empty x0_1 x2_1)
    rw [← Ny347.out] at HP12
    have HQ12 := Aside0.mk HP12
    clear HP12
    refine start_ (n := 16) (S := fun w' => w'.cell? ⟨go8, (x3_1).toNat, none⟩ = some (.string (rdOf ByteArray.empty x0_1 x3_1)) ∧ w'.cell? ⟨go8, (x2_1).toNat, none⟩ = some (.string (rdOf ByteArray.empty x0_1 x2_1))) (ds := [13, 15]) #[false, false, false, false, false, false, false, false, false, false, false, false, false, false, false, false] KR rfl rfl ⟨hx344_0, hx345_0⟩ (fun hHeld => ?_); refine with_tabW slices_Reverse_string_string.tab3 slices_Reverse_string_string.bits3 (fun HT_ HW_ => ?_)
    generalize wr.drew = w10 at HO_0 HK HB GG8 HQ11 HQ12 hf8_0 hf9_0 hx344_0 hx345_0 hx8_0 hx9_0 hHeld ⊢
    refine pA 0 14 (mL 16 1) HT_ rfl rfl ?_
    refine pA 1 15 (mL 16 3) HT_ rfl rfl ?_
    refine pA 2 16 (mL 16 7) HT_ rfl rfl ?_
    refine pA 3 17 (mL 16 15) HT_ rfl rfl ?_
    refine pA 4 18 (mL 16 31) HT_ rfl rfl ?_
    refine pA 5 19 (mL 16 63) HT_ rfl rfl ?_
    refine pA 6 20 (mL 16 127) HT_ rfl rfl ?_
    refine pA 8 22 (mL 16 383) HT_ rfl rfl ?_
    refine pA 9 23 (mL 16 895) HT_ rfl rfl ?_
    refine pA 10 24 (mL 16 1919) HT_ rfl rfl ?_
    refine tA 7 21 (mL 16 2047) HT_ HW_ hHeld rfl rfl (by rintro w' ⟨s0, s1⟩; go_simp; with_reducible rfl) ?_
    refine tA 11 25 (mL 16 4095) HT_ HW_ hHeld rfl rfl (by rintro w' ⟨s0, s1⟩; go_simp; with_reducible rfl) ?_
    refine pA 12 26 (mL 16 8191) HT_ rfl rfl ?_
    refine last_ (i := 13) (N := none) (mL 16 16383) rfl rfl (one_of HT_.out KR) (by decide) (fun K hK => ?_)
    refine skip_ (w1 := ?_) (by rfl) rfl ?_ ?_
    rotate_left
    ·go_simp
     rfl
    refine hK.out _ _ ?_
    clear hK K
    refine pA 14 27 (mL 16 32767) HT_ rfl rfl ?_
    refine last_ (i := 15) (N := none) (mL 16 65535) rfl rfl (one_of HT_.out KR) (by decide) (fun K hK => ?_)
    refine skip_ (w1 := ?_) (by rfl) rfl ?_ ?_
    rotate_left
    ·go_simp
     rfl
    refine hK.out _ _ ?_
    clear hK K
    refine done_ (done_of HT_.out KR) ?_
    try go_wp2
    (try simp only [← hl0_1])
    go_roundg k1
    case measure => have := HK1.out; omega
    case rel => exact ⟨(y347), (wrap64 (x2_1 + 1)), (wrap64 (x3_1 - 1)), TF, TF, H', ⟨TM⟩, ⟨by (try simp only [hl0_1]); (with_reducible repeat (first | apply Kd.R_alloc | apply Kd.R_drewN | apply Kd.R_drew)); exact HQ12.out⟩, ⟨by repeat (first | (with_reducible first | exact HK.out | apply Kept.alloc | apply Kept.drewN | apply Kept.drew | refine Kept.setCell ?_ HMgo8.out _ | refine Kept.setCell ?_ HMgo8.out _) | exact HK.out)⟩, ⟨TB⟩⟩
   ·rw [if_neg c3] at H
    have c3b0 : decide (x2_1 < x3_1) = false := decide_eq_false c3
    clear c3
    obtain rfl := Option.some.inj H
    go_wp2
    first | go_end0 | ((try simp only [Exit.inBlock, Exit.then]); refine bodyPost_ret (results_none rfl _ _ _) rfl ?_)
    exact ⟨TE, (by first | exact (RW HO_0).out | (simp only [hl0_1]; exact (RW HO_0).out)), TB, TK⟩
end
section
/-! ### cmp_isNaN_string: function 222 -/
def cmp_isNaN_string.f (a0 : ByteArray) : Option (Bool) := some (a0.toList != a0.toList)
theorem cmp_isNaN_string.calls (a0 : ByteArray) (r : Bool) (w : World) (h : cmp_isNaN_string.f a0 = some r) :
  Calls Tryz.prog 222 #[.string a0] w fun e w' => e = .returned (.bool r) ∧ Drawn0 w w' := by
 have H : (some (a0.toList != a0.toList)) = some r := h
 clear h
 obtain rfl := Option.some.inj H
 go_enter Tryz.func222, Tryz.ntmps222
 go_wp2
 go_ret
 exact ⟨TF, TN⟩
end
section
/-! ### cmp_Compare_string: function 200 -/
def cmp_Compare_string.f (a0 : ByteArray) (a1 : ByteArray) : Option (Int) := (cmp_isNaN_string.f a0).bind fun t348 => ((cmp_isNaN_string.f a1).bind fun t349 => (if t348 = true then (if t349 = true then (some 0) else (some (-1))) else (if t349 = true then (some 1) else (if (Op.bytesLess a0.toList a1.toList) = true then (some (-1)) else (if a0.toList = a1.toList then (some 0) else (some 1))))))
theorem cmp_Compare_string.calls (a0 : ByteArray) (a1 : ByteArray) (r : Int) (w : World) (h : cmp_Compare_string.f a0 a1 = some r) :
  Calls Tryz.prog 200 #[.string a0, .string a1] w fun e w' => e = .returned (.int .i64 r) ∧ Drawn0 w w' := by
 have H : ((cmp_isNaN_string.f a0).bind fun t348 => ((cmp_isNaN_string.f a1).bind fun t349 => (if t348 = true then (if t349 = true then (some 0) else (some (-1))) else (if t349 = true then (some 1) else (if (Op.bytesLess a0.toList a1.toList) = true then (some (-1)) else (if a0.toList = a1.toList then (some 0) else (some 1))))))) = some r := h
 clear h
 obtain ⟨t348, A3, H⟩ := bnd H
 obtain ⟨t349, A4, H⟩ := bnd H
 by_cases c5 : t348 = true
 ·subst c5
  replace H := ift H
  by_cases c6 : t349 = true
  ·subst c6
   replace H := ift H
   obtain rfl := Option.some.inj H
   go_enter Tryz.func200, Tryz.ntmps200
   go_wp2_with (first | ((with_reducible refine gate_callee (f := 222) rfl ?_); refine goesL_ (some 8) rfl rfl Tryz.func222 KR rfl #[.string a0] rfl TA ?_; (with_reducible refine (cmp_isNaN_string.calls a0 true _ A3.out).mono ?_); rintro e w' ⟨rfl, ⟨nd, rfl⟩⟩; refine ⟨_, rfl, ?_⟩) | ((with_reducible refine gate_callee (f := 222) rfl ?_); refine goesL_ (some 10) rfl rfl Tryz.func222 KR rfl #[.string a1] rfl TA ?_; (with_reducible refine (cmp_isNaN_string.calls a1 true _ A4.out).mono ?_); rintro e w' ⟨rfl, ⟨nd, rfl⟩⟩; refine ⟨_, rfl, ?_⟩))
   go_ret
   exact ⟨TF, TN⟩
  ·replace c6 := Bool.eq_false_iff.mpr c6
   subst c6
   replace H := iff' H
   obtain rfl := Option.some.inj H
   go_enter Tryz.func200, Tryz.ntmps200
   go_wp2_with (first | ((with_reducible refine gate_callee (f := 222) rfl ?_); refine goesL_ (some 8) rfl rfl Tryz.func222 KR rfl #[.string a0] rfl TA ?_; (with_reducible refine (cmp_isNaN_string.calls a0 true _ A3.out).mono ?_); rintro e w' ⟨rfl, ⟨nd, rfl⟩⟩; refine ⟨_, rfl, ?_⟩) | ((with_reducible refine gate_callee (f := 222) rfl ?_); refine goesL_ (some 10) rfl rfl Tryz.func222 KR rfl #[.string a1] rfl TA ?_; (with_reducible refine (cmp_isNaN_string.calls a1 false _ A4.out).mono ?_); rintro e w' ⟨rfl, ⟨nd, rfl⟩⟩; refine ⟨_, rfl, ?_⟩))
   go_ret
   exact ⟨TF, TN⟩
 ·replace c5 := Bool.eq_false_iff.mpr c5
  subst c5
  replace H := iff' H
  by_cases c7 : t349 = true
  ·subst c7
   replace H := ift H
   obtain rfl := Option.some.inj H
   go_enter Tryz.func200, Tryz.ntmps200
   go_wp2_with (first | ((with_reducible refine gate_callee (f := 222) rfl ?_); refine goesL_ (some 8) rfl rfl Tryz.func222 KR rfl #[.string a0] rfl TA ?_; (with_reducible refine (cmp_isNaN_string.calls a0 false _ A3.out).mono ?_); rintro e w' ⟨rfl, ⟨nd, rfl⟩⟩; refine ⟨_, rfl, ?_⟩) | ((with_reducible refine gate_callee (f := 222) rfl ?_); refine goesL_ (some 10) rfl rfl Tryz.func222 KR rfl #[.string a1] rfl TA ?_; (with_reducible refine (cmp_isNaN_string.calls a1 true _ A4.out).mono ?_); rintro e w' ⟨rfl, ⟨nd, rfl⟩⟩; refine ⟨_, rfl, ?_⟩))
   go_ret
   exact ⟨TF, TN⟩
  ·replace c7 := Bool.eq_false_iff.mpr c7
   subst c7
   replace H := iff' H
   by_cases c8 : (Op.bytesLess a0.toList a1.toList) = true
   ·rw [if_pos c8] at H
    have c8b0 : (Op.bytesLess a0.toList a1.toList) = true := c8
    clear c8
    obtain rfl := Option.some.inj H
    go_enter Tryz.func200, Tryz.ntmps200
    go_wp2_with (first | ((with_reducible refine gate_callee (f := 222) rfl ?_); refine goesL_ (some 8) rfl rfl Tryz.func222 KR rfl #[.string a0] rfl TA ?_; (with_reducible refine (cmp_isNaN_string.calls a0 false _ A3.out).mono ?_); rintro e w' ⟨rfl, ⟨nd, rfl⟩⟩; refine ⟨_, rfl, ?_⟩) | ((with_reducible refine gate_callee (f := 222) rfl ?_); refine goesL_ (some 10) rfl rfl Tryz.func222 KR rfl #[.string a1] rfl TA ?_; (with_reducible refine (cmp_isNaN_string.calls a1 false _ A4.out).mono ?_); rintro e w' ⟨rfl, ⟨nd, rfl⟩⟩; refine ⟨_, rfl, ?_⟩))
    go_ret
    exact ⟨TF, TN⟩
   ·rw [if_neg c8] at H
    have c8b0 : (Op.bytesLess a0.toList a1.toList) = false := by simpa using c8
    clear c8
    by_cases c9 : a0.toList = a1.toList
    ·rw [if_pos c9] at H
     have c9b0 : (a0.toList == a1.toList) = true := beq_iff_eq.mpr c9
     have c9b1 : (a0.toList != a1.toList) = false := bne_eq_false_iff_eq.mpr c9
     clear c9
     obtain rfl := Option.some.inj H
     go_enter Tryz.func200, Tryz.ntmps200
     go_wp2_with (first | ((with_reducible refine gate_callee (f := 222) rfl ?_); refine goesL_ (some 8) rfl rfl Tryz.func222 KR rfl #[.string a0] rfl TA ?_; (with_reducible refine (cmp_isNaN_string.calls a0 false _ A3.out).mono ?_); rintro e w' ⟨rfl, ⟨nd, rfl⟩⟩; refine ⟨_, rfl, ?_⟩) | ((with_reducible refine gate_callee (f := 222) rfl ?_); refine goesL_ (some 10) rfl rfl Tryz.func222 KR rfl #[.string a1] rfl TA ?_; (with_reducible refine (cmp_isNaN_string.calls a1 false _ A4.out).mono ?_); rintro e w' ⟨rfl, ⟨nd, rfl⟩⟩; refine ⟨_, rfl, ?_⟩))
     go_ret
     exact ⟨TF, TN⟩
    ·rw [if_neg c9] at H
     have c9b0 : (a0.toList == a1.toList) = false := beq_eq_false_iff_ne.mpr c9
     have c9b1 : (a0.toList != a1.toList) = true := bne_iff_ne.mpr c9
     obtain rfl := Option.some.inj H
     go_enter Tryz.func200, Tryz.ntmps200
     go_wp2_with (first | ((with_reducible refine gate_callee (f := 222) rfl ?_); refine goesL_ (some 8) rfl rfl Tryz.func222 KR rfl #[.string a0] rfl TA ?_; (with_reducible refine (cmp_isNaN_string.calls a0 false _ A3.out).mono ?_); rintro e w' ⟨rfl, ⟨nd, rfl⟩⟩; refine ⟨_, rfl, ?_⟩) | ((with_reducible refine gate_callee (f := 222) rfl ?_); refine goesL_ (some 10) rfl rfl Tryz.func222 KR rfl #[.string a1] rfl TA ?_; (with_reducible refine (cmp_isNaN_string.calls a1 false _ A4.out).mono ?_); rintro e w' ⟨rfl, ⟨nd, rfl⟩⟩; refine ⟨_, rfl, ?_⟩))
     go_ret
     exact ⟨TF, TN⟩
end
end Go.Proofs.YthohohfmdieohaaGreatDoor.Pp
