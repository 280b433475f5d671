-- By pp.py, a program of this workplace (wip/pp), out of the translation.
import Derived.Test.YthckpgglghfiiaaDoorRows
import Derived.Test.YthckpgglghfiiaaDoorJFnExactGoodGaps0
import Derived.Test.YthckpgglghfiiaaDoorJFnExactGoodGaps1
import Derived.Test.YthckpgglghfiiaaDoorKFnExactGoodGapsP
import Derived.Test.YthckpgglghfiiaaDoorXRow
import Derived.Test.YthckpgglghfiiaaDoorTie
import Derived.Test.YthckpgglghfiiaaDoorCards
import Derived.WalkKit
import Derived.ProofKit
import Derived.OpenShut
import Derived.ShutString
import Derived.ChangeOld
import Derived.Below
import Derived.SizedLaws
import Derived.Carry
import Derived.LaidMore
import Derived.Lay
import Derived.SevenTiedAt
import Derived.Stop.Joined
namespace Go.Proofs.YthckpgglghfiiaaDoor.fnExactGoodGaps
open Go.ChangeShapes Go.WideShapes Go.ChangeAt Go.RowKit Go.Proofs.YthckpgglghfiiaaDoor.PR Go.Proofs.YthckpgglghfiiaaDoor.Pp Go.Proofs.YthckpgglghfiiaaDoorW.PrintWords
open Go.ChangeMaps (open_string shut_string)
set_option linter.unusedVariables false
theorem own : ownKnob Tryd.prog.godebug = none := by kernel_rfl
theorem laidOut : laidOutB Tryd.prog = true := by kernel_rfl
theorem opn_LGap : Opn Tryd.prog 41 k_LGap WF_LGap := Opn.struct (fun a => (⟨a.1, a.2.1, a.2.2⟩ : S_LGap)) Tryd.underlying41 rfl (by kernel_rfl) (by kernel_rfl) (Sg.cons (Opn.string Tryd.underlying9 (by kernel_rfl)) (Sg.cons (Opn.string Tryd.underlying9 (by kernel_rfl)) (Sg.one (Opn.slice Tryd.underlying39 (by kernel_rfl) (Opn.int Tryd.underlying3 (by kernel_rfl)))))) (fun _ => rfl)
set_option maxRecDepth 100000 in
theorem lifted (os : Os) (started : os.Started) (H : Type) (enc : TypeId × Value → H) :
    ReturnsInHanded {} Tryd.checked os 9 .any (fun w args => (Rows.fnExactGoodGapsSpec.pre enc Tryd.prog Tryd.f9 Rows.fnExactGoodGapsRow.domain false w args ∧ laidMetH Tryd.prog Rows.fnExactGoodGapsRow.laid w) ∧ sizedMet enc Tryd.prog Tryd.f9 (OpenSpec.ofChange Rows.fnExactGoodGapsSpec) false w args) (Rows.fnExactGoodGapsSpec.post enc Tryd.prog Tryd.f9 false true false false) := by
  refine returnsInHanded_of_change_and (C := Tryd.checked) (X := fun w _ => laidMetH Tryd.prog Rows.fnExactGoodGapsRow.laid w) (fun _ _ _ hh h => h.of_heap hh) own started (by kernel_rfl) Tryd.func9
    (ChangeSpec.witness_shaped (enc := enc) (C := Tryd.checked) (os := os) (X := fun w _ => laidMetH Tryd.prog Rows.fnExactGoodGapsRow.laid w) false (World.laidAll Tryd.prog os Rows.fnExactGoodGapsRow.laid) #[.string ByteArray.empty, .slice none 0 0] 8 (World.laidAll_os _ _ _)
      (World.shaped_of_ZipB (by kernel_rfl) (by kernel_rfl)) (by kernel_rfl) (by kernel_rfl) (by kernel_rfl)
      (by rw [MakeChecks.laidMetH_plain _ _ _ (by kernel_rfl)]; exact laidMet_laidAll _ (by kernel_rfl) (by kernel_rfl))) ?_
  intro W base args ds gs before hval0 hW hcnd hsz0 hL _
  have hval : ∀ (j : Nat) t v, Tryd.f9.params[j]? = some t → args[j]? = some v → Value.okWide Tryd.prog W .any base t v := hval0
  have hW' := hW
  obtain ⟨p, q, hA0, hV, rfl, hfz, hnd⟩ := hW
  have hA : DataW.TrodAll enc Tryd.prog W 0 (fun _ => true) true Tryd.f9.params.toList args.toList ds p := hA0
  rw [Tryd.params9] at hA hval
  obtain ⟨v0, vs0, d0, ds0, p0, q0, hargs, rfl, rfl, h0, r0⟩ := trodAll_cons hA
  obtain ⟨v1, vs1, d1, ds1, p1, q1, rfl, rfl, rfl, h1, r1⟩ := trodAll_cons r0
  obtain ⟨rfl, rfl, rfl⟩ := trodAll_nil r1
  obtain rfl : args = #[v0, v1] := by cases args; simp_all
  obtain ⟨rfl, rfl⟩ := trodVars_none hV
  obtain ⟨a0, rfl, rfl, rfl, y0⟩ := open_string Tryd.underlying9 (hval 0 9 v0 rfl rfl) h0
  have k1 := h1
  have lt1 : ∀ x ∈ p1, x.block < W.heap.size := by obtain ⟨m, hm⟩ := k1; exact DataW.trod_lt m _ _ _ hm
  obtain ⟨A1, c1, l1, rfl, hc1, hr1, w1⟩ := Opn.slice_value (Opn.slice Tryd.underlying58 (by kernel_rfl) opn_LGap) Tryd.underlying58 (hval 1 58 v1 rfl rfl) h1
  clear hA0 hval0 hsz0
  obtain ⟨k, hk⟩ := Pure.FnExactGoodGaps a0 l1 y0 w1
  refine (Pp.laws_FnExactGoodGaps.calls k a0 A1 c1 l1 true W hr1 hc1 hk).mono fun e W' hh => ?_
  obtain ⟨he, bel0⟩ := hh
  have bel : Below W.heap.size W W' := bel0
  subst he
  exact ⟨_, rfl, _, _, _, [], _, [], hW', trodAll_mk1 (shut_bool Tryd.underlying4 _), (trodAll_cons_mk (shut_string Tryd.underlying9 y0) (trodAll_cons_mk (Below.trod laidOut (by kernel_rfl) (of_decide_eq_true (by kernel_rfl)) k1 bel lt1) trodAll_mk0)), rfl, bel.frame _, fun h => by cases h⟩
theorem over : Rows.fnExactGoodGapsRow.holds Tryd.pinned (OpenSpec.ofChange Rows.fnExactGoodGapsSpec) :=
  OpenClaim.holds_of_wide 9 Tryd.f9 rfl rfl rfl rfl rfl rfl rfl ⟨rfl, rfl, rfl, rfl, rfl⟩ rfl rfl rfl rfl rfl (by kernel_rfl) Tryd.func9 (by kernel_rfl)
    (of_decide_eq_true (by kernel_rfl)) (by unfold Func.isWrapper; first | (rw [if_pos (by decide +kernel)]; kernel_rfl) | (rw [if_neg (by decide +kernel)]; exact ⟨rfl, rfl⟩))
    (fun os started H enc _ => lifted os started H enc)
theorem proved : Rows.FnExactGoodGapsCardSaid :=
  Claim7.holds_tied_plain_at .later [] [.data, .pinned] true (true, "cb87c1219d048ddf424901ebcd42e702b31b9f379267189f2eac78d926a7f856") false over (fun _ h => by cases h) (by kernel_rfl) (fun _ h => by cases h) fnExactGoodGaps_row_tie rfl ⟨rfl, rfl⟩ (by kernel_rfl) rfl
    (fun f fn hf hfn => by
      obtain rfl : f = 9 := Option.some.inj ((show Tryd.prog.funcNamed "loop.example/g00300/laws.FnExactGoodGaps" = some 9 by kernel_rfl).symm.trans hf) |>.symm
      obtain rfl : fn = Tryd.f9 := (Option.some.inj (Tryd.func9.symm.trans hfn)).symm
      exact ⟨by kernel_rfl, fun j t ht => by
        rw [Tryd.params9] at ht
        have hm : t ∈ [9, 58] := by simpa using Array.mem_of_getElem? ht
        have hall : ([9, 58].all fun u => !Tryd.prog.wantsStandIn u) = true := by kernel_rfl
        exact (show Tryd.prog.wantsStandIn t = false by simpa using List.all_eq_true.1 hall t hm)⟩)
    (by kernel_rfl)
#print axioms proved
end Go.Proofs.YthckpgglghfiiaaDoor.fnExactGoodGaps
namespace Go.Proofs.YthckpgglghfiiaaDoor
/-- The row, under a short name, for the claim. -/
theorem fnExactGoodGaps_holds : Rows.FnExactGoodGapsCardSaid := fnExactGoodGaps.proved
end Go.Proofs.YthckpgglghfiiaaDoor
