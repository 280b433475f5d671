-- By pp.py, a program of this workplace (wip/pp), out of the translation.
import Derived.Test.YtioeomjjfajldaaRows
import Derived.Test.YtioeomjjfajldaaJFnExactNextTurn0
import Derived.Test.YtioeomjjfajldaaJFnExactNextTurn1
import Derived.Test.YtioeomjjfajldaaZPureFnExactNextTurn
import Derived.Test.YtioeomjjfajldaaXRow
import Derived.WalkKit
import Derived.ProofKit
import Derived.OpenShut
import Derived.ShutString
import Derived.ChangeOld
import Derived.Below
import Derived.SizedLaws
import Derived.Carry
namespace Go.Proofs.Ytioeomjjfajldaa.fnExactNextTurn
open Go.ChangeShapes Go.WideShapes Go.ChangeAt Go.RowKit Go.Proofs.Ytioeomjjfajldaa.PR Go.Proofs.Ytioeomjjfajldaa.Pp Go.Proofs.YtioeomjjfajldaaW.PrintWords
open Go.ChangeMaps (open_string shut_string)
set_option linter.unusedVariables false
theorem own : ownKnob Try.prog.godebug = none := by kernel_rfl
theorem laidOut : laidOutB Try.prog = true := by kernel_rfl
theorem opn_LTurn : Opn Try.prog 37 k_LTurn WF_LTurn := Opn.struct (fun a => (⟨a.1, a.2⟩ : S_LTurn)) Try.underlying37 rfl (by kernel_rfl) (by kernel_rfl) (Sg.cons (Opn.slice Try.underlying22 (by kernel_rfl) (Opn.int Try.underlying3 (by kernel_rfl))) (Sg.one (Opn.slice Try.underlying22 (by kernel_rfl) (Opn.int Try.underlying3 (by kernel_rfl))))) (fun _ => rfl)
set_option maxRecDepth 100000 in
theorem lifted (os : Os) (started : os.Started) (H : Type) (enc : TypeId × Value → H) :
    ReturnsInHanded {} Try.checked os 11 .any (Rows.fnExactNextTurnSpec.pre6 enc Try.prog Try.f11 Rows.fnExactNextTurnRow.domain false) (Rows.fnExactNextTurnSpec.post enc Try.prog Try.f11 false true false false) := by
  refine returnsInHanded_of_change_sized (C := Try.checked) own started (by kernel_rfl) Try.func11
    (ChangeSpec.witness6 (enc := enc) (C := Try.checked) false ⟨#[], #[.agg #[.slice none 0 0, .slice none 0 0]], []⟩ 8 (by kernel_rfl) (by kernel_rfl) (by kernel_rfl) (by kernel_rfl)) ?_
  intro W base args ds gs before hval0 hW hcnd hsz0 _
  have hval : ∀ (j : Nat) t v, Try.f11.params[j]? = some t → args[j]? = some v → Value.okWide Try.prog W .any base t v := hval0
  have hW' := hW
  obtain ⟨p, q, hA0, hV, rfl, hfz, hnd⟩ := hW
  have hA : DataW.TrodAll enc Try.prog W 0 (fun _ => true) true Try.f11.params.toList args.toList ds p := hA0
  rw [Try.params11] at hA hval
  obtain ⟨v0, vs0, d0, ds0, p0, q0, hargs, rfl, rfl, h0, r0⟩ := trodAll_cons hA
  obtain ⟨rfl, rfl, rfl⟩ := trodAll_nil r0
  obtain rfl : args = #[v0] := by cases args; simp_all
  obtain ⟨rfl, rfl⟩ := trodVars_none hV
  have k0 := h0
  have lt0 : ∀ x ∈ p0, x.block < W.heap.size := by obtain ⟨m, hm⟩ := k0; exact DataW.trod_lt m _ _ _ hm
  obtain ⟨cs0, s0, rfl, hK0, w0⟩ := Opn.value opn_LTurn Try.underlying37 (hval 0 37 v0 rfl rfl) h0
  obtain ⟨A0_0, c0_0, A0_1, c0_1, e0, hc0_0, hr0_0, hc0_1, hr0_1⟩ := k_LTurn_open hK0
  obtain rfl : cs0 = #[.slice A0_0 s0.f0.length c0_0, .slice A0_1 s0.f1.length c0_1] := by cases cs0; simp only [Value.cells] at e0; subst e0; rfl
  clear hA0 hval0 hsz0
  obtain ⟨k, hk⟩ := Pure.FnExactNextTurn s0.f0 s0.f1 w0.1 w0.2
  refine (Pp.laws_FnExactNextTurn.calls k A0_0 c0_0 s0.f0 A0_1 c0_1 s0.f1 true W hr0_0 hc0_0 hr0_1 hc0_1 hk).mono fun e W' hh => ?_
  obtain ⟨he, bel0⟩ := hh
  have bel : Below W.heap.size W W' := bel0
  subst he
  exact ⟨_, rfl, _, _, _, [], _, [], hW', trodAll_mk1 (shut_bool Try.underlying4 _), (trodAll_cons_mk (Below.trod laidOut (by kernel_rfl) (of_decide_eq_true (by kernel_rfl)) k0 bel lt0) trodAll_mk0), rfl, bel.frame _, fun h => by cases h⟩
theorem over : Rows.fnExactNextTurnRow.holds Try.pinned (OpenSpec.ofChange Rows.fnExactNextTurnSpec) :=
  OpenClaim.holds_of_wide 11 Try.f11 rfl rfl rfl rfl rfl rfl rfl ⟨rfl, rfl, rfl, rfl, rfl⟩ rfl rfl rfl rfl rfl (by kernel_rfl) Try.func11 (by kernel_rfl)
    (of_decide_eq_true (by kernel_rfl)) (by unfold Func.isWrapper; first | (rw [if_pos (by decide +kernel)]; kernel_rfl) | (rw [if_neg (by decide +kernel)]; exact ⟨rfl, rfl⟩))
    (fun os started H enc _ => lifted os started H enc)
theorem proved : Rows.FnExactNextTurnSaid := over
#print axioms proved
end Go.Proofs.Ytioeomjjfajldaa.fnExactNextTurn
namespace Go.Proofs.Ytioeomjjfajldaa
/-- The row, under a short name, for the claim. -/
theorem fnExactNextTurn_holds : Rows.FnExactNextTurnSaid := fnExactNextTurn.proved
end Go.Proofs.Ytioeomjjfajldaa
