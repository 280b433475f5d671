-- By pp.py, a program of this workplace (wip/pp), out of the translation.
import Derived.Test.YtioeomjjfajldaaRows
import Derived.Test.YtioeomjjfajldaaJFnExactGoodAlias0
import Derived.Test.YtioeomjjfajldaaZPureFnExactGoodAlias
import Derived.Test.YtioeomjjfajldaaXRow
import Derived.WalkKit
import Derived.ProofKit
import Derived.OpenShut
import Derived.ShutString
import Derived.ChangeOld
import Derived.Below
import Derived.SizedLaws
import Derived.Carry
namespace Go.Proofs.Ytioeomjjfajldaa.fnExactGoodAlias
open Go.ChangeShapes Go.WideShapes Go.ChangeAt Go.RowKit Go.Proofs.Ytioeomjjfajldaa.PR Go.Proofs.Ytioeomjjfajldaa.Pp Go.Proofs.YtioeomjjfajldaaW.PrintWords
open Go.ChangeMaps (open_string shut_string)
set_option linter.unusedVariables false
theorem own : ownKnob Try.prog.godebug = none := by kernel_rfl
theorem laidOut : laidOutB Try.prog = true := by kernel_rfl
theorem opn_LColumn : Opn Try.prog 80 k_LColumn WF_LColumn := Opn.struct (fun a => (⟨a.1, a.2⟩ : S_LColumn)) Try.underlying80 rfl (by kernel_rfl) (by kernel_rfl) (Sg.cons (Opn.int Try.underlying3 (by kernel_rfl)) (Sg.one (Opn.int Try.underlying3 (by kernel_rfl)))) (fun _ => rfl)
set_option maxRecDepth 100000 in
theorem lifted (os : Os) (started : os.Started) (H : Type) (enc : TypeId × Value → H) :
    ReturnsInHanded {} Try.checked os 4 .any (Rows.fnExactGoodAliasSpec.pre6 enc Try.prog Try.f4 Rows.fnExactGoodAliasRow.domain false) (Rows.fnExactGoodAliasSpec.post enc Try.prog Try.f4 false true false false) := by
  refine returnsInHanded_of_change_sized (C := Try.checked) own started (by kernel_rfl) Try.func4
    (ChangeSpec.witness6 (enc := enc) (C := Try.checked) false ⟨#[], #[.slice none 0 0], []⟩ 8 (by kernel_rfl) (by kernel_rfl) (by kernel_rfl) (by kernel_rfl)) ?_
  intro W base args ds gs before hval0 hW hcnd hsz0 _
  have hval : ∀ (j : Nat) t v, Try.f4.params[j]? = some t → args[j]? = some v → Value.okWide Try.prog W .any base t v := hval0
  have hW' := hW
  obtain ⟨p, q, hA0, hV, rfl, hfz, hnd⟩ := hW
  have hA : DataW.TrodAll enc Try.prog W 0 (fun _ => true) true Try.f4.params.toList args.toList ds p := hA0
  rw [Try.params4] at hA hval
  obtain ⟨v0, vs0, d0, ds0, p0, q0, hargs, rfl, rfl, h0, r0⟩ := trodAll_cons hA
  obtain ⟨rfl, rfl, rfl⟩ := trodAll_nil r0
  obtain rfl : args = #[v0] := by cases args; simp_all
  obtain ⟨rfl, rfl⟩ := trodVars_none hV
  have k0 := h0
  have lt0 : ∀ x ∈ p0, x.block < W.heap.size := by obtain ⟨m, hm⟩ := k0; exact DataW.trod_lt m _ _ _ hm
  obtain ⟨A0, c0, l0, rfl, hc0, hr0, w0⟩ := Opn.slice_value (Opn.slice Try.underlying26 (by kernel_rfl) opn_LColumn) Try.underlying26 (hval 0 26 v0 rfl rfl) h0
  clear hA0 hval0 hsz0
  obtain ⟨k, hk⟩ := Pure.FnExactGoodAlias l0 w0
  refine (Pp.laws_FnExactGoodAlias.calls k A0 c0 l0 true W hr0 hc0 hk).mono fun e W' hh => ?_
  obtain ⟨he, bel0⟩ := hh
  have bel : Below W.heap.size W W' := bel0
  subst he
  exact ⟨_, rfl, _, _, _, [], _, [], hW', trodAll_mk1 (shut_bool Try.underlying4 _), (trodAll_cons_mk (Below.trod laidOut (by kernel_rfl) (of_decide_eq_true (by kernel_rfl)) k0 bel lt0) trodAll_mk0), rfl, bel.frame _, fun h => by cases h⟩
theorem over : Rows.fnExactGoodAliasRow.holds Try.pinned (OpenSpec.ofChange Rows.fnExactGoodAliasSpec) :=
  OpenClaim.holds_of_wide 4 Try.f4 rfl rfl rfl rfl rfl rfl rfl ⟨rfl, rfl, rfl, rfl, rfl⟩ rfl rfl rfl rfl rfl (by kernel_rfl) Try.func4 (by kernel_rfl)
    (of_decide_eq_true (by kernel_rfl)) (by unfold Func.isWrapper; first | (rw [if_pos (by decide +kernel)]; kernel_rfl) | (rw [if_neg (by decide +kernel)]; exact ⟨rfl, rfl⟩))
    (fun os started H enc _ => lifted os started H enc)
theorem proved : Rows.FnExactGoodAliasSaid := over
#print axioms proved
end Go.Proofs.Ytioeomjjfajldaa.fnExactGoodAlias
namespace Go.Proofs.Ytioeomjjfajldaa
/-- The row, under a short name, for the claim. -/
theorem fnExactGoodAlias_holds : Rows.FnExactGoodAliasSaid := fnExactGoodAlias.proved
end Go.Proofs.Ytioeomjjfajldaa
