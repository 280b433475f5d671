-- By pp.py, a program of this workplace (wip/pp), out of the translation.
import Derived.Test.YthckpgglghfiiaaDoorRows
import Derived.Test.YthckpgglghfiiaaDoorJFnExactUpIn0
import Derived.Test.YthckpgglghfiiaaDoorJFnExactUpIn1
import Derived.Test.YthckpgglghfiiaaDoorJFnExactUpIn2
import Derived.Test.YthckpgglghfiiaaDoorJFnExactUpIn3
import Derived.Test.YthckpgglghfiiaaDoorZPureFnExactUpIn
import Derived.Test.YthckpgglghfiiaaDoorZXRow
import Derived.Test.YthckpgglghfiiaaDoorTie
import Derived.Test.YthckpgglghfiiaaDoorCards
import Derived.WalkKit
import Derived.ProofKit
import Derived.OpenShut
import Derived.ShutString
import Derived.ChangeOld
import Derived.Below
import Derived.SizedLaws
import Derived.Carry
import Derived.LaidMore
import Derived.Lay
import Derived.SevenTiedAt
import Derived.Stop.Joined
namespace Go.Proofs.YthckpgglghfiiaaDoor.fnExactUpIn
open Go.ChangeShapes Go.WideShapes Go.ChangeAt Go.RowKit Go.Proofs.YthckpgglghfiiaaDoor.PR Go.Proofs.YthckpgglghfiiaaDoor.Pp Go.Proofs.YthckpgglghfiiaaDoorW.PrintWords
open Go.ChangeMaps (open_string shut_string)
set_option linter.unusedVariables false
theorem own : ownKnob Tryd.prog.godebug = none := by kernel_rfl
theorem laidOut : laidOutB Tryd.prog = true := by kernel_rfl
theorem opn_LHost : Opn Tryd.prog 106 k_LHost WF_LHost := Opn.struct (fun a => (⟨a.1, a.2.1, a.2.2⟩ : S_LHost)) Tryd.underlying106 rfl (by kernel_rfl) (by kernel_rfl) (Sg.cons (Opn.string Tryd.underlying9 (by kernel_rfl)) (Sg.cons (Opn.bool Tryd.underlying4 (by kernel_rfl)) (Sg.one (Opn.int Tryd.underlying3 (by kernel_rfl))))) (fun _ => rfl)
theorem opn24 : Opn Tryd.prog 24 k24 WF24 := Opn.struct (fun a => (⟨a.1, a.2.1, a.2.2⟩ : S24)) Tryd.underlying24 rfl (by kernel_rfl) (by kernel_rfl) (Sg.cons (Opn.int Tryd.underlying3 (by kernel_rfl)) (Sg.cons (Opn.int Tryd.underlying3 (by kernel_rfl)) (Sg.one (Opn.slice Tryd.underlying22 (by kernel_rfl) opn_LHost)))) (fun _ => rfl)
set_option maxRecDepth 100000 in
theorem lifted (os : Os) (started : os.Started) (H : Type) (enc : TypeId × Value → H) :
    ReturnsInHanded {} Tryd.checked os 8 .any (fun w args => (Rows.fnExactUpInSpec.pre enc Tryd.prog Tryd.f8 Rows.fnExactUpInRow.domain false w args ∧ laidMetH Tryd.prog Rows.fnExactUpInRow.laid w) ∧ sizedMet enc Tryd.prog Tryd.f8 (OpenSpec.ofChange Rows.fnExactUpInSpec) false w args) (Rows.fnExactUpInSpec.post enc Tryd.prog Tryd.f8 false true false false) := by
  refine returnsInHanded_of_change_and (C := Tryd.checked) (X := fun w _ => laidMetH Tryd.prog Rows.fnExactUpInRow.laid w) (fun _ _ _ hh h => h.of_heap hh) own started (by kernel_rfl) Tryd.func8
    (ChangeSpec.witness_shaped (enc := enc) (C := Tryd.checked) (os := os) (X := fun w _ => laidMetH Tryd.prog Rows.fnExactUpInRow.laid w) false (World.laidAll Tryd.prog os Rows.fnExactUpInRow.laid) #[.agg #[.int .i64 0, .int .i64 0, .slice none 0 0]] 8 (World.laidAll_os _ _ _)
      (World.shaped_of_ZipB (by kernel_rfl) (by kernel_rfl)) (by kernel_rfl) (by kernel_rfl) (by kernel_rfl)
      (by rw [MakeChecks.laidMetH_plain _ _ _ (by kernel_rfl)]; exact laidMet_laidAll _ (by kernel_rfl) (by kernel_rfl))) ?_
  intro W base args ds gs before hval0 hW hcnd hsz0 hL _
  have hval : ∀ (j : Nat) t v, Tryd.f8.params[j]? = some t → args[j]? = some v → Value.okWide Tryd.prog W .any base t v := hval0
  have hW' := hW
  obtain ⟨p, q, hA0, hV, rfl, hfz, hnd⟩ := hW
  have hA : DataW.TrodAll enc Tryd.prog W 0 (fun _ => true) true Tryd.f8.params.toList args.toList ds p := hA0
  rw [Tryd.params8] at hA hval
  obtain ⟨v0, vs0, d0, ds0, p0, q0, hargs, rfl, rfl, h0, r0⟩ := trodAll_cons hA
  obtain ⟨rfl, rfl, rfl⟩ := trodAll_nil r0
  obtain rfl : args = #[v0] := by cases args; simp_all
  obtain ⟨rfl, rfl⟩ := trodVars_none hV
  have k0 := h0
  have lt0 : ∀ x ∈ p0, x.block < W.heap.size := by obtain ⟨m, hm⟩ := k0; exact DataW.trod_lt m _ _ _ hm
  obtain ⟨cs0, s0, rfl, hK0, w0⟩ := Opn.value opn24 Tryd.underlying24 (hval 0 24 v0 rfl rfl) h0
  obtain ⟨A0_2, c0_2, e0, hc0_2, hr0_2⟩ := k24_open hK0
  obtain rfl : cs0 = #[.int .i64 s0.f0, .int .i64 s0.f1, .slice A0_2 s0.f2.length c0_2] := by cases cs0; simp only [Value.cells] at e0; subst e0; rfl
  clear hA0 hval0 hsz0
  obtain ⟨k, hk⟩ := Pure.FnExactUpIn s0.f0 s0.f1 s0.f2 w0.1 w0.2.1 w0.2.2
  refine (Pp.laws_FnExactUpIn.calls k s0.f0 s0.f1 A0_2 c0_2 s0.f2 true W hr0_2 hc0_2 hk).mono fun e W' hh => ?_
  obtain ⟨he, bel0⟩ := hh
  have bel : Below W.heap.size W W' := bel0
  subst he
  exact ⟨_, rfl, _, _, _, [], _, [], hW', trodAll_mk1 (shut_bool Tryd.underlying4 _), (trodAll_cons_mk (Below.trod laidOut (by kernel_rfl) (of_decide_eq_true (by kernel_rfl)) k0 bel lt0) trodAll_mk0), rfl, bel.frame _, fun h => by cases h⟩
theorem over : Rows.fnExactUpInRow.holds Tryd.pinned (OpenSpec.ofChange Rows.fnExactUpInSpec) :=
  OpenClaim.holds_of_wide 8 Tryd.f8 rfl rfl rfl rfl rfl rfl rfl ⟨rfl, rfl, rfl, rfl, rfl⟩ rfl rfl rfl rfl rfl (by kernel_rfl) Tryd.func8 (by kernel_rfl)
    (of_decide_eq_true (by kernel_rfl)) (by unfold Func.isWrapper; first | (rw [if_pos (by decide +kernel)]; kernel_rfl) | (rw [if_neg (by decide +kernel)]; exact ⟨rfl, rfl⟩))
    (fun os started H enc _ => lifted os started H enc)
theorem proved : Rows.FnExactUpInCardSaid :=
  Claim7.holds_tied_plain_at .later [] [.data, .pinned] true (true, "cb87c1219d048ddf424901ebcd42e702b31b9f379267189f2eac78d926a7f856") false over (fun _ h => by cases h) (by kernel_rfl) (fun _ h => by cases h) fnExactUpIn_row_tie rfl ⟨rfl, rfl⟩ (by kernel_rfl) rfl
    (fun f fn hf hfn => by
      obtain rfl : f = 8 := Option.some.inj ((show Tryd.prog.funcNamed "loop.example/g00300/laws.FnExactUpIn" = some 8 by kernel_rfl).symm.trans hf) |>.symm
      obtain rfl : fn = Tryd.f8 := (Option.some.inj (Tryd.func8.symm.trans hfn)).symm
      exact ⟨by kernel_rfl, fun j t ht => by
        rw [Tryd.params8] at ht
        have hm : t ∈ [24] := by simpa using Array.mem_of_getElem? ht
        have hall : ([24].all fun u => !Tryd.prog.wantsStandIn u) = true := by kernel_rfl
        exact (show Tryd.prog.wantsStandIn t = false by simpa using List.all_eq_true.1 hall t hm)⟩)
    (by kernel_rfl)
#print axioms proved
end Go.Proofs.YthckpgglghfiiaaDoor.fnExactUpIn
namespace Go.Proofs.YthckpgglghfiiaaDoor
/-- The row, under a short name, for the claim. -/
theorem fnExactUpIn_holds : Rows.FnExactUpInCardSaid := fnExactUpIn.proved
end Go.Proofs.YthckpgglghfiiaaDoor
