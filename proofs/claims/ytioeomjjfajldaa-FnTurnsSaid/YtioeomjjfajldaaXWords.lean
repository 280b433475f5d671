/- Words of this workplace beside the print's: a call through a slot that holds a function value. -/
import Derived.Test.YtioeomjjfajldaaWLast
import Derived.Test.YtioeomjjfajldaaWMore
import Derived.WalkSpells
import Derived.Lib.SliceRun
import Derived.Laws.Cover1
set_option linter.unusedVariables false
namespace Go.Proofs.YtioeomjjfajldaaW.PrintLast
open Go.RowKit
section
variable {P : Program} {ops : Array Oper} {Q : Exit → Act → World → Prop}
theorem gate_calleeT {rest : List Oper} {o : Oper} {a : Act} {W : World} {t : Tmp} {as : Array Operand} {ts : Array TypeId} (_ho : o.op = .call { callee := .value (.tmp t), args := as, argTypes := ts }) (h : wpList P ops Q (o :: rest) a W) : wpList P ops Q (o :: rest) a W := h
theorem goesT_ {rest : List Oper} {oi : Oper} {a : Act} {w : World} (N : Option Tmp) (hd : oi.dst = N) (hg : oi.guard = none) {t : Tmp} {f : FuncId} {fn : Func} {lb : Array Value} {as : Array Operand} {ts : Array TypeId} (hv : a.eval (.tmp t) = .func (.func f) #[] lb) (hf : P.funcs[f]? = some fn) (hname : (fn.name == "runtime.NumGoroutine") = false) (hb : fn.body.isSome = true) (args : Array Value)
    (hop : oi.op = .call { callee := .value (.tmp t), args := as, argTypes := ts }) (hargs : as.map a.eval ++ lb = args)
    (h : Calls P f args w fun e w' => ∃ v, e = .returned v ∧ wpList P ops Q rest (a.put N v) w') : wpList P ops Q (oi :: rest) a w := by
  refine wpList_plain hg fun K hK => ?_
  have he := enters_ hf hname hb args w
  have hrun : (execOp a.eval oi).run P w = .ok (.enter f args) w := by
    unfold execOp
    simp [hop, resolve, Deferred.ofValue, invoke, hv, hargs, he]
  unfold Oper.wp
  rw [hrun, Oper.upon_enter]
  refine h.mono fun e w'' hh => ?_
  obtain ⟨v, rfl, hk⟩ := hh
  subst hd
  exact hK _ _ hk
end
end Go.Proofs.YtioeomjjfajldaaW.PrintLast
namespace Go.Proofs.YtioeomjjfajldaaW.PrintLast
open Go.Proofs.YtioeomjjfajldaaW.PrintWords
theorem Kd.C_none_nil {α : Type} {d : Kd α} {w : World} {n : Nat} {xs : List α} (h : d.C w none n xs) : xs = [] := by
  obtain ⟨h1, h2, h3⟩ := h
  cases n with
  | zero => exact List.eq_nil_of_length_eq_zero h1
  | succ n =>
    obtain ⟨ad, e, _⟩ := h3 (Nat.succ_pos n)
    cases e
end Go.Proofs.YtioeomjjfajldaaW.PrintLast
