/- Words of the kit's print,written by it for this seat;what this claim does not name is left out. -/
import Derived.Test.YthohohfmdieohaaGreatDoorVWLast
import Derived.Test.YthohohfmdieohaaGreatDoorVWMore
import Derived.WalkSpells
import Derived.Lib.SliceRun
import Derived.Laws.Cover1
set_option linter.unusedVariables false
namespace Go.Proofs.YthohohfmdieohaaGreatDoorW.PrintLast
open Go.RowKit
section
variable {P:Program} {ops:Array Oper} {Q:Exit→Act→World→Prop}
end
end Go.Proofs.YthohohfmdieohaaGreatDoorW.PrintLast
namespace Go.Proofs.YthohohfmdieohaaGreatDoorW.PrintLast
open Go.Proofs.YthohohfmdieohaaGreatDoorW.PrintWords
theorem Kd.C_none_nil {α:Type} {d:Kd α} {w:World} {n:Nat} {xs:List α} (h:d.C w none n xs):xs=[]:=by
  obtain⟨h1,h2,h3⟩:=h
  cases n with
  | zero=>exact List.eq_nil_of_length_eq_zero h1
  | succ n =>
    obtain⟨ad,e,_⟩:=h3 (Nat.succ_pos n)
    cases e
end Go.Proofs.YthohohfmdieohaaGreatDoorW.PrintLast
