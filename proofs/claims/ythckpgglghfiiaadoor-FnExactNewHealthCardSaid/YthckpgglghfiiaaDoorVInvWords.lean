/- Words of the kit's print, written by it for this seat; what this claim does not name is left out. -/
import Derived.Test.YthckpgglghfiiaaDoorVInv
import Derived.Test.YthckpgglghfiiaaDoorVFootNe
namespace Go.Proofs.YthckpgglghfiiaaDoorW.PrintWords
open Go.RowKit
end Go.Proofs.YthckpgglghfiiaaDoorW.PrintWords
namespace Go.Proofs.YthckpgglghfiiaaDoorW.PrintLast
section
variable {ops : Array Oper} {a : Act} {o og : Oper} {g : Nat} {t : Tmp} {u : Bool}
end
end Go.Proofs.YthckpgglghfiiaaDoorW.PrintLast
