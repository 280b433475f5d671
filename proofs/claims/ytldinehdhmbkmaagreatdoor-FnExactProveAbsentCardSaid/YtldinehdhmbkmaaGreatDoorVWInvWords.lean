/- Words of the kit's print,written by it for this seat;what this claim does not name is left out. -/
import Derived.Test.YtldinehdhmbkmaaGreatDoorVWInv
import Derived.Test.YtldinehdhmbkmaaGreatDoorVWFootNe
namespace Go.Proofs.YtldinehdhmbkmaaGreatDoorW.PrintWords
open Go.RowKit
end Go.Proofs.YtldinehdhmbkmaaGreatDoorW.PrintWords
namespace Go.Proofs.YtldinehdhmbkmaaGreatDoorW.PrintLast
section
variable {ops:Array Oper} {a:Act} {o og:Oper} {g:Nat} {t:Tmp} {u:Bool}
end
end Go.Proofs.YtldinehdhmbkmaaGreatDoorW.PrintLast
