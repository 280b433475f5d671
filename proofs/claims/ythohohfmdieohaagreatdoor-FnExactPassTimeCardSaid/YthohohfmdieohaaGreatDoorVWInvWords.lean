/- Words of the kit's print,written by it for this seat;what this claim does not name is left out. -/
import Derived.Test.YthohohfmdieohaaGreatDoorVWInv
import Derived.Test.YthohohfmdieohaaGreatDoorVWFootNe
namespace Go.Proofs.YthohohfmdieohaaGreatDoorW.PrintWords
open Go.RowKit
end Go.Proofs.YthohohfmdieohaaGreatDoorW.PrintWords
namespace Go.Proofs.YthohohfmdieohaaGreatDoorW.PrintLast
section
variable {ops:Array Oper} {a:Act} {o og:Oper} {g:Nat} {t:Tmp} {u:Bool}
end
end Go.Proofs.YthohohfmdieohaaGreatDoorW.PrintLast
