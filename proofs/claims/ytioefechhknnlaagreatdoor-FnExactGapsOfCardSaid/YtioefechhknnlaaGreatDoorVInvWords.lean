/- Words of the kit's print,written by it for this seat;what this claim does not name is left out. -/
import Derived.Test.YtioefechhknnlaaGreatDoorVInv
import Derived.Test.YtioefechhknnlaaGreatDoorVFootNe
namespace Go.Proofs.YtioefechhknnlaaGreatDoorW.PrintWords
open Go.RowKit
end Go.Proofs.YtioefechhknnlaaGreatDoorW.PrintWords
namespace Go.Proofs.YtioefechhknnlaaGreatDoorW.PrintLast
section
variable {ops:Array Oper} {a:Act} {o og:Oper} {g:Nat} {t:Tmp} {u:Bool}
end
end Go.Proofs.YtioefechhknnlaaGreatDoorW.PrintLast
