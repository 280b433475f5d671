/- Words of the kit's print,written by it for this seat;what this claim does not name is left out. -/
import Derived.Test.YthohohfmdieohaaGreatDoorVWWords
import Derived.Laws.StructEq
namespace Go.Proofs.YthohohfmdieohaaGreatDoorW.PrintWords
open Go.RowKit
section
variable {P:Program} {d:Nat} {xs ys:Array Value} {f:Field} {fs:List Field} {a b:Value} {r s:Bool} {w:World}
end
end Go.Proofs.YthohohfmdieohaaGreatDoorW.PrintWords
