/- Words of the kit's print,written by it for this seat;what this claim does not name is left out. -/
import Derived.Test.YthohohfmdieohaaGreatDoorVWTab
namespace Go.Proofs.YthohohfmdieohaaGreatDoorW.PrintLast
section
variable {P:Program} {ops:Array Oper} {Q:Exit→Act→World→Prop} {md:Region.Mode} {S:World→Prop} {ds:List Nat} {T:Bool × List (List Nat × List Nat)}
end
end Go.Proofs.YthohohfmdieohaaGreatDoorW.PrintLast
