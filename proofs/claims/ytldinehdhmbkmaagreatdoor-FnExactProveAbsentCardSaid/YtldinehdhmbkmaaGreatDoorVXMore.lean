/- Words of the kit's print,written by it for this seat;what this claim does not name is left out. -/
import Derived.Test.YtldinehdhmbkmaaGreatDoorVXWords
import Derived.Test.YtldinehdhmbkmaaGreatDoorVWMore
import Derived.Test.YtldinehdhmbkmaaGreatDoorVWLast
set_option linter.unusedVariables false
namespace Go.Proofs.YtldinehdhmbkmaaGreatDoorW.PrintLast
open Go Go.RowKit Go.Proofs.YtldinehdhmbkmaaGreatDoorW.PrintWords
section
variable {P:Program} {md:Region.Mode} {ops:Array Oper} {Q:Exit→Act→World→Prop} {S S':World→Prop}
theorem more_all (hSS:∀w,S' w→S w):∀(fuel:Nat) (l:Array Bool) (a:Act) (w:World),S' w→wpAnyLast P md ops Q S' [] fuel l a w→wpAnyLast P md ops Q S [] fuel l a w
  | 0,_,_,_,_,h=>h
  | fuel+1,l,a,w,hS,h=>⟨h.1,fun i hi=>wpOp_mono (fun a' w' h'=>⟨fun _ _=>hSS w' (h'.1 (by simp) hS),more_all hSS fuel _ a' w' (h'.1 (by simp) hS) h'.2⟩) (h.2 i hi)⟩
theorem more_ {fuel:Nat} {l:Array Bool} {a:Act} {w:World} (S':World→Prop) (hSS:∀w,S' w→S w) (hS:S' w) (h:S' w→wpAnyLast P md ops Q S' [] fuel l a w):wpAnyLast P md ops Q S [] fuel l a w:=more_all hSS fuel l a w hS (h hS)
end
theorem isEmpty_beq (l:List UInt8):l.isEmpty=(l==[]):=by cases l<;>rfl
end Go.Proofs.YtldinehdhmbkmaaGreatDoorW.PrintLast
