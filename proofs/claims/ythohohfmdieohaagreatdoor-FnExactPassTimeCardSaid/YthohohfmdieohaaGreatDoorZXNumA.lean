/- strconv.Atoi and Itoa by the shelf's contracts,with the program's own numbers. -/
import Derived.Test.YthohohfmdieohaaGreatDoorZXGlob
import Derived.Test.YthohohfmdieohaaGreatDoorVWWords
import Derived.Shelf.Strconv.ErrVarAll
import Derived.Shelf.Strconv.Itoa3
import Derived.Lib.AppendIntMem
namespace Go.Proofs.YthohohfmdieohaaGreatDoorW.PrintLast
open Go Go.Proofs Go.RowKit Go.Proofs.YthohohfmdieohaaGreatDoorW.PrintWords
set_option linter.unusedVariables false
theorem num_atoi_ok (s:ByteArray) (hs:s.size≤281474976710656) (v:Int) (h:Go.Lib.atoiAll s.data.toList=.ok v) (w:World) :
    Calls Tryz.prog 227 #[.string s] w fun e w'=>e=.returned (.tuple #[.int .i64 v,.nilIface])∧Below w.heap.size w w' :=
  (Go.Proofs.Any.strconv_Atoi_ok Go.Proofs.Tryz.laysC172 s (by omega) v h w).mono fun e w' hh=>⟨hh.1,by
    rcases hh.2 with rfl|⟨t,rfl⟩
    · exact Below.refl _ _
    · exact bytes_below (Below.refl _ _) (Nat.le_refl _) _ _⟩
def noNum:Go.Lib.NumEnd Int→Prop
  | .ok _=>False
  | .range=>False
  | _=>True
theorem num_atoi_syntax (s:ByteArray) (hs:s.size≤281474976710656) (hn:noNum (Go.Lib.atoiAll s.data.toList)) (w:World) (hG:Glob w) :
    Calls Tryz.prog 227 #[.string s] w fun e w'=>∃t p,e=.returned (.tuple #[.int .i64 0,.iface t p])∧Below w.heap.size w w':=by
  obtain⟨tp,p,hv⟩:=hG.errS
  cases h:Go.Lib.atoiAll s.data.toList with
  | ok v=>rw[h] at hn;exact hn.elim
  | range=>rw[h] at hn;exact hn.elim
  | _ =>
  exact(Go.Proofs.Any.strconv_Atoi_syntax_var Go.Proofs.Tryz.laysC172 s hs h tp p w hv).mono fun e w' ⟨N,h1,_,_,h4⟩=>⟨_,_,h1,h4⟩
theorem num_atoi_range (s:ByteArray) (hs:s.size≤281474976710656) (h:Go.Lib.atoiAll s.data.toList=.range) (w:World) (hG:Glob w) :
    Calls Tryz.prog 227 #[.string s] w fun e w'=>∃t p,e=.returned (.tuple #[.int .i64 (Go.Lib.atoiSat s.data.toList),.iface t p])∧Below w.heap.size w w':=by
  obtain⟨tp,p,hv⟩:=hG.errR
  exact(Go.Proofs.Any.strconv_Atoi_range_var Go.Proofs.Tryz.laysC172 s hs h tp p w hv).mono fun e w' ⟨N,h1,_,_,h4⟩=>⟨_,_,h1,h4⟩
theorem num_itoa (n:Int) (h0 : -9223372036854775808≤n) (h1:n≤9223372036854775807) (w:World) (hG:Glob w) :
    Calls Tryz.prog 181 #[.int .i64 n] w fun e w'=>e=.returned (.string ⟨(Go.Lib.itoa n).toArray⟩)∧Below w.heap.size w w' :=
  (Go.Proofs.Any.strconv_Itoa Go.Proofs.Tryz.laysM171 n h0 h1 w hG.tab).mono fun e w' ⟨h2,k,os,h3⟩=>⟨h2,h3 ▸ Go.Lib.below_grow _ _ (Nat.le_refl _) _ _⟩
end Go.Proofs.YthohohfmdieohaaGreatDoorW.PrintLast
