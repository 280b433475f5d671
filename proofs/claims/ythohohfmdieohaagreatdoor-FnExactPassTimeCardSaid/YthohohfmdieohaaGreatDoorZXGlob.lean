/- What the library's number words read of memory: a table and two variables;it stays as it is. Laid for one program. -/
import Derived.Test.YthohohfmdieohaaGreatDoorVXShelf
import Derived.Test.YthohohfmdieohaaGreatDoorVXWords
import Derived.Lib.LaidTab
import Derived.LaidMore
set_option linter.unusedVariables false
namespace Go.Proofs.YthohohfmdieohaaGreatDoorW.PrintLast
open Go Go.RowKit
theorem var?_keep {P:Program} {w w':World} {n:String} {cs:Array Value} (h:Below w.heap.size w w') (hv:w.var? P n=some cs):w'.var? P n=some cs:=by
  unfold World.var? at hv ⊢
  cases hg:P.globalNamed n with
  | none=>rw[hg] at hv;cases hv
  | some g =>
    rw[hg] at hv
    simp only[Option.bind_some] at hv ⊢
    have hlt:g<w.heap.size:=by
      rcases Nat.lt_or_ge g w.heap.size with h1|h1
      · exact h1
      · rw[Array.getElem?_eq_none h1] at hv;cases hv
    rw[h.block g hlt]
    exact hv
structure Glob (w:World):Prop where
  tab:Lib.TabIs Go.Proofs.Tryz.prog w "internal/strconv.uint64pow10" .u64 Lib.pow10Tab
  errS:∃tp p,w.var? Go.Proofs.Tryz.prog "strconv.ErrSyntax" = some #[.iface tp p]
  errR:∃tp p,w.var? Go.Proofs.Tryz.prog "strconv.ErrRange" = some #[.iface tp p]
theorem Glob.below {w w':World} (h:Glob w) (hb:Below w.heap.size w w'):Glob w':=by
  obtain⟨h1,⟨a,b,h2⟩,⟨c,d,h3⟩⟩:=h
  exact⟨var?_keep hb h1,⟨a,b,var?_keep hb h2⟩,⟨c,d,var?_keep hb h3⟩⟩
end Go.Proofs.YthohohfmdieohaaGreatDoorW.PrintLast
