/- A gap: sized, copied, compared. -/
import Derived.Test.YthckpgglghfiiaaDoorLPTy
import Derived.Test.YthckpgglghfiiaaDoorLPBytes
import Derived.Test.YthckpgglghfiiaaDoorZLPInts
import Derived.Test.YthckpgglghfiiaaDoorJFnExactClosestBy0
import Derived.Test.YthckpgglghfiiaaDoorJFnExactClosestBy1
import Derived.Test.YthckpgglghfiiaaDoorJFnExactClosestBy2
set_option linter.unusedVariables false
set_option linter.unusedSimpArgs false
namespace Go.Proofs.YthckpgglghfiiaaDoor.PL
open Go.RowKit Go.Proofs.YthckpgglghfiiaaDoor.Pp Go.Proofs.YthckpgglghfiiaaDoor.PB Go.Proofs.YthckpgglghfiiaaDoorW.PrintWords Go.Proofs.YthckpgglghfiiaaDoorW.PrintLast
theorem szIntS_eq (l : List Int) (h : l.length ≤ maxLen) (a : Int) (h0 : 0 ≤ a) (h1 : a ≤ 1048576) : Szd (fun _ => laws_szIntS.f l a) a (l.length ≤ 1048576) := by
  have hm : maxLen = 9223372036854775807 := rfl
  unfold laws_szIntS.f
  exact (Szd.size _ (by omega) h0 h1 (fun a' e ha hb => by rw [e]; exact Szd.end_ ha)).mono (fun h => h.1)
theorem szGap_eq (o n : ByteArray) (l : List Int) (ho : o.size ≤ maxLen) (hn : n.size ≤ maxLen) (hl : l.length ≤ maxLen) (a : Int) (h0 : 0 ≤ a) (h1 : a ≤ 1048576) : Szd (fun _ => laws_szGap.f o n l a) a (o.size ≤ 1048576 ∧ n.size ≤ 1048576 ∧ l.length ≤ 1048576) := by
  have hm : maxLen = 9223372036854775807 := rfl
  unfold laws_szGap.f
  refine (Szd.size _ (by omega) h0 h1 (fun a' e ha hb => ?_))
  rw [e]
  refine (Szd.size _ (by omega) ha hb (fun a2 e2 ha2 hb2 => ?_))
  rw [e2]
  exact (Szd.cbind (szIntS_eq l hl a2 ha2 hb2) hb2 (fun r h3 _ => Szd.end_ h3)).mono (fun h => h.1)
theorem toGap_eq (o n : ByteArray) (l : List Int) (hl : l.length ≤ 1048576) : Ev (fun k => laws_toGap.f k o n l) (o, n, l) := by
  unfold laws_toGap.f
  exact Ev.bind' _ (toIntS_eq l hl) (Ev.const rfl)
theorem eqGap_eq (o n : ByteArray) (l : List Int) (hl : l.length ≤ 1048576) : Ev (fun k => laws_eqGap.f k o n l o n l) true := by
  unfold laws_eqGap.f
  exact Ev.pos rfl (Ev.pos rfl (Ev.bind' _ (eqIntS_eq l hl) (Ev.ite_true (Ev.const rfl))))
end Go.Proofs.YthckpgglghfiiaaDoor.PL
