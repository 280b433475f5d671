/- Health: sized, copied, compared, marked. -/
import Derived.Test.YthckpgglghfiiaaDoorZLPTy
import Derived.Test.YthckpgglghfiiaaDoorZLPBytes
import Derived.Test.YthckpgglghfiiaaDoorJFnExactNewHealth0
import Derived.Test.YthckpgglghfiiaaDoorJFnExactNewHealth1
import Derived.Test.YthckpgglghfiiaaDoorJFnExactNewHealth2
import Derived.Test.YthckpgglghfiiaaDoorJFnExactNewHealth3
import Derived.Test.YthckpgglghfiiaaDoorJFnExactNewHealth4
set_option linter.unusedVariables false
set_option linter.unusedSimpArgs false
namespace Go.Proofs.YthckpgglghfiiaaDoor.PL
open Go.RowKit Go.Proofs.YthckpgglghfiiaaDoor.Pp Go.Proofs.YthckpgglghfiiaaDoor.PB Go.Proofs.YthckpgglghfiiaaDoorW.PrintWords Go.Proofs.YthckpgglghfiiaaDoorW.PrintLast
def cHost (x : S_LHost) : S_Host := ⟨x.f0, x.f1, x.f2⟩
theorem szHealth_eq (n m : Int) (l : List S_LHost) (h : l.length ≤ maxLen ∧ ∀ x ∈ l, WF_LHost x) (a : Int) (h0 : 0 ≤ a) (h1 : a ≤ 1048576) : Szd (fun k => laws_szHealth.f k n m l a) a (l.length ≤ 1048576 ∧ ∀ x ∈ l, x.f0.size ≤ 1048576) := by
  have hm : maxLen = 9223372036854775807 := rfl
  unfold laws_szHealth.f
  refine Szd.mono (B := (l.length ≤ 1048576 ∧ ∀ x ∈ l, x.f0.size ≤ 1048576) ∧ True) (Szd.bind ?_ h1 (fun r hr _ => Szd.end_ hr)) (fun h => h.1)
  unfold laws_szHostS.f
  by_cases hl : l.length ≤ 1048576
  · refine Szd.size _ (by omega) h0 h1 (fun a' e ha hb => ?_)
    rw [e]
    refine Szd.list l hl (fun k a i => laws_szHostS.l0 k l a i) (fun x => x.f0.size ≤ 1048576) ?_ ?_ a' ha hb
    · intro a ha hb
      refine ⟨a, Ev.succ ?_, Or.inr ⟨ha, Int.le_refl _, trivial⟩⟩
      simp only [laws_szHostS.l0]
      exact Ev.neg (by omega) (Ev.const rfl)
    · intro p x t a e ha hb _ C hC
      have hm2 := len_mid e
      have hx := (h.2 x (mem_mid e)).1
      have hel : Szd (fun _ : Nat => laws_szHost.f x.f0 x.f1 x.f2 a) a (x.f0.size ≤ 1048576) := by
        unfold laws_szHost.f
        exact (Szd.size _ (by omega) ha hb (fun a' e2 ha' hb' => by rw [e2]; exact Szd.end_ ha')).mono (fun h => h.1)
      obtain ⟨r, hr, hh⟩ := Szd.cbind (g := fun k t => laws_szHostS.l0 k l t ((p.length : Int) + 1)) hel hb (fun r h3 h4 => hC r h3 h4)
      refine ⟨r, Ev.succ ?_, hh⟩
      simp only [laws_szHostS.l0, rd_TLHost, getD_mid e]
      rw [w64 (i := (p.length : Int) + 1) (by omega) (by omega)]
      exact Ev.pos hm2.1 (Ev.pos (by omega) hr)
  · have := h.1
    refine ⟨-1, Ev.pos ?_ (Ev.const rfl), Or.inl (by omega)⟩
    rw [w64 (by omega) (by omega)]
    omega
theorem toHostS_eq (l : List S_LHost) (hl : l.length ≤ 1048576) : Ev (fun k => laws_toHostS.f k l) (l.map cHost) := by
  unfold laws_toHostS.f
  refine Ev.pos (by omega) (Ev.pos (by simp; omega) ?_)
  refine to_list l cHost (fun k s i => laws_toHostS.l0 k l s i) ?_ ?_ _ (by simp)
  · intro s
    apply Ev.succ
    simp only [laws_toHostS.l0]
    exact Ev.neg (by omega) (Ev.const rfl)
  · intro p x t s r e hs h
    have hm := len_mid e
    apply Ev.succ
    simp only [laws_toHostS.l0, rd_TLHost, getD_mid e]
    rw [w64 (i := (p.length : Int) + 1) (by omega) (by omega)]
    exact Ev.pos hm.1 (Ev.pos (by omega) (Ev.cbind _ rfl (Ev.pos (by omega) h)))
theorem toHealth_eq (n m : Int) (l : List S_LHost) (hl : l.length ≤ 1048576) : Ev (fun k => laws_toHealth.f k n m l) (n, m, l.map cHost) := by
  unfold laws_toHealth.f
  exact Ev.bind' _ (toHostS_eq l hl) (Ev.const rfl)
theorem eqHost_eq (a : ByteArray) (b : Bool) (c : Int) : laws_eqHost.f a b c a b c = some true := by
  unfold laws_eqHost.f
  simp
theorem eqHealth_eq (n m : Int) (l : List S_Host) (hl : l.length ≤ 1048576) : Ev (fun k => laws_eqHealth.f k n m l n m l) true := by
  unfold laws_eqHealth.f
  refine Ev.pos rfl (Ev.pos rfl (Ev.bind' true ?_ (Ev.ite_true (Ev.const rfl))))
  unfold laws_eqHostS.f
  refine Ev.pos rfl (eq_list l (fun k i => laws_eqHostS.l0 k l l i) ?_ ?_)
  · apply Ev.succ
    simp only [laws_eqHostS.l0]
    exact Ev.neg (by omega) (Ev.const rfl)
  · intro p x t e h
    have hm := len_mid e
    apply Ev.succ
    simp only [laws_eqHostS.l0]
    rw [w64 (i := (p.length : Int) + 1) (by omega) (by omega)]
    exact Ev.pos hm.1 (Ev.pos (by omega) (Ev.pos hm.1 (Ev.cbind _ (eqHost_eq _ _ _) (Ev.ite_true h))))
end Go.Proofs.YthckpgglghfiiaaDoor.PL
