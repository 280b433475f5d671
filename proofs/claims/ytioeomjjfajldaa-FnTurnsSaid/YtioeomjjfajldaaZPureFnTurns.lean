/- In as many turns as all weights together each is picked as often as it weighs, for drawn weights; no condition beyond the row's own. -/
import Derived.Test.YtioeomjjfajldaaJFnTurns0
import Derived.Test.YtioeomjjfajldaaJFnTurns1
import Derived.Test.YtioeomjjfajldaaZLPPeriod
import Derived.Test.YtioeomjjfajldaaZLPDrawT
import Derived.Test.YtioeomjjfajldaaZLPSame
set_option linter.unusedVariables false
namespace Go.Proofs.Ytioeomjjfajldaa.Pure
open Go.RowKit Go.Proofs.Ytioeomjjfajldaa.Pp Go.Proofs.Ytioeomjjfajldaa.PB Go.Proofs.Ytioeomjjfajldaa.PL Go.Proofs.YtioeomjjfajldaaW.PrintWords Go.Proofs.YtioeomjjfajldaaW.PrintLast
section
variable {x1 a b u : List Int} (ht : Ev (fun k => spec_DrawNextTurn.f k x1) (a, b)) (ha : a.length ≤ 20) (hb : b.length ≤ 20) (hu : Ev (fun k => spec_DrawNewTurn.f k x1) u) (hul : u.length ≤ 20)
include hu hul
theorem end6 (p q : List Int) (o : Bool) (hp : p.length ≤ 1048576) (hq : q.length ≤ 1048576) (h : o = true → goodT p q = true) : Ev (fun k => laws_FnTurns.j6 k x1 o false p q) true := by
  apply Ev.succ
  simp only [laws_FnTurns.j6]
  have hn : (newT u).2.1.length ≤ 1048576 := by
    unfold newT
    split
    · simp; omega
    · simp
  refine Ev.neg (by simp) (Ev.bind' _ hu (Ev.bind' _ (implNT u (by omega)) (Ev.bind' _ (specNT u (by omega)) (Ev.pos (by simp) (Ev.bind' _ (same_eq _ hn) (Ev.ite_true ?_))))))
  cases o with
  | false => exact Ev.ite_false (Ev.const rfl)
  | true =>
    refine Ev.ite_true (Ev.bind' _ (implGT_eq p q hp hq) ?_)
    rw [h rfl]
    exact Ev.const rfl
include ht ha hb
theorem end5 : Ev (fun k => laws_FnTurns.j5 k x1) true := by
  apply Ev.succ
  simp only [laws_FnTurns.j5]
  obtain ⟨q1, q2⟩ := nextT_len a b (by omega)
  have hok : (nextT a b).2.2.2 = true → goodT (nextT a b).1 (nextT a b).2.1 = true := by
    unfold nextT
    by_cases hg : goodT a b = true
    · rw [if_pos hg]
      by_cases h2 : goodT a (nextL a b).1 = true
      · rw [if_pos h2]; exact fun _ => h2
      · rw [if_neg h2]; intro h; cases h
    · rw [if_neg hg]; intro h; cases h
  have hsp := specNext_eq a b (by omega) (by omega)
  have him := implNext_eq a b (by omega) (by omega)
  generalize nextT a b = R at hsp him q1 q2 hok
  obtain ⟨p, q, n, o⟩ := R
  simp only at q1 q2 hok
  refine Ev.bind' _ ht (Ev.bind' _ him (Ev.bind' _ hsp (Ev.neg (by simp) (Ev.pos rfl (Ev.bind' _ (same_eq q q2) (Ev.ite_true (Ev.bind' _ (implGT_eq a b (by omega) (by omega)) (Ev.bind' _ (specGT_eq a b (by omega) (by omega)) ?_))))))))
  rw [bne_self_eq_false]
  exact end6 hu hul p q o q1 q2 hok
theorem rest0 (l : List Int) (m : Int) (hl : l.length ≤ 20) : Ev (fun k => laws_FnTurns.j0 k x1 l (turnsA l m).1 (turnsA l m).2 false) true := by
  apply Ev.succ
  simp only [laws_FnTurns.j0]
  refine Ev.neg (by simp) ?_
  have hoff : (turnsA l m).2 = false → Ev (fun k => if (turnsA l m).2 = true then laws_FnTurns.l0 k x1 l (turnsA l m).1 0 l (l.length : Int) 0 else laws_FnTurns.j5 k x1) true := fun h => by
    rw [h]
    exact Ev.ite_false (end5 ht ha hb hu hul)
  by_cases hg : goodW l = true
  · by_cases hr : inR m 0 600 = true
    · have hm : 0 ≤ m ∧ m ≤ 600 := by simpa [inR] using hr
      obtain ⟨k1, k2, k3, k4, k5⟩ := goodW_out hg
      rw [turnsA, if_pos hg, if_pos hr]
      refine Ev.ite_true ?_
      have hall : turnsA l l.sum = (Go.Proofs.Ytioeomjjfajldaa.PL.runT l l.sum.toNat (List.replicate l.length 0), true) := by
        rw [turnsA, if_pos hg, if_pos (by simp only [inR, decide_eq_true_eq]; omega)]
      have himp := implTurns_eq l l.sum (by omega)
      rw [hall] at himp
      obtain ⟨per, cnt⟩ := period hg
      have hrg := run_range hg l.sum.toNat
      have hmod := run_mod hg m.toNat
      have hll := runT_len l l.sum.toNat (List.replicate l.length 0)
      have hlm := runT_len l m.toNat (List.replicate l.length 0)
      generalize Go.Proofs.Ytioeomjjfajldaa.PL.runT l l.sum.toNat (List.replicate l.length 0) = all at himp cnt hrg hmod hll
      generalize Go.Proofs.Ytioeomjjfajldaa.PL.runT l m.toNat (List.replicate l.length 0) = pp at hmod hlm ⊢
      refine Ev.eq_ (loop_list l (fun k S i => laws_FnTurns.l0 k x1 l pp S l (l.length : Int) i) (fun _ _ => true) (fun p S => S = p.sum ∧ 0 ≤ S ∧ S ≤ 50 * p.length) ?_ ?_ 0 (by simp)) rfl
      · rintro S ⟨rfl, hS⟩
        apply Ev.succ
        simp only [laws_FnTurns.l0]
        refine Ev.neg (by omega) (Ev.bind' _ himp (Ev.pos (by omega) (Ev.pos (by omega) ?_)))
        rw [Int.toNat_natCast]
        refine Ev.eq_ (loop_list all (fun k x i => laws_FnTurns.l1 k x1 l pp l.sum all true x all (all.length : Int) i) (fun _ _ => true) (fun p x => x.length = l.length ∧ (∀ i, i < l.length → x.getD i 0 = cntT p i) ∧ ∀ v ∈ x, 0 ≤ v ∧ v ≤ p.length) ?_ ?_ (List.replicate l.length 0) ⟨by simp, fun i hi => ?_, fun v hv => ?_⟩) rfl
        · rintro x ⟨g1, g2, g3⟩
          apply Ev.succ
          simp only [laws_FnTurns.l1]
          have hx : x = l := by
            refine List.ext_getElem g1 (fun i h1 h2 => ?_)
            have e := g2 i h2
            rw [cnt i h2, List.getD_eq_getElem?_getD, List.getElem?_eq_getElem h1, List.getD_eq_getElem?_getD, List.getElem?_eq_getElem h2] at e
            simpa using e
          subst hx
          refine Ev.neg (by omega) (Ev.pos (by simp) (Ev.bind' _ (same_eq x (by omega)) (Ev.succ ?_)))
          simp only [laws_FnTurns.j3]
          refine Ev.neg (by simp) ?_
          refine Ev.eq_ (loop_list pp (fun k (_ : Unit) i => laws_FnTurns.l2 k x1 x.sum all pp (pp.length : Int) i) (fun _ _ => true) (fun _ _ => True) ?_ ?_ () trivial) rfl
          · intro _ _
            apply Ev.succ
            simp only [laws_FnTurns.l2]
            exact Ev.neg (by omega) (end5 ht ha hb hu hul)
          · intro p y t _ e _ ih
            have hmid := len_mid e
            have h1 : 0 ≤ Int.tmod (p.length : Int) x.sum := Int.tmod_nonneg _ (by omega)
            have h2 : Int.tmod (p.length : Int) x.sum < x.sum := Int.tmod_lt_of_pos _ (by omega)
            apply Ev.succ
            simp only [laws_FnTurns.l2]
            refine Ev.pos hmid.1 (Ev.pos (by omega) (Ev.pos hmid.1 (Ev.neg (by omega) (Ev.pos h1 (Ev.pos (by omega) (Ev.pos (hmod _ (by omega)) ?_))))))
            rw [w64 (by omega) (by omega)]
            exact ih () trivial
        · rintro p y t x e ⟨g1, g2, g3⟩ ih
          have hmid := len_mid e
          obtain ⟨r1, r2⟩ := hrg y (mem_mid e)
          have hy : y = ((y.toNat : Nat) : Int) := by omega
          have hb2 := g3 _ (getD_mem x y.toNat (by omega))
          have hpl : (p.length : Int) ≤ 600 := by omega
          apply Ev.succ
          simp only [laws_FnTurns.l1, rd_mid' e]
          refine Ev.pos hmid.1 (Ev.pos (by omega) (Ev.pos hmid.1 (Ev.pos r1 (Ev.pos (by omega) ?_))))
          have hrd : rd x y = x.getD y.toNat 0 := rfl
          rw [hrd, w64 (i := x.getD y.toNat 0 + 1) (by omega) (by omega), w64 (by omega) (by omega)]
          refine ih _ ⟨by rw [List.length_set]; exact g1, fun i hi => ?_, fun v hv => ?_⟩
          · have e2 : cntT (p ++ [y]) i = cntT p i + (if y = (i : Int) then 1 else 0) := by simp [cntT]
            rw [e2, ← g2 i hi]
            by_cases h : y.toNat = i
            · subst h
              rw [if_pos hy, List.getD_eq_getElem?_getD, List.getElem?_set_self (by omega)]
              rfl
            · rw [if_neg (by omega), List.getD_eq_getElem?_getD, List.getElem?_set_ne h, ← List.getD_eq_getElem?_getD]
              omega
          · have hlen : ((p ++ [y]).length : Int) = (p.length : Int) + 1 := by simp
            rw [hlen]
            rcases List.mem_or_eq_of_mem_set hv with hv | rfl
            · have := g3 v hv; omega
            · omega
        · rw [List.getD_eq_getElem?_getD, List.getElem?_replicate, if_pos hi]
          simp [cntT]
        · have := List.eq_of_mem_replicate hv
          omega
      · rintro p x t S e ⟨rfl, hS⟩ ih
        have hmid := len_mid e
        have hb := k3 x (mem_mid e)
        apply Ev.succ
        simp only [laws_FnTurns.l0, rd_mid' e]
        refine Ev.pos hmid.1 (Ev.pos (by omega) (Ev.pos hmid.1 ?_))
        rw [w64 (by omega) (by omega), w64 (by omega) (by omega)]
        exact ih _ ⟨by simp, by omega, by simp; omega⟩
    · exact hoff (by rw [turnsA, if_pos hg, if_neg hr])
  · exact hoff (by rw [turnsA, if_neg hg])
end
theorem FnTurns : laws_FnTurns.Pure := by
  rintro c d ⟨_, hc⟩ ⟨_, hd⟩
  refine Ev.get (g := fun k => laws_FnTurns.f k c d) ?_
  unfold laws_FnTurns.f
  by_cases h : wrap64 ((c.length : Int) + (d.length : Int)) > 1048576
  · exact Ev.pos h (Ev.const rfl)
  · have ca : bytesOk c := ⟨trivial, fun x hx => wf8 x (hc x hx)⟩
    have cb : bytesOk d := ⟨trivial, fun x hx => wf8 x (hd x hx)⟩
    obtain ⟨l, m, hl, hlen⟩ := drawTurns_ok ca
    obtain ⟨a, b, ht, ha, hb⟩ := turn_ok cb
    obtain ⟨u, hu, hul⟩ := drawNew_ok cb
    refine Ev.neg h (Ev.bind' _ hl (Ev.bind' _ (implTurns_eq l m (by omega)) (Ev.bind' _ (specTurns_eq l m (by omega)) (Ev.neg (by simp) (Ev.bind' _ (same_eq _ (turnsA_len l m)) ?_)))))
    exact rest0 ht ha hb hu hul l m hlen
end Go.Proofs.Ytioeomjjfajldaa.Pure
