/- GoodHealth: the reference's and the program's come to the same. -/
import Derived.Test.YthckpgglghfiiaaDoorZLPHost
import Derived.Test.YthckpgglghfiiaaDoorZLPName
import Derived.Test.YthckpgglghfiiaaDoorJFnExactNewHealth0
import Derived.Test.YthckpgglghfiiaaDoorJFnExactNewHealth1
import Derived.Test.YthckpgglghfiiaaDoorJFnExactNewHealth2
import Derived.Test.YthckpgglghfiiaaDoorJFnExactNewHealth3
import Derived.Test.YthckpgglghfiiaaDoorJFnExactNewHealth4
import Derived.Test.YthckpgglghfiiaaDoorZLIdximplHostimplHostGoodHealth1
set_option linter.unusedVariables false
set_option linter.unusedSimpArgs false
namespace Go.Proofs.YthckpgglghfiiaaDoor.PL
open Go.RowKit Go.Proofs.YthckpgglghfiiaaDoor.Pp Go.Proofs.YthckpgglghfiiaaDoor.PB Go.Proofs.YthckpgglghfiiaaDoorW.PrintWords Go.Proofs.YthckpgglghfiiaaDoorW.PrintLast
def eqS (a b : ByteArray) : Bool := decide (bts a = bts b)
theorem ite_eqS {α : Type} (a b : ByteArray) (x y : α) : (if a.toList = b.toList then x else y) = if eqS a b = true then x else y := by
  rw [toList_bts, toList_bts]
  by_cases h : bts a = bts b <;> simp [eqS, h]
theorem eqS_beq (a b : ByteArray) : (a.toList == b.toList) = eqS a b := by
  rw [toList_bts, toList_bts]
  unfold eqS
  by_cases h : bts a = bts b <;> simp [h]
/-- Names one after another: good, not empty, none like one before. -/
def namesFrom (p : List ByteArray) : List ByteArray → Bool
  | [] => true
  | x :: t => nameOk x && !decide (bts x = []) && !p.any (fun y => eqS y x) && namesFrom (p ++ [x]) t
theorem take_mid {α : Type} {l p t : List α} {x : α} (e : l = p ++ x :: t) : l.take ((p.length : Int)).toNat = p := by
  rw [e]; simp
theorem spec13Names_eq (l : List ByteArray) (hl : l.length ≤ 1048576) (hs : ∀ x ∈ l, x.size ≤ 1048576) : Ev (fun k => spec_l13Names.f k l) (namesFrom [] l && inR l.length 1 12) := by
  unfold spec_l13Names.f
  refine Ev.eq_ (loop_list l (fun k (s : List ByteArray) i => spec_l13Names.l0 k l l (l.length : Int) i) (fun s t => namesFrom s t && inR l.length 1 12) (fun p s => s = p) ?_ ?_ [] rfl) rfl
  · intro s _
    apply Ev.succ
    simp only [spec_l13Names.l0]
    exact Ev.neg (by omega) (Ev.cbind _ (l1In_eq _ _ _) (Ev.const (by simp [namesFrom])))
  · intro p x t s e hp ih
    subst hp
    have hm := len_mid e
    have hx := hs x (mem_mid e)
    apply Ev.succ
    simp only [spec_l13Names.l0, rdOf_mid e]
    refine Ev.pos hm.1 (Ev.pos (by omega) (Ev.pos hm.1 (Ev.bind' _ (specGoodName_eq x hx) ?_)))
    cases hn : nameOk x with
    | false =>
      refine Ev.ite_false (Ev.succ ?_)
      simp only [spec_l13Names.j1]
      exact Ev.const (by simp [namesFrom, hn])
    | true =>
      refine Ev.ite_true (Ev.succ ?_)
      simp only [spec_l13Names.j1]
      rw [toList_bts]
      by_cases he : bts x = []
      · refine Ev.pos (by simp [he]) (Ev.const (by simp [namesFrom, he]))
      · refine Ev.neg (by simp [he]) (Ev.pos (by omega) (Ev.pos (by omega) (Ev.cbind _ rfl ?_)))
        rw [take_mid e]
        have hgo := ih (s ++ [x]) rfl
        refine Ev.eq_ (loop_list s (fun k (_ : Unit) i => spec_l13Names.l1 k l x l (l.length : Int) (s.length : Int) s (s.length : Int) i) (fun _ u => !u.any (fun y => eqS y x) && (namesFrom (s ++ [x]) t && inR l.length 1 12)) (fun _ _ => True) ?_ ?_ () trivial) ?_
        · intro _ _
          apply Ev.succ
          simp only [spec_l13Names.l1]
          rw [w64 (i := (s.length : Int) + 1) (by omega) (by omega)]
          exact Ev.neg (by omega) (Ev.eq_ hgo (by simp))
        · intro p2 y t2 _ e2 _ ih2
          have hm2 := len_mid e2
          apply Ev.succ
          simp only [spec_l13Names.l1, rdOf_mid e2, ite_eqS]
          refine Ev.pos hm2.1 (Ev.pos (by omega) (Ev.pos hm2.1 ?_))
          rw [w64 (i := (p2.length : Int) + 1) (by omega) (by omega)]
          cases hq : eqS y x with
          | true => exact Ev.ite_true (Ev.const (by simp [hq]))
          | false => exact Ev.ite_false (Ev.eq_ (ih2 () trivial) (by simp [hq]))
        · simp [namesFrom, hn, he, Bool.and_assoc]
def mostH (n m : Int) (x : S_Host) : Int := if x.f1 = true then m else n
def rowH (n m : Int) (x : S_Host) : Bool := inR x.f2 0 (wrap64 (mostH n m x - 1))
def goodH (n m : Int) (l : List S_Host) : Bool := inR n 1 10 && inR m 1 10 && inR l.length 1 12 && l.all (rowH n m) && namesFrom [] (l.map (·.f0))
theorem l13Most_eq (n m : Int) (l : List S_Host) (x : S_Host) : spec_l13Most.f n m l x.f0 x.f1 x.f2 = some (mostH n m x) := by
  unfold spec_l13Most.f mostH
  split <;> rfl
theorem mostRow_eq (n m : Int) (l : List S_Host) (x : S_Host) : impl_Health_mostRow.f n m l x.f0 x.f1 x.f2 = some (mostH n m x) := by
  unfold impl_Health_mostRow.f mostH
  split <;> rfl
theorem specGoodHealth_eq (n m : Int) (l : List S_Host) (hl : l.length ≤ 1048576) (hs : ∀ x ∈ l, x.f0.size ≤ 1048576) : Ev (fun k => spec_GoodHealth.f k n m l) (goodH n m l) := by
  unfold spec_GoodHealth.f
  refine Ev.eq_ (loop_list l (fun k (s : List ByteArray) i => spec_GoodHealth.l0 k s l (l.length : Int) i n m l) (fun s t => t.all (rowH n m) && (inR n 1 10 && (inR m 1 10 && (namesFrom [] (l.map (·.f0)) && inR l.length 1 12)))) (fun p s => s = p.map (·.f0)) ?_ ?_ [] rfl) ?_
  · intro s hp
    subst hp
    apply Ev.succ
    simp only [spec_GoodHealth.l0]
    refine Ev.neg (by omega) (Ev.cbind _ (l1In_eq _ _ _) ?_)
    cases h1 : inR n 1 10 with
    | false => exact Ev.ite_false (Ev.const (by simp))
    | true =>
      refine Ev.ite_true (Ev.cbind _ (l1In_eq _ _ _) ?_)
      cases h2 : inR m 1 10 with
      | false => exact Ev.ite_false (Ev.const (by simp))
      | true =>
        refine Ev.ite_true (Ev.bind' _ (spec13Names_eq (l.map (·.f0)) (by simpa using hl) (by simpa using hs)) (Ev.const ?_))
        simp
  · intro p x t s e hp ih
    subst hp
    have hm := len_mid e
    apply Ev.succ
    simp only [spec_GoodHealth.l0, rd_THost, getD_mid e]
    refine Ev.pos hm.1 (Ev.pos (by omega) (Ev.pos hm.1 (Ev.cbind _ (l13Most_eq n m l x) (Ev.cbind _ (l1In_eq _ _ _) ?_))))
    rw [show inR x.f2 0 (wrap64 (mostH n m x - 1)) = rowH n m x from rfl]
    cases hr : rowH n m x with
    | false => exact Ev.ite_false (Ev.const (by simp [hr]))
    | true =>
      refine Ev.ite_true (Ev.pos (by simp; omega) ?_)
      rw [w64 (i := (p.length : Int) + 1) (by omega) (by omega)]
      exact Ev.eq_ (ih (p.map (·.f0) ++ [x.f0]) (by simp)) (by simp [hr])
  · unfold goodH
    simp only [Bool.and_assoc, Bool.and_comm, Bool.and_left_comm]
theorem implGoodHealth_eq (n m : Int) (l : List S_Host) (hl : l.length ≤ 1048576) (hs : ∀ x ∈ l, x.f0.size ≤ 1048576) : Ev (fun k => impl_GoodHealth.f k n m l) (goodH n m l) := by
  unfold impl_GoodHealth.f goodH
  refine Ev.cbind _ (within_eq _ _ _) ?_
  cases h1 : inR n 1 10 with
  | false =>
    refine Ev.ite_false (Ev.succ ?_)
    simp only [impl_GoodHealth.j0]
    exact Ev.const (by simp)
  | true =>
    refine Ev.ite_true (Ev.cbind _ (within_eq _ _ _) ?_)
    cases h2 : inR m 1 10 with
    | false =>
      refine Ev.ite_false (Ev.succ ?_)
      simp only [impl_GoodHealth.j0]
      exact Ev.const (by simp)
    | true =>
      refine Ev.ite_true (Ev.cbind _ (within_eq _ _ _) (Ev.succ ?_))
      simp only [impl_GoodHealth.j0]
      cases h3 : inR (l.length : Int) 1 12 with
      | false => exact Ev.pos (by simp) (Ev.const (by simp))
      | true =>
        refine Ev.neg (by simp) ?_
        refine Ev.eq_ (loop_list l (fun k (_ : Unit) i => impl_GoodHealth.l0 k l (l.length : Int) i n m l) (fun _ t => t.all (rowH n m) && namesFrom ((l.take (l.length - t.length)).map (·.f0)) (t.map (·.f0))) (fun _ _ => True) ?_ ?_ () trivial) (by simp)
        · intro _ _
          apply Ev.succ
          simp only [impl_GoodHealth.l0]
          exact Ev.neg (by omega) (Ev.const (by simp [namesFrom]))
        · intro p x t _ e _ ih
          have hm := len_mid e
          have hx := hs x (mem_mid e)
          have ht : l.take (l.length - (x :: t).length) = p := by
            rw [e]; simp
          have ht2 : l.take (l.length - t.length) = p ++ [x] := by
            have e3 : l = (p ++ [x]) ++ t := by rw [e]; simp
            have e4 : l.length - t.length = (p ++ [x]).length := by rw [hm.2.2]; simp <;> omega
            rw [e4, e3, List.take_left']
            rfl
          have hgo := ih () trivial
          rw [ht2] at hgo
          rw [ht]
          apply Ev.succ
          simp only [impl_GoodHealth.l0, rd_THost, getD_mid e]
          refine Ev.pos hm.1 (Ev.pos (by omega) (Ev.pos hm.1 ?_))
          rw [toList_bts]
          by_cases he : bts x.f0 = []
          · exact Ev.pos he (Ev.const (by simp [namesFrom, he]))
          · refine Ev.neg he (Ev.bind' _ (implGoodName_eq x.f0 hx) ?_)
            cases hn : nameOk x.f0 with
            | false => exact Ev.ite_false (Ev.const (by simp [namesFrom, hn]))
            | true =>
              refine Ev.ite_true (Ev.cbind _ (mostRow_eq n m l x) (Ev.cbind _ (within_eq _ _ _) ?_))
              rw [show inR x.f2 0 (wrap64 (mostH n m x - 1)) = rowH n m x from rfl]
              cases hr : rowH n m x with
              | false => exact Ev.ite_false (Ev.const (by simp [hr]))
              | true =>
                refine Ev.ite_true (Ev.pos (by omega) ?_)
                rw [take_mid e]
                refine Ev.bind' _ (slices_ContainsFunc_impl_Host_impl_Host_GoodHealth_1.any p x.f0 x.f1 x.f2 (fun y => eqS y.f0 x.f0) (by omega) (fun y _ => Ev.const ?_)) ?_
                · unfold impl_GoodHealth_1.f
                  rw [eqS_beq]
                · have e5 : (p.any fun y => eqS y.f0 x.f0) = (p.map (·.f0)).any (fun y => eqS y x.f0) := by
                    rw [List.any_map]; rfl
                  cases hq : (p.any fun y => eqS y.f0 x.f0) with
                  | true =>
                    refine Ev.ite_true (Ev.const ?_)
                    rw [hq] at e5
                    simp only [List.map_cons, namesFrom, ← e5]
                    simp
                  | false =>
                    refine Ev.ite_false ?_
                    rw [w64 (i := (p.length : Int) + 1) (by omega) (by omega)]
                    rw [hq] at e5
                    refine Ev.eq_ hgo ?_
                    simp only [List.map_cons, namesFrom, ← e5]
                    simp [hr, hn, he]
end Go.Proofs.YthckpgglghfiiaaDoor.PL
