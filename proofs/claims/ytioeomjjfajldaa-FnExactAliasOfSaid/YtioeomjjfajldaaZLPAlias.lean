/- AliasOf: the program's columns are the reference's. -/
import Derived.Test.YtioeomjjfajldaaZLPNext
import Derived.Test.YtioeomjjfajldaaJFnExactAliasOf0
import Derived.Test.YtioeomjjfajldaaJFnExactAliasOf1
import Derived.Test.YtioeomjjfajldaaZLIdxintintaliasOf1
set_option linter.unusedVariables false
set_option linter.unusedSimpArgs false
namespace Go.Proofs.Ytioeomjjfajldaa.PL
open Go.RowKit Go.Proofs.Ytioeomjjfajldaa.Pp Go.Proofs.Ytioeomjjfajldaa.PB Go.Proofs.YtioeomjjfajldaaW.PrintWords Go.Proofs.YtioeomjjfajldaaW.PrintLast
section
variable {α : Type}
theorem idxP_snoc (p : α → Bool) (x : α) : ∀ a : List α, idxP p (a ++ [x]) = if 0 ≤ idxP p a then idxP p a else if p x = true then (a.length : Int) else -1
  | [] => by
    rw [show ([] : List α) ++ [x] = [x] from rfl, show idxP p [x] = (if p x then 0 else if 0 ≤ (-1 : Int) then (-1 : Int) + 1 else -1) from rfl, show idxP p ([] : List α) = -1 from rfl]
    split <;> simp
  | y :: a => by
    have ih := idxP_snoc p x a
    rw [List.cons_append, show idxP p (y :: (a ++ [x])) = (if p y then 0 else if 0 ≤ idxP p (a ++ [x]) then idxP p (a ++ [x]) + 1 else -1) from rfl, show idxP p (y :: a) = (if p y then 0 else if 0 ≤ idxP p a then idxP p a + 1 else -1) from rfl, ih, List.length_cons]
    by_cases h1 : p y = true
    · simp [h1]
    · rw [if_neg h1, if_neg h1]
      by_cases h2 : 0 ≤ idxP p a
      · simp only [if_pos h2]
        rw [if_pos (by omega)]
      · simp only [if_neg h2]
        by_cases h3 : p x = true
        · simp only [if_pos h3]
          rw [if_pos (by omega), if_neg (by omega)]
          omega
        · simp only [if_neg h3]
          simp
theorem idxP_spec (p : α → Bool) : ∀ z : List α, 0 ≤ idxP p z → ∃ x, z[(idxP p z).toNat]? = some x ∧ p x = true
  | [], h => by simp [idxP] at h
  | y :: z, h => by
    have e : idxP p (y :: z) = (if p y then 0 else if 0 ≤ idxP p z then idxP p z + 1 else -1) := rfl
    rw [e] at h ⊢
    by_cases h1 : p y = true
    · rw [if_pos h1]
      exact ⟨y, rfl, h1⟩
    · rw [if_neg h1] at h ⊢
      by_cases h2 : 0 ≤ idxP p z
      · rw [if_pos h2]
        obtain ⟨x, hx, hp⟩ := idxP_spec p z h2
        refine ⟨x, ?_, hp⟩
        rw [show (idxP p z + 1).toNat = (idxP p z).toNat + 1 from by omega, List.getElem?_cons_succ]
        exact hx
      · rw [if_neg h2] at h
        omega
theorem idxP_front (p : α → Bool) : ∀ (t a : List α), 0 ≤ idxP p a → idxP p (a ++ t) = idxP p a
  | [], a, h => by rw [List.append_nil]
  | y :: t, a, h => by
    have e := idxP_snoc p y a
    rw [if_pos h] at e
    rw [show a ++ y :: t = (a ++ [y]) ++ t from by simp, idxP_front p t (a ++ [y]) (by omega), e]
theorem set_same (l : List α) (i : Nat) (x : α) (h : l[i]? = some x) : l.set i x = l := by
  obtain ⟨hi, rfl⟩ := List.getElem?_eq_some_iff.1 h
  exact List.set_getElem_self hi
end
def pL (T : Int) (q : Int × Bool) : Bool := !q.2 && decide (q.1 < T)
def pG (T : Int) (q : Int × Bool) : Bool := !q.2 && decide (q.1 > T)
def tm (T : Int) (q : Int × Bool) : Int := if q.2 then 0 else q.1 - T
def und (T : Int) (z : List (Int × Bool)) : Int := (z.map (tm T)).sum
def cu (z : List (Int × Bool)) : Nat := z.countP (fun q => !q.2)
theorem und_set (T : Int) (z : List (Int × Bool)) (i : Nat) (q x : Int × Bool) (h : z[i]? = some x) : und T (z.set i q) = und T z - tm T x + tm T q := by
  induction z generalizing i with
  | nil => simp at h
  | cons y t ih =>
    cases i with
    | zero =>
      obtain rfl : y = x := by simpa using h
      simp only [und, List.set_cons_zero, List.map_cons, List.sum_cons]
      omega
    | succ i =>
      have := ih i (by simpa using h)
      simp only [und] at this
      simp only [und, List.set_cons_succ, List.map_cons, List.sum_cons, this]
      omega
theorem cu_set (z : List (Int × Bool)) (i : Nat) (v : Int) (x : Int × Bool) (h : z[i]? = some x) (hx : x.2 = false) : cu (z.set i (v, true)) + 1 = cu z := by
  induction z generalizing i with
  | nil => simp at h
  | cons y t ih =>
    cases i with
    | zero =>
      obtain rfl : y = x := by simpa using h
      simp [cu, hx]
    | succ i =>
      have := ih i (by simpa using h)
      simp only [cu] at this
      simp only [cu, List.set_cons_succ, List.countP_cons]
      omega
theorem cu_keep (z : List (Int × Bool)) (i : Nat) (v : Int) (x : Int × Bool) (h : z[i]? = some x) (hx : x.2 = false) : cu (z.set i (v, false)) = cu z := by
  induction z generalizing i with
  | nil => simp at h
  | cons y t ih =>
    cases i with
    | zero =>
      obtain rfl : y = x := by simpa using h
      simp [cu, hx]
    | succ i =>
      have := ih i (by simpa using h)
      simp only [cu] at this
      simp only [cu, List.set_cons_succ, List.countP_cons]
      omega
theorem und_neg (T : Int) (z : List (Int × Bool)) (h : z.any (pG T) = false) : und T z ≤ 0 ∧ (z.any (pL T) = true → und T z < 0) := by
  induction z with
  | nil => simp [und]
  | cons x t ih =>
    simp only [List.any_cons, Bool.or_eq_false_iff] at h
    obtain ⟨i1, i2⟩ := ih h.2
    have hx := h.1
    simp only [und] at i1 i2
    simp only [und, List.map_cons, List.sum_cons, List.any_cons, Bool.or_eq_true]
    obtain ⟨v, d⟩ := x
    cases d with
    | true =>
      simp only [tm, pL, if_true, Bool.not_true, Bool.false_and, Bool.false_eq_true, false_or]
      exact ⟨by omega, fun h => by have := i2 h; omega⟩
    | false =>
      simp only [pG, Bool.not_false, Bool.true_and, decide_eq_false_iff_not] at hx
      simp only [tm, pL, Bool.not_false, Bool.true_and, decide_eq_true_eq, Bool.false_eq_true, if_false]
      refine ⟨by omega, fun h => ?_⟩
      rcases h with h | h
      · omega
      · have := i2 h
        omega
theorem lo_hi (T : Int) (z : List (Int × Bool)) (h0 : und T z = 0) (h : 0 ≤ idxP (pL T) z) : 0 ≤ idxP (pG T) z := by
  rw [idxP_iff] at h ⊢
  cases hb : z.any (pG T) with
  | true => rfl
  | false =>
    have := (und_neg T z hb).2 h
    omega
/-- What holds of what is left, all the way. -/
def invZ (T : Int) (z : List (Int × Bool)) : Prop := (∀ q ∈ z, 0 ≤ q.1 ∧ q.1 ≤ 600 ∧ (q.2 = true → q.1 < T)) ∧ und T z = 0
/-- One round: the low one is done, the high one gives it what lacks. -/
def nz (T : Int) (z : List (Int × Bool)) (lo hi : Nat) : List (Int × Bool) := (z.set hi ((z.getD hi (0, false)).1 - (T - (z.getD lo (0, false)).1), false)).set lo ((z.getD lo (0, false)).1, true)
def alA (T : Int) : Nat → List (Int × Bool) → List S_Column → List S_Column
  | 0, _, out => out
  | m + 1, z, out => if idxP (pL T) z < 0 then out else alA T m (nz T z (idxP (pL T) z).toNat (idxP (pG T) z).toNat) (out.set (idxP (pL T) z).toNat ⟨(z.getD (idxP (pL T) z).toNat (0, false)).1, idxP (pG T) z⟩)
theorem getD_of {z : List (Int × Bool)} {i : Nat} {x d : Int × Bool} (h : z[i]? = some x) : z.getD i d = x := by
  rw [List.getD_eq_getElem?_getD, h]
  rfl
/-- All that a round needs and leaves. -/
theorem round (T : Int) (z : List (Int × Bool)) (hT : T ≤ 600) (h : invZ T z) (h0 : 0 ≤ idxP (pL T) z) :
    ∃ a b : Int, z[(idxP (pL T) z).toNat]? = some (a, false) ∧ z[(idxP (pG T) z).toNat]? = some (b, false) ∧ 0 ≤ idxP (pG T) z ∧ 0 ≤ a ∧ a < T ∧ T < b ∧ b ≤ 600 ∧ (idxP (pL T) z).toNat ≠ (idxP (pG T) z).toNat ∧
      invZ T (nz T z (idxP (pL T) z).toNat (idxP (pG T) z).toNat) ∧ cu (nz T z (idxP (pL T) z).toNat (idxP (pG T) z).toNat) + 1 = cu z ∧
      (nz T z (idxP (pL T) z).toNat (idxP (pG T) z).toNat).map (·.1) = (z.map (·.1)).set (idxP (pG T) z).toNat (b - (T - a)) ∧ (nz T z (idxP (pL T) z).toNat (idxP (pG T) z).toNat).map (·.2) = (z.map (·.2)).set (idxP (pL T) z).toNat true := by
  have h1 := lo_hi T z h.2 h0
  obtain ⟨⟨a, d⟩, ha, pa⟩ := idxP_spec (pL T) z h0
  obtain ⟨⟨b, c⟩, hb, pb⟩ := idxP_spec (pG T) z h1
  simp only [pL, Bool.and_eq_true, Bool.not_eq_true', decide_eq_true_eq] at pa
  simp only [pG, Bool.and_eq_true, Bool.not_eq_true', decide_eq_true_eq] at pb
  obtain ⟨rfl, pa⟩ := pa
  obtain ⟨rfl, pb⟩ := pb
  have ma := h.1 _ (List.mem_of_getElem? ha)
  have mb := h.1 _ (List.mem_of_getElem? hb)
  simp only at ma mb
  have hne : (idxP (pL T) z).toNat ≠ (idxP (pG T) z).toNat := fun e => by
    rw [e, hb] at ha
    simp only [Option.some.injEq, Prod.mk.injEq, and_true] at ha
    omega
  generalize (idxP (pL T) z).toNat = lo at ha hne ⊢
  generalize (idxP (pG T) z).toNat = hi at hb hne ⊢
  have ha2 : (z.set hi (b - (T - a), false))[lo]? = some (a, false) := by
    rw [List.getElem?_set_ne (fun e => hne e.symm)]
    exact ha
  have enz : nz T z lo hi = (z.set hi (b - (T - a), false)).set lo (a, true) := by
    unfold nz
    rw [getD_of ha, getD_of hb]
  have hhi := (List.getElem?_eq_some_iff.1 hb).1
  have hlo := (List.getElem?_eq_some_iff.1 ha).1
  refine ⟨a, b, ha, hb, h1, ma.1, pa, pb, mb.2.1, hne, ⟨fun q hq => ?_, ?_⟩, ?_, ?_, ?_⟩
  · rw [enz] at hq
    rcases List.mem_or_eq_of_mem_set hq with hq | rfl
    · rcases List.mem_or_eq_of_mem_set hq with hq | rfl
      · exact h.1 q hq
      · exact ⟨by simp only; omega, by simp only; omega, fun h => by cases h⟩
    · exact ⟨ma.1, ma.2.1, fun _ => pa⟩
  · rw [enz, und_set T _ lo _ _ ha2, und_set T _ hi _ _ hb, h.2]
    simp only [tm, Bool.false_eq_true, if_false, if_true]
    omega
  · rw [enz, cu_set _ lo _ _ ha2 rfl, cu_keep _ hi _ _ hb rfl]
  · rw [enz, List.map_set, List.map_set]
    refine set_same _ _ _ ?_
    rw [List.getElem?_set_ne (fun e => hne e.symm), List.getElem?_map, ha]
    rfl
  · rw [enz, List.map_set, List.map_set]
    rw [set_same (z.map (·.2)) hi false (by rw [List.getElem?_map, hb]; rfl)]
theorem idx_fst (T : Int) (z : List (Int × Bool)) (h : ∀ q ∈ z, q.2 = true → q.1 < T) : idxP (fun v => decide (v > T)) (z.map (·.1)) = idxP (pG T) z := by
  induction z with
  | nil => rfl
  | cons x t ih =>
    have i1 := ih (fun q hq => h q (by simp [hq]))
    rw [List.map_cons, show idxP (fun v => decide (v > T)) (x.1 :: t.map (·.1)) = (if decide (x.1 > T) = true then 0 else if 0 ≤ idxP (fun v => decide (v > T)) (t.map (·.1)) then idxP (fun v => decide (v > T)) (t.map (·.1)) + 1 else -1) from rfl, show idxP (pG T) (x :: t) = (if pG T x then 0 else if 0 ≤ idxP (pG T) t then idxP (pG T) t + 1 else -1) from rfl, i1]
    have hx := h x (by simp)
    obtain ⟨v, d⟩ := x
    cases d with
    | true =>
      have := hx rfl
      simp only at this
      have h2 : decide (v > T) = false := decide_eq_false (by omega)
      simp [pG, h2]
    | false => simp [pG]
theorem mem_cu {z : List (Int × Bool)} {q : Int × Bool} (h : q ∈ z) (hq : q.2 = false) : 0 < cu z := List.countP_pos_iff.2 ⟨q, h, by simp [hq]⟩
theorem pL_none {T : Int} {z : List (Int × Bool)} (h : cu z = 0) : idxP (pL T) z < 0 := by
  rcases Int.lt_or_le (idxP (pL T) z) 0 with h2 | h2
  · exact h2
  · obtain ⟨x, hx, hp⟩ := idxP_spec (pL T) z h2
    simp only [pL, Bool.and_eq_true, Bool.not_eq_true'] at hp
    have := mem_cu (List.mem_of_getElem? hx) hp.1
    omega
theorem getD_fst {z : List (Int × Bool)} {i : Nat} {x : Int × Bool} (h : z[i]? = some x) : rd (z.map (·.1)) (i : Int) = x.1 := by
  rw [rdn, List.getD_eq_getElem?_getD, List.getElem?_map, h]
  rfl
theorem alA_len (T : Int) : ∀ (m : Nat) (z : List (Int × Bool)) (out : List S_Column), (alA T m z out).length = out.length
  | 0, _, _ => rfl
  | m + 1, z, out => by
    rw [alA]
    split
    · rfl
    · rw [alA_len T m, List.length_set]
theorem implAl (T : Int) (hT : T ≤ 600) (hT0 : 1 ≤ T) : ∀ (m : Nat) (z : List (Int × Bool)) (out : List S_Column), cu z = m → invZ T z → z.length ≤ 12 → out.length = z.length → Ev (fun k => impl_aliasOf.l1 k (z.map (·.1)) out (z.map (·.2)) T) (alA T m z out) := by
  intro m
  induction m with
  | zero =>
    intro z out hm hz hl ho
    have hn := pL_none (T := T) hm
    refine Ev.succ ?_
    simp only [impl_aliasOf.l1, List.length_map]
    refine Ev.eq_ (loop_list z (fun k (_ : Unit) i => impl_aliasOf.l2 k (z.map (·.1)) out (z.map (·.2)) (-1) (z.map (·.1)) (z.length : Int) i T) (fun _ _ => out) (fun _ _ => True) ?_ ?_ () trivial) rfl
    · intro _ _
      refine Ev.succ ?_
      simp only [impl_aliasOf.l2, List.length_map]
      exact Ev.neg (by omega) (Ev.pos (by omega) (Ev.const rfl))
    · intro p x t _ e _ ih
      have hmid := len_mid e
      have hd : rdOf false (z.map (·.2)) (p.length : Int) = x.2 := by
        have := rdOf_mid (d := false) (l := z.map (·.2)) (p := p.map (·.2)) (x := x.2) (t := t.map (·.2)) (by rw [e]; simp)
        simpa using this
      have hx2 : x.2 = true := by
        cases h : x.2 with
        | true => rfl
        | false => have := mem_cu (mem_mid e) h; omega
      refine Ev.succ ?_
      simp only [impl_aliasOf.l2, List.length_map]
      refine Ev.pos hmid.1 (Ev.pos (by omega) (Ev.pos hmid.1 (Ev.pos hmid.1 (Ev.pos (by rw [hd, hx2]) ?_))))
      rw [w64 (by omega) (by omega)]
      exact ih () trivial
  | succ m ihm =>
    intro z out hm hz hl ho
    refine Ev.succ ?_
    simp only [impl_aliasOf.l1, List.length_map]
    refine Ev.eq_ (loop_list z (fun k (_ : Unit) i => impl_aliasOf.l2 k (z.map (·.1)) out (z.map (·.2)) (-1) (z.map (·.1)) (z.length : Int) i T) (fun _ _ => alA T (m + 1) z out) (fun p _ => idxP (pL T) p < 0) ?_ ?_ () (show (-1 : Int) < 0 by omega)) rfl
    · intro _ hp
      refine Ev.succ ?_
      simp only [impl_aliasOf.l2, List.length_map]
      refine Ev.neg (by omega) (Ev.pos (by omega) (Ev.const ?_))
      rw [alA, if_pos hp]
    · intro p x t _ e hp ih
      have hmid := len_mid e
      have hd : rdOf false (z.map (·.2)) (p.length : Int) = x.2 := by
        have := rdOf_mid (d := false) (l := z.map (·.2)) (p := p.map (·.2)) (x := x.2) (t := t.map (·.2)) (by rw [e]; simp)
        simpa using this
      have hgx : z[p.length]? = some x := by rw [e]; simp
      have hr := getD_fst hgx
      have hsn := idxP_snoc (pL T) x p
      rw [if_neg (by omega)] at hsn
      refine Ev.succ ?_
      simp only [impl_aliasOf.l2, List.length_map]
      refine Ev.pos hmid.1 (Ev.pos (by omega) (Ev.pos hmid.1 (Ev.pos hmid.1 ?_)))
      rw [hd, hr, w64 (i := (p.length : Int) + 1) (by omega) (by omega)]
      obtain ⟨v, d⟩ := x
      cases d with
      | true =>
        refine Ev.pos rfl (ih () ?_)
        rw [hsn, if_neg (by simp [pL])]
        omega
      | false =>
        refine Ev.neg (by simp) ?_
        by_cases hv : v < T
        · have hlo : idxP (pL T) z = (p.length : Int) := by
            rw [if_pos (by simp [pL, hv])] at hsn
            rw [e, show p ++ (v, false) :: t = (p ++ [(v, false)]) ++ t from by simp, idxP_front _ t _ (by omega)]
            exact hsn
          obtain ⟨a, b, ha, hb, h1, a0, a1, b0, b1, hne, hinv, hcu, hleft, hdone⟩ := round T z hT hz (by omega)
          rw [hlo, Int.toNat_natCast] at ha hne hinv hcu hleft hdone
          have hav : a = v := by rw [hgx] at ha; simpa using ha.symm
          subst hav
          have hbl := (List.getElem?_eq_some_iff.1 hb).1
          have hbi : idxP (pG T) z = (((idxP (pG T) z).toNat : Nat) : Int) := by omega
          have hrb := getD_fst hb
          rw [← hbi] at hrb
          refine Ev.pos hv (Ev.neg (by omega) (Ev.bind' (idxP (pG T) z) ?_ (Ev.pos hmid.1 (Ev.pos (by omega) (Ev.pos h1 (Ev.pos (by omega) ?_))))))
          · refine Ev.eq_ (slices_IndexFunc_int_int_aliasOf_1.idx (z.map (·.1)) T (fun v => decide (v > T)) (by simp; omega) (fun x _ => Ev.const rfl)) ?_
            exact idx_fst T z (fun q hq => (hz.1 q hq).2.2)
          · rw [hrb, w64 (i := T - a) (by omega) (by omega), w64 (by omega) (by omega), Int.toNat_natCast, ← hleft, ← hdone]
            refine Ev.eq_ (ihm _ (out.set p.length ⟨a, idxP (pG T) z⟩) (by omega) hinv (by rw [nz, List.length_set, List.length_set]; exact hl) (by rw [nz, List.length_set, List.length_set, List.length_set]; exact ho)) ?_
            rw [alA, if_neg (by omega), hlo, Int.toNat_natCast, getD_of hgx]
        · refine Ev.neg hv (ih () ?_)
          rw [hsn, if_neg (by simp [pL, hv])]
          omega
theorem alA_stop {T : Int} {z : List (Int × Bool)} (out : List S_Column) (h : idxP (pL T) z < 0) : ∀ m, alA T m z out = out
  | 0 => rfl
  | m + 1 => by rw [alA, if_pos h]
theorem specAlRound (T : Int) (hT : T ≤ 600) (hT0 : 1 ≤ T) (z : List (Int × Bool)) (out : List S_Column) (hz : invZ T z) (hl : z.length ≤ 12) (ho : out.length = z.length)
    (next : ∀ (z' : List (Int × Bool)) (out' : List S_Column), cu z' < cu z → invZ T z' → z'.length ≤ 12 → out'.length = z'.length → Ev (fun k => spec_AliasOf.l1 k T (z'.map (·.1)) (z'.map (·.2)) out') (alA T (cu z') z' out', true)) :
    Ev (fun k => spec_AliasOf.l1 k T (z.map (·.1)) (z.map (·.2)) out) (alA T (cu z) z out, true) := by
  refine Ev.succ ?_
  simp only [spec_AliasOf.l1, List.length_map]
  refine Ev.eq_ (loop_list z (fun k (s : Int × Int) i => spec_AliasOf.l2 k T (z.map (·.1)) (z.map (·.2)) out s.1 s.2 (z.length : Int) i) (fun _ _ => (alA T (cu z) z out, true)) (fun p s => s.1 = idxP (pL T) p ∧ s.2 = idxP (pG T) p) ?_ ?_ (-1, -1) ⟨rfl, rfl⟩) rfl
  · rintro ⟨s1, s2⟩ ⟨h1, h2⟩
    simp only at h1 h2
    subst h1 h2
    refine Ev.succ ?_
    simp only [spec_AliasOf.l2, List.length_map]
    refine Ev.neg (by omega) ?_
    by_cases h0 : idxP (pL T) z < 0
    · refine Ev.pos h0 (Ev.const ?_)
      rw [alA_stop out h0]
    · obtain ⟨a, b, ha, hb, h1, a0, a1, b0, b1, hne, hinv, hcu, hleft, hdone⟩ := round T z hT hz (by omega)
      have hal := (List.getElem?_eq_some_iff.1 ha).1
      have hbl := (List.getElem?_eq_some_iff.1 hb).1
      have hai : idxP (pL T) z = (((idxP (pL T) z).toNat : Nat) : Int) := by omega
      have hbi : idxP (pG T) z = (((idxP (pG T) z).toNat : Nat) : Int) := by omega
      have hra := getD_fst ha
      have hrb := getD_fst hb
      rw [← hai] at hra
      rw [← hbi] at hrb
      refine Ev.neg h0 (Ev.neg (by omega) (Ev.pos (by omega) (Ev.pos (by omega) (Ev.pos (by omega) (Ev.pos h1 (Ev.pos (by omega) (Ev.pos (by omega) ?_)))))))
      rw [hra, hrb, w64 (i := T - a) (by omega) (by omega), w64 (by omega) (by omega), ← hleft, ← hdone]
      refine Ev.eq_ (next _ (out.set (idxP (pL T) z).toNat ⟨a, idxP (pG T) z⟩) (by omega) hinv (by rw [nz, List.length_set, List.length_set]; exact hl) (by rw [nz, List.length_set, List.length_set, List.length_set]; exact ho)) ?_
      rw [← hcu, alA, if_neg h0, getD_of ha]
  · rintro p x t ⟨s1, s2⟩ e ⟨h1, h2⟩ ih
    simp only at h1 h2
    subst h1 h2
    have hmid := len_mid e
    have hd : rdOf false (z.map (·.2)) (p.length : Int) = x.2 := by
      have := rdOf_mid (d := false) (l := z.map (·.2)) (p := p.map (·.2)) (x := x.2) (t := t.map (·.2)) (by rw [e]; simp)
      simpa using this
    have hgx : z[p.length]? = some x := by rw [e]; simp
    have hr := getD_fst hgx
    have hsn := idxP_snoc (pL T) x p
    have hsg := idxP_snoc (pG T) x p
    have hgl := idxP_neg (pL T) p
    have hgg := idxP_neg (pG T) p
    refine Ev.succ ?_
    simp only [spec_AliasOf.l2, List.length_map]
    refine Ev.pos hmid.1 (Ev.pos (by omega) (Ev.pos hmid.1 ?_))
    rw [hd, hr, w64 (i := (p.length : Int) + 1) (by omega) (by omega)]
    obtain ⟨v, d⟩ := x
    cases d with
    | true =>
      refine Ev.pos rfl (ih (idxP (pL T) p, idxP (pG T) p) ⟨?_, ?_⟩)
      · rw [hsn, if_neg (c := pL T (v, true) = true) (by simp [pL])]
        split
        · rfl
        · rename_i h; exact hgl h
      · rw [hsg, if_neg (c := pG T (v, true) = true) (by simp [pG])]
        split
        · rfl
        · rename_i h; exact hgg h
    | false =>
      refine Ev.neg (by simp) (Ev.pos hmid.1 ?_)
      by_cases hv : v < T
      · refine Ev.pos hv (Ev.succ ?_)
        simp only [spec_AliasOf.j3, List.length_map]
        have g2 : idxP (pG T) p = idxP (pG T) (p ++ [(v, false)]) := by
          rw [hsg, if_neg (c := pG T (v, false) = true) (by simp [pG]; omega)]
          split
          · rfl
          · rename_i h; exact hgg h
        rw [hr, w64 (i := (p.length : Int) + 1) (by omega) (by omega)]
        by_cases h0 : idxP (pL T) p < 0
        · refine Ev.pos (by simp [h0]) (Ev.pos (by omega) (Ev.pos hmid.1 (Ev.neg (by simp only; omega) (ih ((p.length : Int), idxP (pG T) p) ⟨?_, g2⟩))))
          rw [hsn, if_neg (by omega), if_pos (by simp [pL, hv])]
        · refine Ev.neg (by simp [h0]) (Ev.pos (by omega) (Ev.pos hmid.1 (Ev.neg (by simp only; omega) (ih (idxP (pL T) p, idxP (pG T) p) ⟨?_, g2⟩))))
          rw [hsn, if_pos (by omega)]
      · refine Ev.neg hv (Ev.succ ?_)
        simp only [spec_AliasOf.j3, List.length_map]
        have g1 : idxP (pL T) p = idxP (pL T) (p ++ [(v, false)]) := by
          rw [hsn, if_neg (c := pL T (v, false) = true) (by simp [pL, hv])]
          split
          · rfl
          · rename_i h; exact hgl h
        rw [hr, w64 (i := (p.length : Int) + 1) (by omega) (by omega)]
        refine Ev.neg (by simp) (Ev.pos (by omega) (Ev.pos hmid.1 ?_))
        by_cases hg : v > T
        · refine Ev.pos hg ?_
          by_cases h0 : idxP (pG T) p < 0
          · refine Ev.pos h0 (ih (idxP (pL T) p, (p.length : Int)) ⟨g1, ?_⟩)
            rw [hsg, if_neg (by omega), if_pos (by simp [pG, hg])]
          · refine Ev.neg h0 (ih (idxP (pL T) p, idxP (pG T) p) ⟨g1, ?_⟩)
            rw [hsg, if_pos (by omega)]
        · refine Ev.neg hg (ih (idxP (pL T) p, idxP (pG T) p) ⟨g1, ?_⟩)
          rw [hsg, if_neg (c := pG T (v, false) = true) (by simp [pG, hg])]
          split
          · rfl
          · rename_i h; exact hgg h
theorem specAl (T : Int) (hT : T ≤ 600) (hT0 : 1 ≤ T) : ∀ (m : Nat) (z : List (Int × Bool)) (out : List S_Column), cu z ≤ m → invZ T z → z.length ≤ 12 → out.length = z.length → Ev (fun k => spec_AliasOf.l1 k T (z.map (·.1)) (z.map (·.2)) out) (alA T (cu z) z out, true) := by
  intro m
  induction m with
  | zero =>
    intro z out hm hz hl ho
    exact specAlRound T hT hT0 z out hz hl ho (fun z' out' hc _ _ _ => by omega)
  | succ m ihm =>
    intro z out hm hz hl ho
    exact specAlRound T hT hT0 z out hz hl ho (fun z' out' hc hi hl' ho' => ihm z' out' (by omega) hi hl' ho')
def cini (T : Int) : Nat → List S_Column
  | 0 => []
  | n + 1 => cini T n ++ [⟨T, (n : Int)⟩]
theorem cini_len (T : Int) : ∀ n, (cini T n).length = n
  | 0 => rfl
  | n + 1 => by rw [cini, List.length_append, cini_len T n]; rfl
def z0 (l : List Int) : List (Int × Bool) := l.map fun x => (x * (l.length : Int), false)
theorem z0_fst (l : List Int) : (z0 l).map (·.1) = l.map fun x => x * (l.length : Int) := by rw [z0, List.map_map]; rfl
theorem z0_snd (l : List Int) : (z0 l).map (·.2) = List.replicate l.length false := by
  rw [z0, List.map_map]
  exact List.map_const'
theorem und_mul (T c : Int) (l : List Int) : und T (l.map fun x => (x * c, false)) = c * l.sum - T * (l.length : Int) := by
  induction l with
  | nil => simp [und]
  | cons x t ih =>
    simp only [und, List.map_cons, List.sum_cons, tm, Bool.false_eq_true, if_false, List.length_cons] at ih ⊢
    rw [ih, Int.mul_add, show ((t.length + 1 : Nat) : Int) = (t.length : Int) + 1 from by omega, Int.mul_add, Int.mul_one, Int.mul_comm c x]
    omega
theorem invZ0 {l : List Int} (h : goodW l = true) : invZ l.sum (z0 l) ∧ cu (z0 l) = l.length := by
  obtain ⟨k1, k2, k3, k4, k5⟩ := goodW_out h
  refine ⟨⟨fun q hq => ?_, ?_⟩, ?_⟩
  · obtain ⟨x, hx, rfl⟩ := List.mem_map.1 hq
    have hb := k3 x hx
    have h1 : 0 ≤ x * (l.length : Int) := Int.mul_nonneg hb.1 (by omega)
    have h2 : x * (l.length : Int) ≤ 50 * 12 := Int.mul_le_mul hb.2 (by omega) (by omega) (by omega)
    exact ⟨h1, by simp only; omega, fun h => by cases h⟩
  · rw [z0, und_mul, Int.mul_comm]
    omega
  · rw [cu, z0, List.countP_map]
    exact List.countP_eq_length.2 (fun x _ => rfl)
def aliasA (l : List Int) : List S_Column × Bool := if goodW l = true then (alA l.sum l.length (z0 l) (cini l.sum l.length), true) else ([], false)
theorem aliasA_len (l : List Int) : (aliasA l).1.length ≤ l.length := by
  unfold aliasA
  split
  · rw [alA_len, cini_len]; exact Nat.le_refl _
  · simp
theorem implAlias_eq (l : List Int) (hl : l.length ≤ 1048576) : Ev (fun k => impl_AliasOf.f k l) (aliasA l) := by
  unfold impl_AliasOf.f aliasA
  refine Ev.bind' _ (implGW_eq l hl) ?_
  cases hg : goodW l with
  | false => exact Ev.ite_false (Ev.const (by simp))
  | true =>
    obtain ⟨k1, k2, k3, k4, k5⟩ := goodW_out hg
    obtain ⟨i1, i2⟩ := invZ0 hg
    refine Ev.ite_true (Ev.bind' (alA l.sum l.length (z0 l) (cini l.sum l.length)) ?_ (Ev.const (by simp)))
    unfold impl_aliasOf.f
    refine Ev.bind' _ (total_eq 0 50 l (by omega) (by omega) (by omega) (by omega) hl (List.all_eq_true.2 (fun v hv => by simpa [inR] using k3 v hv))) ?_
    refine Ev.eq_ (loop_list l (fun k (s : List Int × List S_Column) i => impl_aliasOf.l0 k l s.1 s.2 l (l.length : Int) i l.sum) (fun _ _ => alA l.sum l.length (z0 l) (cini l.sum l.length)) (fun p s => s.1 = p.map (fun x => x * (l.length : Int)) ∧ s.2 = cini l.sum p.length) ?_ ?_ ([], []) ⟨rfl, rfl⟩) rfl
    · rintro ⟨s1, s2⟩ ⟨h1, h2⟩
      simp only at h1 h2
      subst h1 h2
      refine Ev.succ ?_
      simp only [impl_aliasOf.l0]
      refine Ev.neg (by omega) (Ev.pos (by omega) (Ev.pos (by omega) ?_))
      rw [Int.toNat_natCast, ← z0_fst, ← z0_snd]
      exact implAl l.sum k5 (by omega) l.length (z0 l) (cini l.sum l.length) i2 i1 (by simp [z0]; omega) (by rw [cini_len]; simp [z0])
    · rintro p x t ⟨s1, s2⟩ e ⟨h1, h2⟩ ih
      simp only at h1 h2
      subst h1 h2
      have hm := len_mid e
      have hb := k3 x (mem_mid e)
      have h1 : 0 ≤ x * (l.length : Int) := Int.mul_nonneg hb.1 (by omega)
      have h2 : x * (l.length : Int) ≤ 50 * 12 := Int.mul_le_mul hb.2 (by omega) (by omega) (by omega)
      refine Ev.succ ?_
      simp only [impl_aliasOf.l0, rd_mid' e]
      refine Ev.pos hm.1 (Ev.pos (by omega) (Ev.pos hm.1 (Ev.pos (by rw [List.length_map]; omega) (Ev.pos (by rw [cini_len]; omega) ?_))))
      rw [w64 (i := x * (l.length : Int)) (by omega) (by omega), w64 (by omega) (by omega)]
      exact ih (p.map (fun x => x * (l.length : Int)) ++ [x * (l.length : Int)], cini l.sum p.length ++ [⟨l.sum, (p.length : Int)⟩]) ⟨by simp, by simp [cini]⟩
theorem specAlias_eq (l : List Int) (hl : l.length ≤ 1048576) : Ev (fun k => spec_AliasOf.f k l) (aliasA l) := by
  unfold spec_AliasOf.f aliasA
  refine Ev.bind' _ (specGW_eq l hl) ?_
  cases hg : goodW l with
  | false => exact Ev.ite_false (Ev.const (by simp))
  | true =>
    obtain ⟨k1, k2, k3, k4, k5⟩ := goodW_out hg
    obtain ⟨i1, i2⟩ := invZ0 hg
    refine Ev.ite_true (Ev.bind' _ (specTotal_eq l hl k3) (Ev.pos (by omega) (Ev.pos (by omega) (Ev.pos (by omega) (Ev.pos (by omega) ?_)))))
    rw [Int.toNat_natCast, if_pos rfl]
    refine Ev.eq_ (loop_list l (fun k (s : List Int × List S_Column) i => spec_AliasOf.l0 k (l.length : Int) l.sum s.1 (List.replicate l.length false) s.2 l (l.length : Int) i) (fun _ _ => (alA l.sum l.length (z0 l) (cini l.sum l.length), true)) (fun p s => (∃ q, s.1 = p.map (fun x => x * (l.length : Int)) ++ q ∧ s.1.length = l.length) ∧ ∃ q, s.2 = cini l.sum p.length ++ q ∧ s.2.length = l.length) ?_ ?_ (List.replicate l.length 0, List.replicate l.length z_Column) ⟨⟨_, rfl, by simp⟩, ⟨_, rfl, by simp⟩⟩) rfl
    · rintro ⟨s1, s2⟩ ⟨⟨q1, h1, g1⟩, ⟨q2, h2, g2⟩⟩
      simp only at h1 h2 g1 g2
      subst h1 h2
      have e1 : q1 = [] := List.eq_nil_of_length_eq_zero (by simpa using g1)
      have e2 : q2 = [] := List.eq_nil_of_length_eq_zero (by simpa [cini_len] using g2)
      subst e1 e2
      refine Ev.succ ?_
      simp only [spec_AliasOf.l0, List.append_nil]
      refine Ev.neg (by omega) ?_
      rw [← z0_fst, ← z0_snd]
      refine Ev.eq_ (specAl l.sum k5 (by omega) l.length (z0 l) (cini l.sum l.length) (by omega) i1 (by simp [z0]; omega) (by rw [cini_len]; simp [z0])) ?_
      rw [i2]
    · rintro p x t ⟨s1, s2⟩ e ⟨⟨q1, h1, g1⟩, ⟨q2, h2, g2⟩⟩ ih
      simp only at h1 h2 g1 g2
      subst h1 h2
      have hm := len_mid e
      have hb := k3 x (mem_mid e)
      have h1 : 0 ≤ x * (l.length : Int) := Int.mul_nonneg hb.1 (by omega)
      have h2 : x * (l.length : Int) ≤ 50 * 12 := Int.mul_le_mul hb.2 (by omega) (by omega) (by omega)
      cases q1 with
      | nil => simp at g1; omega
      | cons y1 q1 =>
        cases q2 with
        | nil => simp [cini_len] at g2; omega
        | cons y2 q2 =>
          refine Ev.succ ?_
          simp only [spec_AliasOf.l0, rd_mid' e]
          refine Ev.pos hm.1 (Ev.pos (by omega) (Ev.pos hm.1 (Ev.pos (by omega) (Ev.pos (by omega) ?_))))
          have e1 := set_mid (p.map (fun x => x * (l.length : Int))) q1 (x * (l.length : Int)) y1
          have e2 := set_mid (cini l.sum p.length) q2 (⟨l.sum, (p.length : Int)⟩ : S_Column) y2
          rw [List.length_map] at e1
          rw [cini_len] at e2
          rw [w64 (i := x * (l.length : Int)) (by omega) (by omega), w64 (by omega) (by omega), e1, e2]
          refine ih ((p.map (fun x => x * (l.length : Int)) ++ [x * (l.length : Int)]) ++ q1, (cini l.sum p.length ++ [⟨l.sum, (p.length : Int)⟩]) ++ q2) ⟨⟨q1, by simp, by simp at g1 ⊢; omega⟩, ⟨q2, by simp [cini], by simp [cini_len] at g2 ⊢; omega⟩⟩
end Go.Proofs.Ytioeomjjfajldaa.PL
