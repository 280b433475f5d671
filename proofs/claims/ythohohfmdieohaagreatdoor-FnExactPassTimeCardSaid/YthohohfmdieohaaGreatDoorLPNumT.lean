/- Decimal numerals: what the library's Atoi and Itoa say of them,and what the reference's own reading says. Plain lemmas. -/
import Derived.Lib.AtoiAll
import Derived.Lib.ItoaNum
set_option linter.unusedVariables false
set_option linter.unusedSimpArgs false
namespace Go.Proofs.YthohohfmdieohaaGreatDoor.PL
def isDg (b:UInt8):Bool:=decide (48≤b.toNat)&&decide (b.toNat≤57)
def dgv (b:UInt8):Nat:=b.toNat - 48
def valF (acc:Nat) (l:List UInt8):Nat:=l.foldl (fun n b=>10 * n+dgv b) acc
theorem valF_nil (acc:Nat):valF acc []=acc:=List.foldl_nil
theorem valF_cons0 (acc:Nat) (b:UInt8) (t:List UInt8):valF acc (b::t)=valF (10 * acc+dgv b) t:=by
  unfold valF
  rw[List.foldl_cons]
theorem cj_ (acc:Nat) (b:UInt8) (t:List UInt8):valF acc (b::t)=valF (10 * acc+(b.toNat - 48)) t:=by
  rw[valF_cons0,dgv]
def isNumeral (l:List UInt8):Bool := !l.isEmpty&&l.all isDg&&(decide (l.length=1) || !decide (l.head? = some 48))
theorem valF_append (l m:List UInt8):∀acc,valF acc (l++m)=valF (valF acc l) m:=by
  induction l with
  | nil=>intro acc;rw[List.nil_append,valF_nil]
  | cons b t ih =>
    intro acc
    rw[List.cons_append,cj_,cj_]
    exact ih (10 * acc+(b.toNat - 48))
theorem valF_lt (l:List UInt8) (h:l.all isDg=true):∀acc,valF acc l<(acc+1) * 10 ^ l.length:=by
  induction l with
  | nil=>intro acc;simp[cj_,valF_nil]
  | cons b t ih =>
    intro acc
    simp only[List.all_cons,Bool.and_eq_true,isDg,decide_eq_true_eq] at h
    have:=ih h.2 (10 * acc+(b.toNat - 48))
    simp only[cj_,List.length_cons,Nat.pow_succ]
    refine Nat.lt_of_lt_of_le this ?_
    have h1:10 * acc+(b.toNat - 48)+1≤(acc+1) * 10:=by omega
    have h2:=Nat.mul_le_mul_right (10 ^ t.length) h1
    have e:(acc+1) * (10 ^ t.length * 10)=(acc+1) * 10 * 10 ^ t.length:=by simp only[Nat.mul_assoc,Nat.mul_comm,Nat.mul_left_comm]
    rw[e]
    exact h2
theorem valF_ge (l:List UInt8):∀acc,acc * 10 ^ l.length≤valF acc l:=by
  induction l with
  | nil=>intro acc;simp[cj_,valF_nil]
  | cons b t ih =>
    intro acc
    have:=ih (10 * acc+(b.toNat - 48))
    simp only[cj_,List.length_cons,Nat.pow_succ]
    refine Nat.le_trans ?_ this
    have h1:acc * 10≤10 * acc+(b.toNat - 48):=by omega
    have h2:=Nat.mul_le_mul_right (10 ^ t.length) h1
    have e:acc * (10 ^ t.length * 10)=acc * 10 * 10 ^ t.length:=by simp only[Nat.mul_assoc,Nat.mul_comm,Nat.mul_left_comm]
    rw[e]
    exact h2
theorem numeral_great (l:List UInt8) (h:isNumeral l=true) (hl:2≤l.length):10 ^ (l.length - 1)≤valF 0 l:=by
  cases l with
  | nil=>simp at hl
  | cons b t =>
    unfold isNumeral at h
    simp only[List.isEmpty_cons,Bool.not_false,Bool.true_and,List.all_cons,Bool.and_eq_true,Bool.or_eq_true,decide_eq_true_eq,List.length_cons,List.head?_cons,Option.some.injEq,Bool.not_eq_true',decide_eq_false_iff_not,isDg] at h
    simp only[List.length_cons] at hl ⊢
    have h1:b≠48:=by
      rcases h.2 with h2|h2
      · omega
      · exact h2
    have h2:b.toNat≠48:=fun e=>h1 (by apply UInt8.toNat_inj.mp;rw[e];rfl)
    have:=valF_ge t (10 * 0+(b.toNat - 48))
    simp only[cj_,valF_nil]
    refine Nat.le_trans ?_ this
    have h3:1≤10 * 0+(b.toNat - 48):=by omega
    have:=Nat.mul_le_mul_right (10 ^ t.length) h3
    simpa using this
theorem dg_ofNat (b:UInt8) (h:isDg b=true):UInt8.ofNat (48+(b.toNat - 48))=b:=by
  simp only[isDg,Bool.and_eq_true,decide_eq_true_eq] at h
  apply UInt8.toNat_inj.mp
  rw[show 48+(b.toNat - 48)=b.toNat by omega]
  simp
theorem dg_of (d:Nat) (h:d<10):isDg (UInt8.ofNat (48+d))=true∧(UInt8.ofNat (48+d)).toNat=48+d:=by
  have:(UInt8.ofNat (48+d)).toNat=48+d:=by
    rw[UInt8.toNat_ofNat']
    omega
  refine⟨?_,this⟩
  unfold isDg
  rw[this]
  simp
  omega
theorem dec_spells (u:Nat):isNumeral (Go.Lib.decDigits u)=true∧valF 0 (Go.Lib.decDigits u)=u:=by
  induction u using Nat.strongRecOn with
  | _ u ih =>
    by_cases h:u<10
    · rw[Go.Lib.decDigits_one h]
      obtain⟨h1,h2⟩:=dg_of u h
      refine⟨?_,?_⟩
      · unfold isNumeral
        simp only[List.all_cons,h1,List.all_nil,List.isEmpty_cons,List.length_cons,List.length_nil]
        rfl
      simp only[cj_,valF_nil,h2]
      omega
    · rw[Go.Lib.decDigits,dif_neg h]
      obtain⟨h1,h2⟩:=ih (u / 10) (by omega)
      obtain⟨h3,h4⟩:=dg_of (u % 10) (by omega)
      refine⟨?_,?_⟩
      · have hz:10≤u:=by omega
        have hp:1≤u / 10:=by omega
        generalize hL:Go.Lib.decDigits (u / 10)=L at h1 h2
        unfold isNumeral at h1 ⊢
        cases L with
        | nil=>simp at h1
        | cons b t =>
          simp only[List.isEmpty_cons,Bool.not_false,Bool.true_and,Bool.and_eq_true,Bool.or_eq_true,decide_eq_true_eq,List.head?_cons,Option.some.injEq,Bool.not_eq_true',decide_eq_false_iff_not] at h1
          have hb:b≠48:=by
            rcases h1.2 with h5|h5
            · intro e
              subst e
              have ht:t=[]:=by
                simp only[List.length_cons] at h5
                exact List.eq_nil_of_length_eq_zero (by omega)
              subst ht
              have h48:(48:UInt8).toNat=48:=rfl
              simp only[cj_,valF_nil,h48] at h2
              omega
            · exact h5
          simp only[List.cons_append,List.isEmpty_cons,Bool.not_false,Bool.true_and,List.all_cons,List.all_append,List.all_nil,Bool.and_true,Bool.and_eq_true,Bool.or_eq_true,decide_eq_true_eq,List.head?_cons,Option.some.injEq,Bool.not_eq_true',decide_eq_false_iff_not]
          have:=h1.1
          simp only[List.all_cons,Bool.and_eq_true] at this
          exact⟨⟨this.1,this.2,h3⟩,Or.inr hb⟩
      · rw[valF_append,h2]
        simp only[cj_,valF_nil,h4]
        omega
theorem dec_valF (l:List UInt8) (h:isNumeral l=true):Go.Lib.decDigits (valF 0 l)=l:=by
  have main:∀(n:Nat) (l:List UInt8),l.length=n→isNumeral l=true→Go.Lib.decDigits (valF 0 l)=l:=by
    intro n
    induction n with
    | zero=>intro l hl h;have:=List.eq_nil_of_length_eq_zero hl;subst this;simp[isNumeral] at h
    | succ n ih =>
      intro l hl h
      obtain⟨m,b,rfl⟩:∃m b,l=m++[b]:=⟨l.dropLast,l.getLast (by intro e;subst e;simp at hl),(List.dropLast_concat_getLast _).symm⟩
      have hm:m.length=n:=by simpa using hl
      have hb:isDg b=true:=by
        simp only[isNumeral,List.all_append,List.all_cons,Bool.and_eq_true] at h
        exact h.1.2.2.1
      have hb':=hb
      simp only[isDg,Bool.and_eq_true,decide_eq_true_eq] at hb'
      cases m with
      | nil =>
        have e:valF 0 ([]++[b])=b.toNat - 48:=by simp[cj_,valF_nil]
        rw[e,Go.Lib.decDigits_one (by omega),dg_ofNat b hb]
        rfl
      | cons c t =>
        have hnum:isNumeral (c::t)=true:=by
          simp only[isNumeral,List.cons_append,List.isEmpty_cons,Bool.not_false,Bool.true_and,List.all_cons,List.all_append,Bool.and_eq_true,Bool.or_eq_true,decide_eq_true_eq,List.length_cons,List.length_append,List.length_nil,List.head?_cons,Option.some.injEq,Bool.not_eq_true',decide_eq_false_iff_not] at h ⊢
          refine⟨⟨h.1.1,h.1.2.1⟩,?_⟩
          rcases h.2 with h2|h2
          · omega
          · exact Or.inr h2
        have hge:1≤valF 0 (c::t):=by
          by_cases ht:t=[]
          · subst ht
            simp only[isNumeral,List.cons_append,List.nil_append,List.isEmpty_cons,Bool.not_false,Bool.true_and,List.all_cons,List.all_nil,Bool.and_eq_true,Bool.or_eq_true,decide_eq_true_eq,List.length_cons,List.length_nil,List.head?_cons,Option.some.injEq,Bool.not_eq_true',decide_eq_false_iff_not,isDg] at h
            have hc:c≠48:=by
              rcases h.2 with h2|h2
              · omega
              · exact h2
            have hc2:c.toNat≠48:=fun e=>hc (by apply UInt8.toNat_inj.mp;rw[e];rfl)
            simp only[cj_,valF_nil]
            omega
          · have hl2:2≤(c::t).length:=by
              have:1≤t.length:=by
                rcases Nat.eq_zero_or_pos t.length with h0|h0
                · exact absurd (List.eq_nil_of_length_eq_zero h0) ht
                · exact h0
              simp only[List.length_cons]
              omega
            have:=numeral_great _ hnum hl2
            have:=Nat.one_le_pow ((c::t).length - 1) 10 (by decide)
            omega
        have e:valF 0 ((c::t)++[b])=10 * valF 0 (c::t)+(b.toNat - 48):=by rw[valF_append,cj_,valF_nil]
        rw[e,Go.Lib.decDigits,dif_neg (by omega)]
        rw[show(10 * valF 0 (c::t)+(b.toNat - 48)) / 10=valF 0 (c::t) by omega,show(10 * valF 0 (c::t)+(b.toNat - 48)) % 10=b.toNat - 48 by omega,ih (c::t) hm hnum,dg_ofNat b hb]
  exact main _ l rfl h
theorem parse_digits (l:List UInt8) (h:l.all isDg=true):∀acc,valF acc l<18446744073709551616→Go.Lib.parseUint10 acc l=.ok (valF acc l):=by
  induction l with
  | nil=>intro acc _;rw[valF_nil];rfl
  | cons b t ih =>
    intro acc hv
    simp only[List.all_cons,Bool.and_eq_true,isDg,decide_eq_true_eq] at h
    have hge:=valF_ge t (10 * acc+(b.toNat - 48))
    simp only[cj_,valF_nil] at hv ⊢
    have h1:10 * acc+(b.toNat - 48)≤(10 * acc+(b.toNat - 48)) * 10 ^ t.length:=Nat.le_mul_of_pos_right _ (Nat.one_le_pow _ _ (by decide))
    have h2:10 * acc+(b.toNat - 48)<18446744073709551616:=by omega
    simp only[Go.Lib.parseUint10]
    rw[if_pos h.1,if_neg (by omega),if_neg (by omega),Nat.mul_comm acc 10]
    exact ih h.2 _ hv
def numOf (l:List UInt8):Int:=if isNumeral l=true∧l.length≤10 then(valF 0 l:Int) else -1
def numOk (l:List UInt8) (most:Int):Bool:=decide (0≤numOf l∧numOf l≤most)
theorem number_in (l:List UInt8) (most:Int) (hm:most≤9999999999) :
    match Go.Lib.atoiAll l with
    | .ok v=>(decide (0≤v∧v≤most)&&(Go.Lib.itoa v==l))=numOk l most∧(numOk l most=true→v=numOf l)
    | _=>numOk l most=false:=by
  by_cases hn:isNumeral l=true∧l.length≤10
  · obtain⟨h1,h2⟩:=hn
    have hd:l.all isDg=true:=by
      simp only[isNumeral,Bool.and_eq_true] at h1
      exact h1.1.2
    have hlt:=valF_lt l hd 0
    have hpow:10 ^ l.length≤10 ^ 10:=Nat.pow_le_pow_right (by decide) h2
    have hlt2:valF 0 l<10000000000:=by omega
    have hno:numOf l=(valF 0 l:Int):=by unfold numOf;rw[if_pos ⟨h1,h2⟩]
    have ha:Go.Lib.atoiAll l=.ok (valF 0 l:Int):=by
      cases l with
      | nil=>simp[isNumeral] at h1
      | cons c r =>
        have hc:=hd
        simp only[List.all_cons,Bool.and_eq_true,isDg,decide_eq_true_eq] at hc
        simp only[Go.Lib.atoiAll]
        rw[if_neg (by omega),show Go.Lib.parseMag (c::r)=Go.Lib.parseUint10 0 (c::r) from by simp[Go.Lib.parseMag],parse_digits _ hd 0 (by omega)]
        have h45:¬(c.toNat=45):=by omega
        simp only[h45,not_false_eq_true,true_and,false_and,if_false]
        rw[if_neg (by omega)]
    rw[ha]
    simp only
    have hi:Go.Lib.itoa (valF 0 l:Int)=l:=by
      unfold Go.Lib.itoa
      rw[if_neg (by omega)]
      simp only[Int.toNat_natCast]
      exact dec_valF l h1
    refine⟨?_,fun _=>hno.symm⟩
    rw[hi]
    unfold numOk
    rw[hno]
    simp
  · have hno:numOf l = -1:=by unfold numOf;rw[if_neg hn]
    have hf:numOk l most=false:=by
      unfold numOk
      rw[hno]
      simp
    cases ha:Go.Lib.atoiAll l with
    | ok v =>
      simp only
      rw[hf]
      refine⟨?_,fun h=>by cases h⟩
      by_cases hv:0≤v∧v≤most
      · have:¬(Go.Lib.itoa v=l):=by
          intro e
          apply hn
          have e2:Go.Lib.itoa v=Go.Lib.decDigits v.toNat:=by
            unfold Go.Lib.itoa
            rw[if_neg (by omega)]
          rw[e2] at e
          obtain⟨h3,h4⟩:=dec_spells v.toNat
          rw[e] at h3 h4
          refine⟨h3,?_⟩
          rcases Nat.lt_or_ge 10 l.length with h5|h5
          · have:=numeral_great l h3 (by omega)
            have h6:10 ^ 10≤10 ^ (l.length - 1):=Nat.pow_le_pow_right (by decide) (by omega)
            omega
          · exact h5
        simp[this]
      · simp[hv]
    | _=>exact hf
end Go.Proofs.YthohohfmdieohaaGreatDoor.PL
