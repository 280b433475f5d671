/- A list marked element by element,under a condition on the elements. -/
import Derived.Test.YthohohfmdieohaaGreatDoorZXBase
set_option linter.unusedVariables false
set_option linter.unusedSimpArgs false
namespace Go.Proofs.YthohohfmdieohaaGreatDoor.PL
open Go.RowKit Go.Proofs.YthohohfmdieohaaGreatDoor.PB Go.Proofs.YthohohfmdieohaaGreatDoorW.PrintWords Go.Proofs.YthohohfmdieohaaGreatDoorW.PrintLast
theorem mark_listQ {α:Type} (Q:α→Prop) (c:Int) (hc:0≤c) (F:Nat→List α→Int→Int→Option (Int × List α)) (H:Nat→List α→Int→Int→Option Int) (M:Int)
    (hF0:∀l a,Ev (fun k=>F k l a (l.length:Int)) (a,l)) (hH0:∀l a,Ev (fun k=>H k l a (l.length:Int)) a)
    (h1:∀p x t a,Q x→(p++x::t).length≤1048576→0≤a→a≤M→∃x' a',a≤a'∧a'≤a+c ∧
      (∀r,Ev (fun k=>F k (p++x'::t) a' ((p.length:Int)+1)) r→Ev (fun k=>F k (p++x::t) a (p.length:Int)) r) ∧
      (∀s r,(p++x'::s).length≤1048576→Ev (fun k=>H k (p++x'::s) a' ((p.length:Int)+1)) r→Ev (fun k=>H k (p++x'::s) a (p.length:Int)) r))
    (l:List α) (hQ:∀x∈l,Q x) (hl:l.length≤1048576) (a:Int) (ha:0≤a) (hM:a+c * l.length≤M) :
    ∃r l',Ev (fun k=>F k l a 0) (r,l')∧Ev (fun k=>H k l' a 0) r∧l'.length=l.length∧a≤r∧r≤a+c * l.length:=by
  have main:∀(t p:List α) (a:Int),(∀x∈t,Q x)→(p++t).length≤1048576→0≤a→a+c * t.length≤M→∃r t',Ev (fun k=>F k (p++t) a (p.length:Int)) (r,p++t')∧Ev (fun k=>H k (p++t') a (p.length:Int)) r∧t'.length=t.length∧a≤r∧r≤a+c * t.length:=by
    intro t
    induction t with
    | nil =>
      intro p a _ hp ha hM
      refine⟨a,[],?_,?_,rfl,Int.le_refl _,by simp⟩
      · simpa using hF0 p a
      · simpa using hH0 p a
    | cons x t ih =>
      intro p a hq hp ha hM
      have e1:c * (((x::t).length:Nat):Int)=c * (t.length:Int)+c:=by
        simp only[List.length_cons]
        rw[show(((t.length+1:Nat)):Int)=(t.length:Int)+1 from by omega,Int.mul_add]
        omega
      have e0:0≤c * (t.length:Int):=Int.mul_nonneg hc (by omega)
      rw[e1] at hM ⊢
      obtain⟨x',a',b1,b2,b3,b4⟩:=h1 p x t a (hq x (by simp)) hp ha (by omega)
      obtain⟨r,t',c1,c2,c3,c4,c5⟩:=ih (p++[x']) a' (fun y hy=>hq y (by simp[hy])) (by simpa using hp) (by omega) (by omega)
      refine⟨r,x'::t',b3 _ (by simpa using c1),b4 _ _ (by simp at hp ⊢;omega) (by simpa using c2),by simp[c3],by omega,by omega⟩
  simpa using main l [] a hQ (by simpa using hl) ha (by simpa using hM)
end Go.Proofs.YthohohfmdieohaaGreatDoor.PL
