/- Sizes,copies,comparisons,marks of lists: the plain rules. -/
import Derived.Test.YthohohfmdieohaaGreatDoorZXBase
set_option linter.unusedVariables false
set_option linter.unusedSimpArgs false
namespace Go.Proofs.YthohohfmdieohaaGreatDoor.PL
open Go.RowKit Go.Proofs.YthohohfmdieohaaGreatDoor.PB Go.Proofs.YthohohfmdieohaaGreatDoorW.PrintWords Go.Proofs.YthohohfmdieohaaGreatDoorW.PrintLast
def Szd (g:Nat→Option Int) (a:Int) (B:Prop):Prop:=∃r,Ev g r∧(r<0∨(0≤r∧r≤a∧B))
theorem Szd.end_ {a:Int} (h:0≤a):Szd (fun _=>some a) a True:=⟨a,Ev.const rfl,Or.inr ⟨h,Int.le_refl _,trivial⟩⟩
theorem Szd.size {g:Nat→Option Int} {a:Int} {B:Prop} (n:Nat) (hn:n≤9223372036854775807) (h0:0≤a) (h1:a≤1048576)
    (h:∀a',wrap64 (a - (n:Int))=a'→0≤a'→a'≤1048576→Szd g a' B):Szd (fun k=>if wrap64 (a - (n:Int))<0 then some (-1) else g k) a (n≤1048576∧B):=by
  have hw:wrap64 (a - (n:Int))=a - n:=w64 (by omega) (by omega)
  by_cases hc:wrap64 (a - (n:Int))<0
  · exact⟨-1,Ev.pos hc (Ev.const rfl),Or.inl (by omega)⟩
  · obtain⟨r,hr,h3⟩:=h _ rfl (by omega) (by omega)
    refine⟨r,Ev.neg hc hr,?_⟩
    rcases h3 with h3|⟨h3,h4,h5⟩
    · exact Or.inl h3
    · exact Or.inr ⟨h3,by omega,by omega,h5⟩
theorem Szd.bind {f:Nat→Option Int} {g:Nat→Int→Option Int} {a:Int} {B1 B2:Prop} (h1:Szd f a B1) (ha:a≤1048576)
    (h2:∀r,0≤r→r≤1048576→Szd (fun k=>g k r) r B2):Szd (fun k=>(f k).bind fun t=>if t<0 then some (-1) else g k t) a (B1∧B2):=by
  obtain⟨r,hr,h⟩:=h1
  rcases h with h|⟨h,h',hb⟩
  · exact⟨-1,Ev.bind' _ hr (Ev.pos h (Ev.const rfl)),Or.inl (by omega)⟩
  · obtain⟨q,hq,h3⟩:=h2 r h (by omega)
    refine⟨q,Ev.bind' _ hr (Ev.neg (by omega) hq),?_⟩
    rcases h3 with h3|⟨h3,h4,h5⟩
    · exact Or.inl h3
    · exact Or.inr ⟨h3,by omega,hb,h5⟩
theorem Szd.cbind {o:Option Int} {g:Nat→Int→Option Int} {a:Int} {B1 B2:Prop} (h1:Szd (fun _=>o) a B1) (ha:a≤1048576)
    (h2:∀r,0≤r→r≤1048576→Szd (fun k=>g k r) r B2):Szd (fun k=>o.bind fun t=>if t<0 then some (-1) else g k t) a (B1∧B2):=Szd.bind h1 ha h2
theorem Szd.mono {g:Nat→Option Int} {a:Int} {B C:Prop} (h:Szd g a B) (hc:B→C):Szd g a C:=by
  obtain⟨r,hr,h⟩:=h
  exact⟨r,hr,h.imp id fun⟨x,y,z⟩=>⟨x,y,hc z⟩⟩
theorem Szd.list {α:Type} (l:List α) (hl:l.length≤1048576) (F:Nat→Int→Int→Option Int) (B:α→Prop)
    (h0:∀a,0≤a→a≤1048576→Szd (fun k=>F k a (l.length:Int)) a True)
    (h1:∀p x t a,l=p++x::t→0≤a→a≤1048576→(∀a' C,0≤a'→a'≤1048576→Szd (fun k=>F k a' ((p.length:Int)+1)) a' C→Szd (fun k=>F k a' ((p.length:Int)+1)) a' C)→∀C,(∀a',0≤a'→a'≤1048576→Szd (fun k=>F k a' ((p.length:Int)+1)) a' C)→Szd (fun k=>F k a (p.length:Int)) a (B x∧C)) :
    ∀a,0≤a→a≤1048576→Szd (fun k=>F k a 0) a (∀x∈l,B x):=by
  have main:∀(t p:List α),l=p++t→∀a,0≤a→a≤1048576→Szd (fun k=>F k a (p.length:Int)) a (∀x∈t,B x):=by
    intro t
    induction t with
    | nil =>
      intro p e a ha hb
      have:p=l:=by rw[e];simp
      subst this
      exact(h0 a ha hb).mono (fun _ x hx=>by simp at hx)
    | cons x t ih =>
      intro p e a ha hb
      refine(h1 p x t a e ha hb (fun _ _ _ _ h=>h) (∀x∈t,B x) (fun a' ha' hb'=>?_)).mono (fun h y hy=>?_)
      · have:=ih (p++[x]) (by rw[e];simp) a' ha' hb'
        simpa using this
      · rcases List.mem_cons.mp hy with rfl|h2
        · exact h.1
        · exact h.2 y h2
  intro a ha hb
  simpa using main l [] rfl a ha hb
theorem to_list {α β:Type} (l:List α) (conv:α→β) (F:Nat→List β→Int→Option (List β))
    (h0:∀s,Ev (fun k=>F k s (l.length:Int)) s)
    (h1:∀p x t s r,l=p++x::t→p.length<s.length→Ev (fun k=>F k (s.set ((p.length:Int)).toNat (conv x)) ((p.length:Int)+1)) r→Ev (fun k=>F k s (p.length:Int)) r)
    (s:List β) (hs:s.length=l.length):Ev (fun k=>F k s 0) (l.map conv):=by
  refine bD_ l (fun k s i=>F k s i) (fun _ _=>l.map conv) (fun p s=>∃q,s=p.map conv++q∧s.length=l.length) ?_ ?_ s ⟨_,rfl,hs⟩
  · rintro s ⟨q,rfl,hq⟩
    have:q=[]:=List.eq_nil_of_length_eq_zero (by simpa using hq)
    refine Ev.eq_ (h0 _) (by simp[this])
  · rintro p x t s e ⟨q,rfl,hq⟩ ih
    have hm:=bs_ e
    cases q with
    | nil=>simp at hq;omega
    | cons y q =>
      refine h1 p x t _ _ e (by simp) ?_
      have e2:=set_mid (p.map conv) q (conv x) y
      rw[List.length_map] at e2
      rw[e2]
      exact ih _ ⟨q,by simp,by simpa using hq⟩
theorem eq_list {α:Type} (l:List α) (F:Nat→Int→Option Bool) (h0:Ev (fun k=>F k (l.length:Int)) true)
    (h1:∀p x t,l=p++x::t→Ev (fun k=>F k ((p.length:Int)+1)) true→Ev (fun k=>F k (p.length:Int)) true):Ev (fun k=>F k 0) true:=by
  refine bD_ l (fun k (_:Unit) i=>F k i) (fun _ _=>true) (fun _ _=>True) (fun _ _=>h0) ?_ () trivial
  intro p x t s e _ ih
  exact h1 p x t e (ih () trivial)
theorem mark_list {α:Type} (c:Int) (hc:0≤c) (F:Nat→List α→Int→Int→Option (Int × List α)) (H:Nat→List α→Int→Int→Option Int) (M:Int)
    (hF0:∀l a,Ev (fun k=>F k l a (l.length:Int)) (a,l)) (hH0:∀l a,Ev (fun k=>H k l a (l.length:Int)) a)
    (h1:∀p x t a,(p++x::t).length≤1048576→0≤a→a≤M→∃x' a',a≤a'∧a'≤a+c ∧
      (∀r,Ev (fun k=>F k (p++x'::t) a' ((p.length:Int)+1)) r→Ev (fun k=>F k (p++x::t) a (p.length:Int)) r) ∧
      (∀s r,(p++x'::s).length≤1048576→Ev (fun k=>H k (p++x'::s) a' ((p.length:Int)+1)) r→Ev (fun k=>H k (p++x'::s) a (p.length:Int)) r))
    (l:List α) (hl:l.length≤1048576) (a:Int) (ha:0≤a) (hM:a+c * l.length≤M) :
    ∃r l',Ev (fun k=>F k l a 0) (r,l')∧Ev (fun k=>H k l' a 0) r∧l'.length=l.length∧a≤r∧r≤a+c * l.length:=by
  have main:∀(t p:List α) (a:Int),(p++t).length≤1048576→0≤a→a+c * t.length≤M→∃r t',Ev (fun k=>F k (p++t) a (p.length:Int)) (r,p++t')∧Ev (fun k=>H k (p++t') a (p.length:Int)) r∧t'.length=t.length∧a≤r∧r≤a+c * t.length:=by
    intro t
    induction t with
    | nil =>
      intro p a hp ha hM
      refine⟨a,[],?_,?_,rfl,Int.le_refl _,by simp⟩
      · simpa using hF0 p a
      · simpa using hH0 p a
    | cons x t ih =>
      intro p a hp ha hM
      have e1:c * (((x::t).length:Nat):Int)=c * (t.length:Int)+c:=by
        simp only[List.length_cons]
        rw[show(((t.length+1:Nat)):Int)=(t.length:Int)+1 from by omega,Int.mul_add]
        omega
      have e0:0≤c * (t.length:Int):=Int.mul_nonneg hc (by omega)
      rw[e1] at hM ⊢
      obtain⟨x',a',b1,b2,b3,b4⟩:=h1 p x t a hp ha (by omega)
      obtain⟨r,t',c1,c2,c3,c4,c5⟩:=ih (p++[x']) a' (by simpa using hp) (by omega) (by omega)
      refine⟨r,x'::t',b3 _ (by simpa using c1),b4 _ _ (by simp at hp ⊢;omega) (by simpa using c2),by simp[c3],by omega,by omega⟩
  simpa using main l [] a (by simpa using hl) ha (by simpa using hM)
end Go.Proofs.YthohohfmdieohaaGreatDoor.PL
