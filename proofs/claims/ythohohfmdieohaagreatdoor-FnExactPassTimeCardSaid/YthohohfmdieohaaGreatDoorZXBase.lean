/- Plain lemmas of this workplace for the pure statements: rounds,wraps,lists by their indices. No Go,no memory. -/
import Derived.Test.YthohohfmdieohaaGreatDoorVXWords
set_option linter.unusedVariables false
set_option linter.unusedSimpArgs false
namespace Go.Proofs.YthohohfmdieohaaGreatDoor.PB
open Go.RowKit Go.Proofs.YthohohfmdieohaaGreatDoorW.PrintWords Go.Proofs.YthohohfmdieohaaGreatDoorW.PrintLast
theorem w64 {i:Int} (h0 : -9223372036854775808≤i) (h1:i≤9223372036854775807):wrap64 i=i:=by
  unfold wrap64
  omega
theorem rd_at {l:List Int} (i:Nat) (h:i<l.length):rd l (i:Int)=l[i]:=by
  unfold rd
  simp[List.getD_eq_getElem?_getD,h]
theorem rd_mid (p:List Int) (x:Int) (s:List Int):rd (p++x::s) (p.length:Int)=x:=by
  unfold rd
  simp[List.getD_eq_getElem?_getD]
theorem Ev.succ {α:Type} {g:Nat→Option α} {r:α} (h:Ev (fun k=>g (k+1)) r):Ev g r:=by
  obtain⟨K,hK⟩:=h
  refine⟨K+1,fun k hk=>?_⟩
  obtain⟨m,rfl⟩:∃m,k=m+1:=⟨k - 1,by omega⟩
  exact hK m (by omega)
theorem Ev.pure' {α:Type} (r:α):Ev (fun _=>some r) r:=⟨0,fun _ _=>rfl⟩
theorem Ev.const {α:Type} {o:Option α} {r:α} (h:o=some r):Ev (fun _=>o) r:=⟨0,fun _ _=>h⟩
theorem Ev.pos {α:Type} {c:Prop} [Decidable c] {a b:Nat→Option α} {r:α} (hc:c) (h:Ev a r):Ev (fun k=>if c then a k else b k) r:=by
  simpa only[if_pos hc] using h
theorem Ev.neg {α:Type} {c:Prop} [Decidable c] {a b:Nat→Option α} {r:α} (hc:¬c) (h:Ev b r):Ev (fun k=>if c then a k else b k) r:=by
  simpa only[if_neg hc] using h
theorem Ev.bind' {α β:Type} {g:Nat→Option α} {f:Nat→α→Option β} (a:α) {r:β} (h:Ev g a) (k:Ev (fun n=>f n a) r):Ev (fun n=>(g n).bind (f n)) r:=Ev.bind h k
theorem Ev.cbind {α β:Type} {o:Option α} {f:Nat→α→Option β} (a:α) {r:β} (h:o=some a) (k:Ev (fun n=>f n a) r):Ev (fun n=>o.bind (f n)) r:=by
  subst h
  exact k
theorem Ev.eq_ {α:Type} {g:Nat→Option α} {r q:α} (h:Ev g r) (e:r=q):Ev g q:=e ▸ h
theorem Ev.get {α:Type} {g:Nat→Option α} {r:α} (h:Ev g r):∃k,g k=some r:=h.rounds
end Go.Proofs.YthohohfmdieohaaGreatDoor.PB
namespace Go.Proofs.YthohohfmdieohaaGreatDoor.PB
open Go.RowKit Go.Proofs.YthohohfmdieohaaGreatDoorW.PrintWords Go.Proofs.YthohohfmdieohaaGreatDoorW.PrintLast
theorem bD_ {α σ ρ:Type} (l:List α) (F:Nat→σ→Int→Option ρ) (spec:σ→List α→ρ) (I:List α→σ→Prop)
    (hnil:∀s,I l s→Ev (fun k=>F k s (l.length:Int)) (spec s []))
    (hcons:∀p x t s,l=p++x::t→I p s→(∀s',I (p++[x]) s'→Ev (fun k=>F k s' ((p.length:Int)+1)) (spec s' t))→Ev (fun k=>F k s (p.length:Int)) (spec s (x::t))) :
    ∀s,I [] s→Ev (fun k=>F k s 0) (spec s l):=by
  have main:∀(t p:List α) (s:σ),l=p++t→I p s→Ev (fun k=>F k s (p.length:Int)) (spec s t):=by
    intro t
    induction t with
    | nil =>
      intro p s e hi
      have:p=l:=by rw[e];simp
      subst this
      exact hnil s hi
    | cons x t ih =>
      intro p s e hi
      refine hcons p x t s e hi (fun s' hs'=>?_)
      have:=ih (p++[x]) s' (by rw[e];simp) hs'
      simpa using this
  intro s hs
  simpa using main l [] s rfl hs
theorem bs_ {α:Type} {l p t:List α} {x:α} (e:l=p++x::t):(p.length:Int)<(l.length:Int)∧p.length<l.length∧l.length=p.length+(t.length+1):=by
  have:l.length=p.length+(t.length+1):=by rw[e];simp
  omega
theorem b6_ {α:Type} {l p t:List α} {x d:α} (e:l=p++x::t):l.getD ((p.length:Int)).toNat d=x:=by
  rw[e]
  simp[List.getD_eq_getElem?_getD]
theorem rd_mid' {l p t:List Int} {x:Int} (e:l=p++x::t):rd l (p.length:Int)=x:=b6_ e
theorem rdOf_mid {α:Type} {l p t:List α} {x d:α} (e:l=p++x::t):rdOf d l (p.length:Int)=x:=by
  unfold rdOf
  exact b6_ e
theorem cn_ {α:Type} {l p t:List α} {x:α} (e:l=p++x::t):x∈l:=by rw[e];simp
theorem set_mid {α:Type} (p q:List α) (x y:α):(p++y::q).set ((p.length:Int)).toNat x=(p++[x])++q:=by
  simp
theorem Ev.a3_ {α:Type} {a b:Nat→Option α} {r:α} (h:Ev a r):Ev (fun k=>if (true=true) then a k else b k) r:=Ev.pos rfl h
theorem Ev.a1_ {α:Type} {a b:Nat→Option α} {r:α} (h:Ev b r):Ev (fun k=>if (false=true) then a k else b k) r:=Ev.neg (by simp) h
def idxP {α:Type} (p:α→Bool):List α→Int
  | [] => -1
  | x::t=>if p x then 0 else if 0≤idxP p t then idxP p t+1 else -1
theorem idxP_iff {α:Type} (p:α→Bool) (l:List α):0≤idxP p l↔l.any p=true:=by
  induction l with
  | nil=>simp[idxP]
  | cons x t ih =>
    rw[List.any_cons,Bool.or_eq_true,←ih]
    rw[show idxP p (x::t)=(if p x then 0 else if 0≤idxP p t then idxP p t+1 else -1) from rfl]
    by_cases h:p x=true
    · rw[if_pos h];simp[h]
    · rw[if_neg h]
      by_cases h2:0≤idxP p t
      · rw[if_pos h2];simp only[h2,or_true,iff_true];omega
      · rw[if_neg h2];simp[h,h2]
theorem idxP_nonneg {α:Type} (p:α→Bool) (l:List α):decide (idxP p l≥0)=l.any p:=by
  have h:=idxP_iff p l
  cases hb:l.any p with
  | true=>exact decide_eq_true (h.2 hb)
  | false =>
    refine decide_eq_false (fun h2=>?_)
    have:=h.1 h2
    rw[hb] at this
    cases this
theorem idxP_ge {α:Type} (p:α→Bool) (l:List α) : -1≤idxP p l:=by
  induction l with
  | nil=>simp[idxP]
  | cons x t ih =>
    rw[show idxP p (x::t)=(if p x then 0 else if 0≤idxP p t then idxP p t+1 else -1) from rfl]
    split
    · omega
    · split<;>omega
theorem idxP_neg {α:Type} (p:α→Bool) (l:List α) (h:¬0≤idxP p l):idxP p l = -1:=by
  have:=idxP_ge p l
  omega
theorem any_not {α:Type} (p:α→Bool) (l:List α):(l.any fun c => !p c) = !l.all p:=by
  induction l with
  | nil=>rfl
  | cons x t ih=>simp only[List.any_cons,List.all_cons,ih,Bool.not_and]
theorem any_all {α:Type} (p q:α→Bool) (l:List α) (h:∀x∈l,q x = !p x):l.any q = !l.all p:=by
  rw[←any_not]
  induction l with
  | nil=>rfl
  | cons x t ih =>
    simp only[List.any_cons]
    rw[h x (by simp),ih (fun y hy=>h y (by simp[hy]))]
end Go.Proofs.YthohohfmdieohaaGreatDoor.PB
