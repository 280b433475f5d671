/- Texts that belong together,joined by claimit.py. -/
import Derived.Test.YtbgajeomljkdjaaGreatDoorKFnExactApplyBatchPQ
import Derived.Test.YtbgajeomljkdjaaGreatDoorJFnExactApplyBatch0
import Derived.Test.YtbgajeomljkdjaaGreatDoorJFnExactApplyBatch1
import Derived.Test.YtbgajeomljkdjaaGreatDoorJFnExactApplyBatch2
import Derived.Test.YtbgajeomljkdjaaGreatDoorJFnExactApplyBatch3
import Derived.Test.YtbgajeomljkdjaaGreatDoorJFnExactApplyBatch4
import Derived.Test.YtbgajeomljkdjaaGreatDoorKFnExactApplyBatchW
section
set_option linter.unusedVariables false
set_option linter.unusedSimpArgs false
namespace Go.Proofs.YtbgajeomljkdjaaGreatDoor.PL
open Go.RowKit Go.Proofs.YtbgajeomljkdjaaGreatDoor.Pp Go.Proofs.YtbgajeomljkdjaaGreatDoor.PB Go.Proofs.YtbgajeomljkdjaaGreatDoorW.PrintWords Go.Proofs.YtbgajeomljkdjaaGreatDoorW.PrintLast
section
theorem riseFrom_of:∀(l:List ab_) (a:ab_),(a::l).Pairwise (fun x y=>cmpRec x y<0)→(∀x∈l,okR x=true)→riseFrom a l=true
 | [],a,_,_=>rfl
 | b::t,a,h,ho=>by
  obtain⟨h1,h2⟩:=List.pairwise_cons.1 h
  simp only[riseFrom,Bool.and_eq_true,decide_eq_true_eq]
  exact⟨⟨ho b (by simp),h1 b (by simp)⟩,riseFrom_of t b h2 (fun x hx=>ho x (by simp[hx]))⟩
theorem rises_of {l:List ab_} (h:goodL l):rises l=true:=by
 cases l with
 | nil=>rfl
 | cons a t =>
  simp only[rises,Bool.and_eq_true]
  exact⟨(h.2 a (by simp)).1,riseFrom_of t a h.1 (fun x hx=>(h.2 x (by simp[hx])).1)⟩
theorem idxP_split {α:Type} (q:α→Bool):∀l:List α,(idxP q l = -1∧∀x∈l,q x=false)∨∃a x t,l=a++x::t∧(∀y∈a,q y=false)∧q x=true∧idxP q l=(a.length:Int):=by
 intro l
 induction l with
 | nil=>exact Or.inl ⟨rfl,by simp⟩
 | cons x t ih =>
  have hq:idxP q (x::t)=(if q x then 0 else if 0≤idxP q t then idxP q t+1 else -1):=rfl
  cases hx:q x with
  | true=>exact Or.inr ⟨[],x,t,rfl,by simp,hx,by rw[hq,hx];rfl⟩
  | false =>
   rcases ih with ⟨h1,h2⟩|⟨a,y,s,h1,h2,h3,h4⟩
   ·refine Or.inl ⟨by rw[hq,hx,h1];rfl,?_⟩
    intro z hz
    rcases List.mem_cons.1 hz with rfl|hz
    ·exact hx
    ·exact h2 z hz
   ·refine Or.inr ⟨x::a,y,s,by rw[h1];rfl,?_,h3,?_⟩
    ·intro z hz
     rcases List.mem_cons.1 hz with rfl|hz
     ·exact hx
     ·exact h2 z hz
    ·rw[hq,hx,h4]
     have:(0:Int)≤(a.length:Int):=by omega
     simp only[this,if_true,Bool.false_eq_true,if_false,List.length_cons]
     omega
def chOk (x:aj_):Bool:=inR x.f0 1 4&&okR x.f1 && !decide (x.f1.f1=6)
def batOk (l:List aj_):Bool:=l.all chOk&&decide (l.length≤12)
def szC (x:aj_):Prop:=szR x.f1
theorem specBatch_eq (l:List aj_) (hl:l.length≤1048576) (hs:∀x∈l,szC x):Ev (fun k=>cc_.f k l) (batOk l):=by
 unfold cc_.f batOk
 refine Ev.eq_ (bg_ l (fun k (_:Unit) i=>cc_.l0 k l l (l.length:Int) i) (fun _ t=>t.all chOk&&decide (l.length≤12)) (fun _ _=>True) ?_ ?_ () trivial) rfl
 ·intro _ _
  apply Ev.succ
  simp only[cc_.l0]
  refine Ev.neg (by omega) (Ev.const ?_)
  simp
  omega
 ·intro p x t _ e _ ih
  have hm:=be_ e
  have hx:=hs x (co_ e)
  apply Ev.succ
  simp only[cc_.l0,aa_,bM_ e]
  refine Ev.pos hm.1 (Ev.pos (by omega) (Ev.pos hm.1 (Ev.cbind _ (l1In_eq _ _ _) ?_)))
  rw[w64 (i:=(p.length:Int)+1) (by omega) (by omega)]
  cases h1:inR x.f0 1 4 with
  | false=>exact Ev.aP_ (Ev.const (by simp[chOk,h1]))
  | true =>
   refine Ev.aV_ (Ev.bind' _ (specRec_eq x.f1.f0 x.f1.f1 x.f1.f2 x.f1.f3 hx.1 hx.2) ?_)
   cases h2:recOk x.f1.f0 x.f1.f1 x.f1.f2 x.f1.f3 with
   | false=>exact Ev.aP_ (Ev.const (by simp[chOk,okR,h1,h2]))
   | true =>
    refine Ev.aV_ ?_
    by_cases h3:x.f1.f1=6
    ·exact Ev.pos h3 (Ev.const (by simp[chOk,okR,h1,h2,h3]))
    ·exact Ev.neg h3 (Ev.eq_ (ih () trivial) (by simp[chOk,okR,h1,h2,h3]))
theorem implBatch_eq (l:List aj_) (hl:l.length≤1048576) (hs:∀x∈l,szC x):Ev (fun k=>cO_.f k l) (batOk l):=by
 unfold cO_.f batOk
 by_cases h:(l.length:Int)≤12
 ·refine Ev.pos h (Ev.bind' _ (aL_.any l (fun x => !chOk x) hl (fun x hx=>?_)) (Ev.const ?_))
  ·have hz:=hs x hx
   unfold cB_.f
   refine Ev.cbind _ (within_eq _ _ _) ?_
   cases h1:inR x.f0 1 4 with
   | false=>exact Ev.aP_ (Ev.const (by simp[chOk,h1]))
   | true =>
    refine Ev.aV_ (Ev.bind' _ (implRec_eq x.f1.f0 x.f1.f1 x.f1.f2 x.f1.f3 hz.1 hz.2) ?_)
    cases h2:recOk x.f1.f0 x.f1.f1 x.f1.f2 x.f1.f3 with
    | false=>exact Ev.aP_ (Ev.const (by simp[chOk,okR,h1,h2]))
    | true=>exact Ev.aV_ (Ev.const (by
      by_cases h3:x.f1.f1=6<;>simp[chOk,okR,h1,h2,h3]))
  ·rw[any_not]
   have h2:l.length≤12:=by omega
   simp[h2]
 ·refine Ev.neg h (Ev.const ?_)
  have h2:¬l.length≤12:=by omega
  simp[h2]
def missB (l:List ab_) (x:aj_):Bool:=(decide (x.f0=3) && !hasT l x.f1.f0 x.f1.f1)||(decide (x.f0=4)&&hasT l x.f1.f0 x.f1.f1)
theorem misses_eq (a:ByteArray) (c:Int) (l:List ab_) (x:aj_) (hl:l.length≤1048576) (h0:x.f1.f1≠0):Ev (fun k=>impl_misses.f k a c l x.f0 x.f1.f0 x.f1.f1 x.f1.f2 x.f1.f3) (missB l x):=by
 have hh:=atR_has (l:=l) (name:=x.f1.f0) h0
 unfold impl_misses.f missB
 refine Ev.bind' _ (at_eq l _ _ hl) ?_
 by_cases h3:x.f0=3
 ·refine Ev.pos h3 ?_
  have h4:¬x.f0=4:=by omega
  by_cases h:(atR l x.f1.f0 x.f1.f1).length > 0
  ·have hb:=hh.2 h
   exact Ev.pos (by omega) (Ev.neg h4 (Ev.const (by simp[h3,hb])))
  ·have hb:hasT l x.f1.f0 x.f1.f1=false:=by
    cases hc:hasT l x.f1.f0 x.f1.f1 with
    | false=>rfl
    | true=>exact absurd (hh.1 hc) h
   exact Ev.neg (by omega) (Ev.const (by simp[h3,hb]))
 ·refine Ev.neg h3 ?_
  by_cases h4:x.f0=4
  ·refine Ev.pos h4 (Ev.const ?_)
   have e:decide (((atR l x.f1.f0 x.f1.f1).length:Int) > 0)=hasT l x.f1.f0 x.f1.f1:=by
    cases hc:hasT l x.f1.f0 x.f1.f1 with
    | true=>have:=hh.1 hc;exact decide_eq_true (by omega)
    | false =>
     have:¬(atR l x.f1.f0 x.f1.f1).length > 0:=fun h=>by rw[hh.2 h] at hc;cases hc
     exact decide_eq_false (by omega)
   rw[e]
   simp[h4]
  ·exact Ev.neg h4 (Ev.const (by simp[h3,h4]))
def sameK (x r:ab_):Bool:=decide (bts r.f0=bts x.f0)&&decide (r.f1=x.f1)&&decide (bts r.f3=bts x.f3)
def dropK (x:ab_) (l:List ab_):List ab_:=l.filter (fun r => !sameK x r)
theorem changed1_eq (x r:ab_):cu_.f r.f0 r.f1 r.f2 r.f3 x.f0 x.f1 x.f2 x.f3=some (sameK x r):=by
 unfold cu_.f sameK
 simp only[bf_]
 by_cases h1:bts r.f0=bts x.f0
 ·rw[if_pos h1]
  by_cases h2:r.f1=x.f1
  ·rw[if_pos h2]
   by_cases h3:bts r.f3=bts x.f3<;>simp[h1,h2,h3]
  ·rw[if_neg h2];simp[h2]
 ·rw[if_neg h1];simp[h1]
theorem dropK_len (x:ab_) (l:List ab_):(dropK x l).length≤l.length:=List.length_filter_le _ _
theorem dropK_good (x:ab_) {l:List ab_} (h:goodL l):goodL (dropK x l):=⟨h.1.filter _,fun y hy=>h.2 y (List.mem_filter.1 hy).1⟩
theorem specDropK_eq (x:ab_) (l:List ab_) (hl:l.length≤1048576):Ev (fun k=>bI_.f k l x.f0 x.f1 x.f2 x.f3) (dropK x l):=by
 unfold bI_.f
 refine Ev.eq_ (bg_ l (fun k (s:List ab_) i=>bI_.l0 k s l (l.length:Int) i x.f0 x.f1 x.f2 x.f3) (fun s t=>s++dropK x t) (fun p s=>s.length≤p.length) ?_ ?_ [] (by simp)) (by simp)
 ·intro s _
  apply Ev.succ
  simp only[bI_.l0]
  exact Ev.neg (by omega) (Ev.const (by simp[dropK]))
 ·intro p r t s e hsl ih
  have hm:=be_ e
  have keep:sameK x r=false→Ev (fun k=>if s.length<2932031007402 then bI_.l0 k (s++[(⟨r.f0,r.f1,r.f2,r.f3⟩:ab_)]) l (l.length:Int) ((p.length:Int)+1) x.f0 x.f1 x.f2 x.f3 else none) (s++dropK x (r::t)):=fun hk =>
   Ev.pos (by omega) (Ev.eq_ (ih (s++[r]) (by simp;omega)) (by simp[dropK,hk]))
  apply Ev.succ
  simp only[bI_.l0,a_,bM_ e,bf_]
  rw[w64 (i:=(p.length:Int)+1) (by omega) (by omega)]
  refine Ev.pos hm.1 (Ev.pos (by omega) (Ev.pos hm.1 ?_))
  by_cases h1:bts r.f0=bts x.f0
  ·refine Ev.pos h1 ?_
   by_cases h2:r.f1=x.f1
   ·refine Ev.pos h2 ?_
    by_cases h3:bts r.f3=bts x.f3
    ·have hk:sameK x r=true:=by simp[sameK,h1,h2,h3]
     exact Ev.pos h3 (Ev.eq_ (ih s (by simp;omega)) (by simp[dropK,hk]))
    ·exact Ev.neg h3 (keep (by simp[sameK,h3]))
   ·exact Ev.neg h2 (keep (by simp[sameK,h2]))
  ·exact Ev.neg h1 (keep (by simp[sameK,h1]))
theorem delK_loop (x:ab_):∀(t a m:List ab_),m≠[]→(a++m++t).length≤1048576 →
  Ev (fun k=>ap_.l0 k (a++m++t) (a.length:Int) ((a.length:Int)+(m.length:Int)) x.f0 x.f1 x.f2 x.f3) (a++dropK x t):=by
 intro t
 induction t with
 | nil =>
  intro a m hm hl
  have h0:0<m.length:=List.length_pos_iff.mpr hm
  apply Ev.succ
  simp only[ap_.l0]
  have hlen:((a++m++([]:List ab_)).length:Int)=(a.length:Int)+(m.length:Int):=by simp
  refine Ev.neg (by omega) (Ev.pos ⟨by omega,by omega⟩ (Ev.const ?_))
  simp[dropK]
 | cons y t ih =>
  intro a m hm hl
  have h0:0<m.length:=List.length_pos_iff.mpr hm
  have hlen:((a++m++y::t).length:Int)=(a.length:Int)+(m.length:Int)+(t.length:Int)+1:=by simp<;>omega
  have hg:(a++m++y::t).getD ((a.length:Int)+(m.length:Int)).toNat bY_=y:=by
   have e:((a.length:Int)+(m.length:Int)).toNat=(a++m).length:=by rw[List.length_append];omega
   rw[e,List.getD_eq_getElem?_getD,List.getElem?_append_right (by omega)]
   simp
  apply Ev.succ
  simp only[ap_.l0,a_,hg]
  refine Ev.pos (by omega) (Ev.pos ⟨by omega,by omega⟩ (Ev.cbind _ (changed1_eq x y) ?_))
  have hl2:((a++m++y::t).length:Int)≤1048576:=by omega
  rw[w64 (i:=(a.length:Int)+(m.length:Int)+1) (by omega) (by omega)]
  cases hc:sameK x y with
  | true =>
   refine Ev.aV_ ?_
   have e1:a++m++y::t=a++(m++[y])++t:=by simp
   have e2:(a.length:Int)+(m.length:Int)+1=(a.length:Int)+((m++[y]).length:Int):=by simp<;>omega
   rw[e1,e2]
   refine Ev.eq_ (ih a (m++[y]) (by simp) (by rw[←e1];exact hl)) ?_
   simp[dropK,hc]
  | false =>
   refine Ev.aP_ ?_
   obtain⟨z,m',rfl⟩:=List.exists_cons_of_ne_nil hm
   rw[w64 (i:=(a.length:Int)+1) (by omega) (by omega)]
   have e1:(a++(z::m')++y::t).set (a.length:Int).toNat y=(a++[y])++(m'++[y])++t:=by
    have e0:((a.length:Int)).toNat=a.length:=by omega
    rw[e0,List.append_assoc,List.set_append_right _ _ (Nat.le_refl _),Nat.sub_self]
    simp
   have e2:(a.length:Int)+((z::m').length:Int)+1=((a++[y]).length:Int)+((m'++[y]).length:Int):=by simp<;>omega
   have e3:(a.length:Int)+1=((a++[y]).length:Int):=by simp
   have e4:((a++[y])++(m'++[y])++t).length=(a++(z::m')++y::t).length:=by simp<;>omega
   rw[e1,e2,e3]
   refine Ev.eq_ (ih (a++[y]) (m'++[y]) (by simp) (by rw[e4];exact hl)) ?_
   simp[dropK,hc]
theorem delK_eq (x:ab_) (l:List ab_) (hl:l.length≤1048576):Ev (fun k=>ap_.f k l x.f0 x.f1 x.f2 x.f3) (dropK x l):=by
 unfold ap_.f
 refine Ev.bind' _ (am_.idx l x.f0 x.f1 x.f2 x.f3 (sameK x) hl (fun r hr=>Ev.const (changed1_eq x r))) ?_
 rcases idxP_split (sameK x) l with ⟨h1,h2⟩|⟨a,y,t,h1,h2,h3,h4⟩
 ·rw[h1]
  refine Ev.pos rfl (Ev.const ?_)
  rw[Option.some.injEq]
  exact(List.filter_eq_self.2 (fun y hy=>by rw[h2 y hy];rfl)).symm
 ·have hlen:(l.length:Int)=(a.length:Int)+(t.length:Int)+1:=by rw[h1];simp;omega
  have hl2:(l.length:Int)≤1048576:=by omega
  rw[h4]
  refine Ev.neg (by omega) (Ev.pos ⟨by omega,by omega⟩ ?_)
  rw[w64 (i:=(a.length:Int)+1) (by omega) (by omega)]
  have e1:l=a++[y]++t:=by rw[h1];simp
  have hgo:=delK_loop x t a [y] (by simp) (by rw[←e1];exact hl)
  rw[←e1] at hgo
  refine Ev.eq_ hgo ?_
  have ea:a.filter (fun r => !sameK x r)=a:=List.filter_eq_self.2 (fun r hr=>by rw[h2 r hr];rfl)
  rw[h1]
  unfold dropK
  rw[List.filter_append,ea]
  simp[h3]
def stepB (l:List ab_) (x:aj_):List ab_:=if x.f0=1 then putR x.f1 (dropK x.f1 l) else if x.f0=2 then dropK x.f1 l else l
theorem stepB_len (l:List ab_) (x:aj_):(stepB l x).length≤l.length+1:=by
 have h1:=dropK_len x.f1 l
 have h2:=putR_len x.f1 (dropK x.f1 l)
 unfold stepB
 split
 ·omega
 ·split
  ·omega
  ·omega
theorem stepB_good {l:List ab_} {x:aj_} (h:goodL l) (hx:okR x.f1=true∧szR x.f1):goodL (stepB l x):=by
 unfold stepB
 split
 ·exact putR_good hx (dropK_good _ h)
 ·split
  ·exact dropK_good _ h
  ·exact h
theorem foldB_len:∀(C:List aj_) (l:List ab_),(C.foldl stepB l).length≤l.length+C.length
 | [],l=>by simp
 | x::C,l=>by
  have h1:=stepB_len l x
  have h2:=foldB_len C (stepB l x)
  simp only[List.foldl_cons,List.length_cons]
  omega
theorem foldB_good:∀(C:List aj_) (l:List ab_),goodL l→(∀x∈C,okR x.f1=true∧szR x.f1)→goodL (C.foldl stepB l)
 | [],l,h,_=>h
 | x::C,l,h,hC=>foldB_good C (stepB l x) (stepB_good h (hC x (by simp))) (fun y hy=>hC y (by simp[hy]))
theorem cloneB_eq (l:List ab_) (h:l.length≤1048576):aU_.f l=some l:=by
 unfold aU_.f
 simp only[Option.bind_some,List.nil_append,List.length_nil]
 rw[if_pos (by omega)]
theorem changed_eq (l:List ab_) (C:List aj_) (hl:l.length≤1000) (hC:C.length≤12) (g:goodL l) (hg:∀x∈C,okR x.f1=true∧szR x.f1):Ev (fun k=>bq_.f k l C) (C.foldl stepB l):=by
 unfold bq_.f
 refine Ev.cbind _ (cloneB_eq l (by omega)) ?_
 refine bg_ C (fun k (s:List ab_) i=>bq_.l0 k s C (C.length:Int) i) (fun s t=>t.foldl stepB s) (fun p s=>s.length≤1000+p.length∧goodL s) ?_ ?_ l ⟨by simp;omega,g⟩
 ·rintro s _
  apply Ev.succ
  simp only[bq_.l0]
  exact Ev.neg (by omega) (Ev.const rfl)
 ·rintro p x t s e ⟨h1,h2⟩ ih
  have hm:=be_ e
  have hx:=hg x (co_ e)
  have hsl:=stepB_len s x
  have hgo:=ih (stepB s x) ⟨by simp;omega,stepB_good h2 hx⟩
  have hdl:=dropK_len x.f1 s
  apply Ev.succ
  simp only[bq_.l0,aa_,bM_ e]
  rw[List.foldl_cons]
  refine Ev.pos hm.1 (Ev.pos (by omega) (Ev.pos hm.1 ?_))
  have hj:∀b,b=(!decide (x.f0=1) && !decide (x.f0=2))→Ev (fun k=>bq_.j1 k s C (C.length:Int) (p.length:Int) b x.f0 x.f1.f0 x.f1.f1 x.f1.f2 x.f1.f3) (t.foldl stepB (stepB s x)):=by
   intro b hb
   apply Ev.succ
   simp only[bq_.j1]
   rw[w64 (i:=(p.length:Int)+1) (by omega) (by omega)]
   by_cases c1:x.f0=1
   ·have hb2:b=false:=by rw[hb];simp[c1]
    rw[hb2]
    have e1:stepB s x=putR x.f1 (dropK x.f1 s):=by unfold stepB;rw[if_pos c1]
    rw[e1] at hgo ⊢
    exact Ev.aP_ (Ev.bind' _ (delK_eq x.f1 s (by omega)) (Ev.pos c1 (Ev.bind' _ (implPut_eq _ x.f1 (by omega) (dropK_good _ h2) hx) hgo)))
   ·by_cases c2:x.f0=2
    ·have hb2:b=false:=by rw[hb];simp[c2]
     rw[hb2]
     have e1:stepB s x=dropK x.f1 s:=by unfold stepB;rw[if_neg c1,if_pos c2]
     rw[e1] at hgo ⊢
     exact Ev.aP_ (Ev.bind' _ (delK_eq x.f1 s (by omega)) (Ev.neg c1 hgo))
    ·have hb2:b=true:=by rw[hb];simp[c1,c2]
     rw[hb2]
     have e1:stepB s x=s:=by unfold stepB;rw[if_neg c1,if_neg c2]
     rw[e1] at hgo ⊢
     exact Ev.aV_ hgo
  by_cases c1:x.f0=1
  ·exact Ev.pos c1 (hj false (by simp[c1]))
  ·exact Ev.neg c1 (hj (x.f0 != 2) (by by_cases c2:x.f0=2<;>simp[c1,c2]))
def cntR (c:Int) (r:ab_):ab_:=if r.f1=6 then⟨r.f0,r.f1,r.f2,⟨(soaT c).toArray⟩⟩ else r
theorem counted_eq (l:List ab_) (c:Int) (hl:l.length≤1048576) (h0:0≤c):Ev (fun k=>b5_.f k l c) (l.map (cntR c)):=by
 unfold b5_.f
 refine Ev.cbind _ (cloneB_eq l hl) ?_
 have main:∀(t p:List ab_),(p++t).length≤1048576→Ev (fun k=>b5_.l0 k c (p++t) ((p++t).length:Int) (p.length:Int)) (p++t.map (cntR c)):=by
  intro t
  induction t with
  | nil =>
   intro p hp
   apply Ev.succ
   simp only[b5_.l0]
   exact Ev.neg (by simp) (Ev.const (by simp))
  | cons x t ih =>
   intro p hp
   have hm:=be_ (l:=p++x::t) rfl
   have hgo:=ih (p++[cntR c x]) (by simp at hp ⊢;omega)
   have e1:(((p++[cntR c x]).length:Nat):Int)=(p.length:Int)+1:=by simp
   have e2:((p++[cntR c x])++t).length=(p++x::t).length:=by simp
   rw[e1,e2] at hgo
   apply Ev.succ
   simp only[b5_.l0,a_,bM_ rfl]
   rw[w64 (i:=(p.length:Int)+1) (by omega) (by omega)]
   refine Ev.pos hm.1 (Ev.pos (by omega) (Ev.pos hm.1 ?_))
   by_cases h6:x.f1=6
   ·refine Ev.pos h6 (Ev.cbind _ (serial_eq c h0) ?_)
    rw[set_mid]
    have e3:cntR c x=⟨x.f0,x.f1,x.f2,⟨(soaT c).toArray⟩⟩:=by unfold cntR;rw[if_pos h6]
    rw[e3] at hgo
    refine Ev.eq_ hgo ?_
    rw[List.map_cons,e3]
    simp
   ·have e3:cntR c x=x:=by unfold cntR;rw[if_neg h6]
    rw[e3] at hgo
    refine Ev.neg h6 (Ev.eq_ (by simpa using hgo) ?_)
    rw[List.map_cons,e3]
 simpa using main l [] (by simpa using hl)
def ZBAD1:ByteArray × Int × List ab_ × Int:=((⟨#[]⟩:ByteArray),0,[],1)
def batR (a:ByteArray) (c:Int) (l:List ab_) (C:List aj_):ByteArray × Int × List ab_ × Int :=
 if zoneOk a c l=true then(if batOk C=true then(if C.any (missB l)=true then(a,c,l,2) else
  (if (C.foldl stepB l).length > 40∨c=1152921504606846976 then(a,c,l,4) else if ruleN a (C.foldl stepB l)=0 then(a,c+1,(C.foldl stepB l).map (cntR (c+1)),0) else(a,c,l,3))) else(a,c,l,1)) else ZBAD1
theorem zoneOk_parts {a:ByteArray} {c:Int} {l:List ab_} (h:zoneOk a c l=true) (s:∀r∈l,szR r):apexOk a=true∧(0≤c∧c≤1152921504606846976)∧l.length≤40∧goodL l:=by
 simp only[zoneOk,Bool.and_eq_true,decide_eq_true_eq] at h
 obtain⟨⟨⟨h1,⟨h2,h3⟩,h4⟩,h5⟩,h6⟩:=h
 obtain⟨r1,r2⟩:=rises_all h4
 exact⟨h2,inR_lo h1,h3,r1,fun x hx=>⟨r2 x hx,s x hx⟩⟩
theorem batOk_parts {C:List aj_} (h:batOk C=true) (s:∀x∈C,szC x):C.length≤12∧∀x∈C,(okR x.f1=true∧szR x.f1)∧x.f1.f1≠0:=by
 simp only[batOk,Bool.and_eq_true,decide_eq_true_eq,List.all_eq_true] at h
 refine⟨h.2,fun x hx=>?_⟩
 have:=h.1 x hx
 simp only[chOk,Bool.and_eq_true] at this
 have ht:=okR_type this.1.2
 exact⟨⟨this.1.2,s x hx⟩,by omega⟩
theorem ownZone_eq (a:ByteArray) (c:Int) (l:List ab_) (hl:l.length≤1048576):impl_ownZone.f a c l=some (a,c,l):=by
 unfold impl_ownZone.f
 rw[cloneB_eq l hl]
 rfl
theorem l6Own_eq (a:ByteArray) (c:Int) (l:List ab_) (hl:l.length≤1048576):cm_.f a c l=some (a,c,l):=by
 unfold cm_.f
 simp only[Option.bind_some,List.nil_append,List.length_nil]
 rw[if_pos (by omega)]
section
variable (a:ByteArray) (c:Int) (l:List ab_) (C:List aj_) (ha:a.size≤1048576) (hl:l.length≤1048576) (hC:C.length≤1048576) (sl:∀r∈l,szR r) (sC:∀x∈C,szC x)
include ha hl hC sl sC
theorem implBat_eq:Ev (fun k=>impl_ApplyBatch.f k a c l C) (batR a c l C):=by
 unfold impl_ApplyBatch.f batR
 refine Ev.bind' _ (implZone_eq a c l ha hl sl) ?_
 by_cases hz:zoneOk a c l=true
 ·rw[if_pos hz]
  obtain⟨z1,z2,z3,z4⟩:=zoneOk_parts hz sl
  refine Ev.pos hz ?_
  have hown:∀n:Int,n≠0→∀(x:ByteArray × Int × List ab_),Ev (fun k=>bp_.f k a c l C) (x.1,x.2.1,x.2.2,n)→Ev (fun k=>(bp_.f k a c l C).bind fun bt=>if bt.2.2.2=0 then some (bt.1,bt.2.1,bt.2.2.1,0) else(impl_ownZone.f a c l).bind fun b2=>some (b2.1,b2.2.1,b2.2.2,bt.2.2.2)) (a,c,l,n):=fun n hn x hx =>
   Ev.bind' _ hx (Ev.neg hn (Ev.cbind _ (ownZone_eq a c l hl) (Ev.const rfl)))
  by_cases hb:batOk C=true
  ·rw[if_pos hb]
   obtain⟨b1,b2⟩:=batOk_parts hb sC
   have hmis:=aT_.any C a c l (missB l) hC (fun x hx=>by
    unfold impl_apply_1.f
    exact Ev.bind' _ (misses_eq a c l x hl (b2 x hx).2) (Ev.const rfl))
   have happ:∀R,(C.any (missB l)=true→R=((⟨#[]⟩:ByteArray),(0:Int),([]:List ab_),(2:Int)))→(C.any (missB l)=false→Ev (fun k=>(bq_.f k l C).bind fun t663=>(if (t663.length:Int) > 40 then(bp_.j0 k true a (wrap64 (c+1)) t663) else(bp_.j0 k (c==1152921504606846976) a (wrap64 (c+1)) t663))) R)→Ev (fun k=>bp_.f k a c l C) R:=by
    intro R hR hgo
    unfold bp_.f
    refine Ev.bind' _ (implBatch_eq C hC sC) (Ev.pos hb (Ev.bind' _ hmis ?_))
    cases hm:C.any (missB l) with
    | true=>exact Ev.aV_ (Ev.const (by rw[hR hm]))
    | false=>exact Ev.aP_ (hgo hm)
   cases hm:C.any (missB l) with
   | true =>
    rw[if_pos rfl]
    exact hown 2 (by omega) ((⟨#[]⟩:ByteArray),0,[]) (happ _ (fun _=>rfl) (fun h=>by rw[hm] at h;cases h))
   | false =>
    rw[if_neg (by simp)]
    have n1:=foldB_len C l
    have n2:=foldB_good C l z4 (fun x hx=>(b2 x hx).1)
    have hch:=changed_eq l C (by omega) b1 z4 (fun x hx=>(b2 x hx).1)
    generalize C.foldl stepB l=R at n1 n2 hch ⊢
    have full:Ev (fun k=>bp_.j0 k true a (wrap64 (c+1)) R) ((⟨#[]⟩:ByteArray),(0:Int),([]:List ab_),(4:Int)):=by
     apply Ev.succ
     simp only[bp_.j0]
     exact Ev.pos (by first|rfl|trivial) (Ev.const rfl)
    by_cases h40:R.length > 40
    ·rw[if_pos (Or.inl h40)]
     exact hown 4 (by omega) ((⟨#[]⟩:ByteArray),0,[]) (happ _ (fun h=>by rw[hm] at h;cases h) (fun _=>Ev.bind' _ hch (Ev.pos (by omega) full)))
    ·by_cases hc:c=1152921504606846976
     ·rw[if_pos (Or.inr hc)]
      exact hown 4 (by omega) ((⟨#[]⟩:ByteArray),0,[]) (happ _ (fun h=>by rw[hm] at h;cases h) (fun _=>Ev.bind' _ hch (Ev.neg (by omega) (by
       rw[show(c==1152921504606846976)=true from by simp[hc]]
       exact full))))
     ·rw[if_neg (fun h=>h.elim h40 hc)]
      have hrl:=implRuleOf_same a R ha (by omega) (fun x hx=>(n2.2 x hx).2)
      rw[if_pos (by rw[z1,rises_of n2];simp;omega)] at hrl
      by_cases hr:ruleN a R=0
      ·rw[if_pos hr]
       have hfin:Ev (fun k=>bp_.f k a c l C) (a,c+1,R.map (cntR (c+1)),0):=happ _ (fun h=>by rw[hm] at h;cases h) (fun _=>Ev.bind' _ hch (Ev.neg (by omega) (by
        rw[show(c==1152921504606846976)=false from by simp[hc],w64 (i:=c+1) (by omega) (by omega)]
        apply Ev.succ
        simp only[bp_.j0]
        exact Ev.neg (by simp) (Ev.bind' _ hrl (Ev.pos hr (Ev.bind' _ (counted_eq R (c+1) (by omega) (by omega)) (Ev.const rfl)))))))
       exact Ev.bind' _ hfin (Ev.pos rfl (Ev.const rfl))
      ·rw[if_neg hr]
       exact hown 3 (by omega) ((⟨#[]⟩:ByteArray),0,[]) (happ _ (fun h=>by rw[hm] at h;cases h) (fun _=>Ev.bind' _ hch (Ev.neg (by omega) (by
        rw[show(c==1152921504606846976)=false from by simp[hc]]
        apply Ev.succ
        simp only[bp_.j0]
        exact Ev.neg (by simp) (Ev.bind' _ hrl (Ev.neg hr (Ev.const rfl)))))))
  ·rw[if_neg hb]
   refine hown 1 (by omega) ((⟨#[]⟩:ByteArray),0,[]) ?_
   unfold bp_.f
   exact Ev.bind' _ (implBatch_eq C hC sC) (Ev.neg hb (Ev.const rfl))
 ·rw[if_neg hz]
  exact Ev.neg hz (Ev.const rfl)
theorem specBat_eq:Ev (fun k=>ao_.f k a c l C) (batR a c l C):=by
 unfold ao_.f batR
 refine Ev.bind' _ (specZone_eq a c l ha hl sl) ?_
 by_cases hz:zoneOk a c l=true
 ·rw[if_pos hz]
  obtain⟨z1,z2,z3,z4⟩:=zoneOk_parts hz sl
  refine Ev.pos hz (Ev.bind' _ (specBatch_eq C hC sC) ?_)
  by_cases hb:batOk C=true
  ·rw[if_pos hb]
   obtain⟨b1,b2⟩:=batOk_parts hb sC
   refine Ev.pos hb ?_
   have hrest:Ev (fun k=>ao_.l1 k l C (C.length:Int) 0 a c l) (if (C.foldl stepB l).length > 40∨c=1152921504606846976 then(a,c,l,4) else if ruleN a (C.foldl stepB l)=0 then(a,c+1,(C.foldl stepB l).map (cntR (c+1)),0) else(a,c,l,3)):=by
    have n1:=foldB_len C l
    have n2:=foldB_good C l z4 (fun x hx=>(b2 x hx).1)
    have hend:Ev (fun k=>ao_.l1 k (C.foldl stepB l) C (C.length:Int) (C.length:Int) a c l) (if (C.foldl stepB l).length > 40∨c=1152921504606846976 then(a,c,l,4) else if ruleN a (C.foldl stepB l)=0 then(a,c+1,(C.foldl stepB l).map (cntR (c+1)),0) else(a,c,l,3)):=by
     generalize C.foldl stepB l=R at n1 n2 ⊢
     apply Ev.succ
     simp only[ao_.l1]
     refine Ev.neg (by omega) ?_
     have full:Ev (fun k=>ao_.j2 k R true a c l) (a,c,l,4):=by
      apply Ev.succ
      simp only[ao_.j2]
      exact Ev.pos (by first|rfl|trivial) (Ev.cbind _ (l6Own_eq a c l hl) (Ev.const rfl))
     by_cases h40:R.length > 40
     ·rw[if_pos (Or.inl h40)]
      exact Ev.pos (by omega) full
     ·refine Ev.neg (by omega) ?_
      by_cases hc:c=1152921504606846976
      ·rw[if_pos (Or.inr hc),show(c==1152921504606846976)=true from by simp[hc]]
       exact full
      ·rw[if_neg (fun h=>h.elim h40 hc),show(c==1152921504606846976)=false from by simp[hc]]
       apply Ev.succ
       simp only[ao_.j2]
       refine Ev.neg (by simp) (Ev.bind' _ (specRule_eq a R ha (by omega) (fun x hx=>(n2.2 x hx).2)) ?_)
       by_cases hr:ruleN a R=0
       ·rw[if_pos hr,w64 (i:=c+1) (by omega) (by omega)]
        refine Ev.pos hr ?_
        refine Ev.eq_ (bg_ R (fun k (s:List ab_) i=>ao_.l2 k R (R.length:Int) i a (c+1) s) (fun s t=>(a,c+1,s++t.map (cntR (c+1)),0)) (fun p s=>s.length≤p.length) ?_ ?_ [] (by simp)) (by simp)
        ·intro s _
         apply Ev.succ
         simp only[ao_.l2]
         exact Ev.neg (by omega) (Ev.const (by simp))
        ·intro p x t s e hsl ih
         have hm:=be_ e
         apply Ev.succ
         simp only[ao_.l2,a_,bM_ e]
         rw[w64 (i:=(p.length:Int)+1) (by omega) (by omega)]
         refine Ev.pos hm.1 (Ev.pos (by omega) (Ev.pos hm.1 ?_))
         have hgo:=ih (s++[cntR (c+1) x]) (by simp;omega)
         by_cases h6:x.f1=6
         ·have e3:cntR (c+1) x=⟨x.f0,x.f1,x.f2,⟨(soaT (c+1)).toArray⟩⟩:=by unfold cntR;rw[if_pos h6]
          refine Ev.pos h6 (Ev.bind' _ (l6Soa_eq a (c+1) s (by omega)) (Ev.pos (by omega) ?_))
          rw[e3] at hgo
          refine Ev.eq_ hgo ?_
          rw[List.map_cons,e3]
          simp
         ·have e3:cntR (c+1) x=x:=by unfold cntR;rw[if_neg h6]
          refine Ev.neg h6 (Ev.pos (by omega) ?_)
          rw[e3] at hgo
          refine Ev.eq_ hgo ?_
          rw[List.map_cons,e3]
          simp
       ·rw[if_neg hr]
        exact Ev.neg hr (Ev.cbind _ (l6Own_eq a c l hl) (Ev.const rfl))
    refine bg_ C (fun k (s:List ab_) i=>ao_.l1 k s C (C.length:Int) i a c l) (fun s t=>if (C.foldl stepB l).length > 40∨c=1152921504606846976 then(a,c,l,4) else if ruleN a (C.foldl stepB l)=0 then(a,c+1,(C.foldl stepB l).map (cntR (c+1)),0) else(a,c,l,3)) (fun p s=>s=p.foldl stepB l∧s.length≤40+p.length∧goodL s) ?_ ?_ l ⟨rfl,by simp;omega,z4⟩
    ·rintro s ⟨h1,_,_⟩
     rw[h1]
     exact hend
    ·rintro p x t s e ⟨h1,h2,h3⟩ ih
     have hm:=be_ e
     have hx:=(b2 x (co_ e)).1
     have hsl:=stepB_len s x
     have hdl:=dropK_len x.f1 s
     have hgo:=ih (stepB s x) ⟨by rw[h1];simp,by simp;omega,stepB_good h3 hx⟩
     apply Ev.succ
     simp only[ao_.l1,aa_,bM_ e]
     rw[w64 (i:=(p.length:Int)+1) (by omega) (by omega)]
     refine Ev.pos hm.1 (Ev.pos (by omega) (Ev.pos hm.1 ?_))
     by_cases c2:x.f0=2
     ·have e1:stepB s x=dropK x.f1 s:=by unfold stepB;rw[if_neg (by omega),if_pos c2]
      rw[e1] at hgo
      exact Ev.pos c2 (Ev.bind' _ (specDropK_eq x.f1 s (by omega)) hgo)
     ·refine Ev.neg c2 ?_
      by_cases c1:x.f0=1
      ·have e1:stepB s x=putR x.f1 (dropK x.f1 s):=by unfold stepB;rw[if_pos c1]
       rw[e1] at hgo
       exact Ev.pos c1 (Ev.bind' _ (specDropK_eq x.f1 s (by omega)) (Ev.bind' _ (specPut_eq _ x.f1 (by omega) (dropK_good _ h3) hx) hgo))
      ·have e1:stepB s x=s:=by unfold stepB;rw[if_neg c1,if_neg c2]
       rw[e1] at hgo
       exact Ev.neg c1 hgo
   refine Ev.eq_ (bg_ C (fun k (_:Unit) i=>ao_.l0 k C C (C.length:Int) i a c l) (fun _ t=>if t.any (missB l)=true then(a,c,l,2) else(if (C.foldl stepB l).length > 40∨c=1152921504606846976 then(a,c,l,4) else if ruleN a (C.foldl stepB l)=0 then(a,c+1,(C.foldl stepB l).map (cntR (c+1)),0) else(a,c,l,3))) (fun _ _=>True) ?_ ?_ () trivial) rfl
   ·intro _ _
    apply Ev.succ
    simp only[ao_.l0]
    refine Ev.neg (by omega) (Ev.cbind _ rfl (Ev.pos (by simp;omega) ?_))
    rw[List.nil_append]
    exact Ev.eq_ hrest (by simp)
   ·intro p x t _ e _ ih
    have hm:=be_ e
    have hgo:=ih () trivial
    have hbad:missB l x=true→Ev (fun k=>(cm_.f a c l).bind fun bt=>some (bt.1,bt.2.1,bt.2.2,(2:Int))) (if (x::t).any (missB l)=true then(a,c,l,2) else(if (C.foldl stepB l).length > 40∨c=1152921504606846976 then(a,c,l,4) else if ruleN a (C.foldl stepB l)=0 then(a,c+1,(C.foldl stepB l).map (cntR (c+1)),0) else(a,c,l,3))):=fun h=>by
     rw[if_pos (by simp[h])]
     exact Ev.cbind _ (l6Own_eq a c l hl) (Ev.const rfl)
    have hok:missB l x=false→Ev (fun k=>ao_.l0 k C C (C.length:Int) ((p.length:Int)+1) a c l) (if (x::t).any (missB l)=true then(a,c,l,2) else(if (C.foldl stepB l).length > 40∨c=1152921504606846976 then(a,c,l,4) else if ruleN a (C.foldl stepB l)=0 then(a,c+1,(C.foldl stepB l).map (cntR (c+1)),0) else(a,c,l,3))):=fun h=>by
     rw[List.any_cons,h,Bool.false_or]
     exact hgo
    apply Ev.succ
    simp only[ao_.l0,aa_,bM_ e]
    rw[w64 (i:=(p.length:Int)+1) (by omega) (by omega)]
    refine Ev.pos hm.1 (Ev.pos (by omega) (Ev.pos hm.1 (Ev.bind' _ (hasT_eq l x.f1.f0 x.f1.f1 hl) ?_)))
    by_cases c3:x.f0=3
    ·refine Ev.pos c3 ?_
     cases hh:hasT l x.f1.f0 x.f1.f1 with
     | true=>exact Ev.aV_ (Ev.neg (by omega) (hok (by simp[missB,c3,hh])))
     | false=>exact Ev.aP_ (hbad (by simp[missB,c3,hh]))
    ·refine Ev.neg c3 ?_
     by_cases c4:x.f0=4
     ·refine Ev.pos c4 ?_
      cases hh:hasT l x.f1.f0 x.f1.f1 with
      | true=>exact Ev.aV_ (hbad (by simp[missB,c4,hh]))
      | false=>exact Ev.aP_ (hok (by simp[missB,c4,hh]))
     ·exact Ev.neg c4 (hok (by simp[missB,c3,c4]))
  ·rw[if_neg hb]
   exact Ev.neg hb (Ev.cbind _ (l6Own_eq a c l hl) (Ev.const rfl))
 ·rw[if_neg hz]
  exact Ev.neg hz (Ev.const rfl)
omit ha hC sl sC in
theorem batR_len:(batR a c l C).2.2.1.length≤1048576:=by
 have n1:=foldB_len C l
 unfold batR
 split
 ·split
  ·split
   ·exact hl
   ·split
    ·exact hl
    ·rename_i h
     have h40:¬(C.foldl stepB l).length > 40:=fun h2=>h (Or.inl h2)
     split
     ·show((C.foldl stepB l).map (cntR (c+1))).length≤1048576
      rw[List.length_map]
      omega
     ·exact hl
  ·exact hl
 ·exact Nat.zero_le _
end
end
def cRec (x:a9_):ab_:=⟨x.f0,x.f1,x.f2,x.f3⟩
theorem szRecordS_eq (l:List a9_) (h:l.length≤maxLen∧∀x∈l,WF_LRecord x) (a:Int) (h0:0≤a) (h1:a≤1048576):Szd (fun k=>bS_.f k l a) a (l.length≤1048576∧∀x∈l,x.f0.size≤1048576∧x.f3.size≤1048576):=by
 have hm:maxLen=9223372036854775807:=rfl
 unfold bS_.f
 by_cases hl:l.length≤1048576
 ·refine Szd.size _ (by omega) h0 h1 (fun a' e ha hb=>?_)
  rw[e]
  refine Szd.list l hl (fun k a i=>bS_.l0 k l a i) (fun x=>x.f0.size≤1048576∧x.f3.size≤1048576) ?_ ?_ a' ha hb
  ·intro a ha hb
   refine⟨a,Ev.succ ?_,Or.inr ⟨ha,Int.le_refl _,trivial⟩⟩
   simp only[bS_.l0]
   exact Ev.neg (by omega) (Ev.const rfl)
  ·intro p x t a e ha hb _ C hC
   have hm2:=be_ e
   have hx:=h.2 x (co_ e)
   have hel:Szd (fun _:Nat=>cj_.f x.f0 x.f1 x.f2 x.f3 a) a (x.f0.size≤1048576∧x.f3.size≤1048576):=by
    unfold cj_.f
    refine(Szd.size _ (by have:=hx.1;omega) ha hb (fun a' e2 ha' hb'=>?_))
    rw[e2]
    exact(Szd.size _ (by have:=hx.2.2.2;omega) ha' hb' (fun a'' e3 ha'' hb''=>by rw[e3];exact Szd.end_ ha'')).mono (fun h=>h.1)
   obtain⟨r,hr,hh⟩:=Szd.cbind (g:=fun k t=>bS_.l0 k l t ((p.length:Int)+1)) hel hb (fun r h3 h4=>hC r h3 h4)
   refine⟨r,Ev.succ ?_,hh⟩
   simp only[bS_.l0,a8_,bM_ e]
   rw[w64 (i:=(p.length:Int)+1) (by omega) (by omega)]
   exact Ev.pos hm2.1 (Ev.pos (by omega) hr)
 ·have:=h.1
  refine⟨-1,Ev.pos ?_ (Ev.const rfl),Or.inl (by omega)⟩
  rw[w64 (by omega) (by omega)]
  omega
theorem toRecordS_eq (l:List a9_) (hl:l.length≤1048576):Ev (fun k=>bQ_.f k l) (l.map cRec):=by
 unfold bQ_.f
 refine Ev.pos (by omega) (Ev.pos (by simp;omega) ?_)
 refine to_list l cRec (fun k s i=>bQ_.l0 k l s i) ?_ ?_ _ (by simp)
 ·intro s
  apply Ev.succ
  simp only[bQ_.l0]
  exact Ev.neg (by omega) (Ev.const rfl)
 ·intro p x t s r e hs h
  have hm:=be_ e
  apply Ev.succ
  simp only[bQ_.l0,a8_,bM_ e]
  rw[w64 (i:=(p.length:Int)+1) (by omega) (by omega)]
  exact Ev.pos hm.1 (Ev.pos (by omega) (Ev.cbind _ rfl (Ev.pos (by omega) h)))
theorem eqRecord_eq (a:ByteArray) (b c:Int) (d:ByteArray):cA_.f a b c d a b c d=some true:=by
 unfold cA_.f
 simp
theorem eqRecordS_eq (l:List ab_) (hl:l.length≤1048576):Ev (fun k=>bd_.f k l l) true:=by
 unfold bd_.f
 refine Ev.pos rfl (eq_list l (fun k i=>bd_.l0 k l l i) ?_ ?_)
 ·apply Ev.succ
  simp only[bd_.l0]
  exact Ev.neg (by omega) (Ev.const rfl)
 ·intro p x t e h
  have hm:=be_ e
  apply Ev.succ
  simp only[bd_.l0]
  rw[w64 (i:=(p.length:Int)+1) (by omega) (by omega)]
  exact Ev.pos hm.1 (Ev.pos (by omega) (Ev.pos hm.1 (Ev.cbind _ (eqRecord_eq _ _ _ _) (Ev.aV_ h))))
theorem strOfNums_one (x:Int):(strOfNums [x]).size=1:=rfl
theorem markText_eq (a:Int) (h0:0≤a) (h1:a≤4611686018427387904):∃s,Ev (fun k=>aW_.f k a) s:=by
 have main:∀(n:Nat) (a:Int) (x:ByteArray),a.toNat≤n→0≤a→a≤4611686018427387904→x.size+a.toNat≤4611686018427388904→∃s,Ev (fun k=>aW_.l0 k a x) s:=by
  intro n
  induction n with
  | zero =>
   intro a x hn h0 h1 hx
   refine⟨(⟨#[109]⟩:ByteArray)++x,Ev.succ ?_⟩
   simp only[aW_.l0]
   exact Ev.neg (by omega) (Ev.pos (by omega) (Ev.const rfl))
  | succ n ih =>
   intro a x hn h0 h1 hx
   by_cases hp:a > 0
   ·have hd:Int.tdiv a 10=a / 10:=Int.tdiv_eq_ediv_of_nonneg h0
    have hd2:a / 10<a:=by omega
    have hd3:0≤a / 10:=by omega
    have hsz:(strOfNums [(wrap64 (48+Int.tmod a 10)) % 256]++x).size=1+x.size:=by rw[ByteArray.size_append,strOfNums_one]
    obtain⟨s,hs⟩:=ih (a / 10) (strOfNums [(wrap64 (48+Int.tmod a 10)) % 256]++x) (by omega) hd3 (by omega) (by rw[hsz];omega)
    refine⟨s,Ev.succ ?_⟩
    simp only[aW_.l0]
    refine Ev.pos hp (Ev.cbind _ rfl (Ev.pos (by rw[strOfNums_one];omega) ?_))
    rw[hd,w64 (by omega) (by omega)]
    exact hs
   ·refine⟨(⟨#[109]⟩:ByteArray)++x,Ev.succ ?_⟩
    simp only[aW_.l0]
    exact Ev.neg hp (Ev.pos (by omega) (Ev.const rfl))
 by_cases h:a≤0
 ·refine⟨⟨#[109,48]⟩,?_⟩
  unfold aW_.f
  exact Ev.pos h (Ev.const rfl)
 ·obtain⟨s,hs⟩:=main a.toNat a ⟨#[]⟩ (Nat.le_refl _) h0 h1 (by have:(⟨#[]⟩:ByteArray).size=0:=rfl;omega)
  refine⟨s,?_⟩
  unfold aW_.f
  exact Ev.neg h hs
def cChg (x:b6_):aj_:=⟨x.f0,cRec x.f1⟩
theorem szChangeS_eq (l:List b6_) (h:l.length≤maxLen∧∀x∈l,WF_LChange x) (a:Int) (h0:0≤a) (h1:a≤1048576):Szd (fun k=>bR_.f k l a) a (l.length≤1048576∧∀x∈l,x.f1.f0.size≤1048576∧x.f1.f3.size≤1048576):=by
 have hm:maxLen=9223372036854775807:=rfl
 unfold bR_.f
 by_cases hl:l.length≤1048576
 ·refine Szd.size _ (by omega) h0 h1 (fun a' e ha hb=>?_)
  rw[e]
  refine Szd.list l hl (fun k a i=>bR_.l0 k l a i) (fun x=>x.f1.f0.size≤1048576∧x.f1.f3.size≤1048576) ?_ ?_ a' ha hb
  ·intro a ha hb
   refine⟨a,Ev.succ ?_,Or.inr ⟨ha,Int.le_refl _,trivial⟩⟩
   simp only[bR_.l0]
   exact Ev.neg (by omega) (Ev.const rfl)
  ·intro p x t a e ha hb _ C hC
   have hm2:=be_ e
   have hx:=(h.2 x (co_ e)).2
   have hrec:Szd (fun _:Nat=>cj_.f x.f1.f0 x.f1.f1 x.f1.f2 x.f1.f3 a) a (x.f1.f0.size≤1048576∧x.f1.f3.size≤1048576):=by
    unfold cj_.f
    refine(Szd.size _ (by have:=hx.1;omega) ha hb (fun a' e2 ha' hb'=>?_))
    rw[e2]
    exact(Szd.size _ (by have:=hx.2.2.2;omega) ha' hb' (fun a'' e3 ha'' hb''=>by rw[e3];exact Szd.end_ ha'')).mono (fun h=>h.1)
   have hel:Szd (fun _:Nat=>laws_szChange.f x.f0 x.f1.f0 x.f1.f1 x.f1.f2 x.f1.f3 a) a (x.f1.f0.size≤1048576∧x.f1.f3.size≤1048576):=by
    unfold laws_szChange.f
    exact(Szd.cbind (g:=fun _ t=>some t) hrec hb (fun r h3 _=>Szd.end_ h3)).mono (fun h=>h.1)
   obtain⟨r,hr,hh⟩:=Szd.cbind (g:=fun k t=>bR_.l0 k l t ((p.length:Int)+1)) hel hb (fun r h3 h4=>hC r h3 h4)
   refine⟨r,Ev.succ ?_,hh⟩
   simp only[bR_.l0,aQ_,bM_ e]
   rw[w64 (i:=(p.length:Int)+1) (by omega) (by omega)]
   exact Ev.pos hm2.1 (Ev.pos (by omega) hr)
 ·have:=h.1
  refine⟨-1,Ev.pos ?_ (Ev.const rfl),Or.inl (by omega)⟩
  rw[w64 (by omega) (by omega)]
  omega
theorem toChangeS_eq (l:List b6_) (hl:l.length≤1048576):Ev (fun k=>by_.f k l) (l.map cChg):=by
 unfold by_.f
 refine Ev.pos (by omega) (Ev.pos (by simp;omega) ?_)
 refine to_list l cChg (fun k s i=>by_.l0 k l s i) ?_ ?_ _ (by simp)
 ·intro s
  apply Ev.succ
  simp only[by_.l0]
  exact Ev.neg (by omega) (Ev.const rfl)
 ·intro p x t s r e hs h
  have hm:=be_ e
  apply Ev.succ
  simp only[by_.l0,aQ_,bM_ e]
  rw[w64 (i:=(p.length:Int)+1) (by omega) (by omega)]
  exact Ev.pos hm.1 (Ev.pos (by omega) (Ev.cbind _ rfl (Ev.pos (by omega) h)))
theorem eqChangeS_eq (l:List aj_) (hl:l.length≤1048576):Ev (fun k=>b_.f k l l) true:=by
 unfold b_.f
 refine Ev.pos rfl (eq_list l (fun k i=>b_.l0 k l l i) ?_ ?_)
 ·apply Ev.succ
  simp only[b_.l0]
  exact Ev.neg (by omega) (Ev.const rfl)
 ·intro p x t e h
  have hm:=be_ e
  have he:∀y:aj_,laws_eqChange.f y.f0 y.f1.f0 y.f1.f1 y.f1.f2 y.f1.f3 y.f0 y.f1.f0 y.f1.f1 y.f1.f2 y.f1.f3=some true:=fun y=>by
   unfold laws_eqChange.f
   rw[if_pos rfl,eqRecord_eq]
   rfl
  apply Ev.succ
  simp only[b_.l0]
  rw[w64 (i:=(p.length:Int)+1) (by omega) (by omega)]
  exact Ev.pos hm.1 (Ev.pos (by omega) (Ev.pos hm.1 (Ev.cbind _ (he _) (Ev.aV_ h))))
theorem markChangeS_eq (l:List aj_) (hl:l.length≤1048576) (a:Int) (ha:0≤a) (hb:a≤1073741824):∃r l',Ev (fun k=>bm_.f k l a) (r,l')∧a≤r:=by
 unfold bm_.f
 refine(mark_list 5 (by omega) (fun k l a i=>bm_.l0 k l a i) (fun _ l a i=>some (a+5 * ((l.length:Int) - i))) 8589934592 ?_ ?_ ?_ l hl a ha (by omega)).elim (fun r q=>q.elim (fun l' z=>⟨r,l',z.1,z.2.2.2.1⟩))
 ·intro l a
  apply Ev.succ
  simp only[bm_.l0]
  exact Ev.neg (by omega) (Ev.const rfl)
 ·intro l a
  exact Ev.const (by simp)
 ·intro p x t a hp ha hb
  obtain⟨s,hs⟩:=markText_eq (a+1) (by omega) (by omega)
  obtain⟨s2,hs2⟩:=markText_eq (a+1+1+1+1) (by omega) (by omega)
  refine⟨⟨a,⟨s,a+1+1,a+1+1+1,s2⟩⟩,a+5,by omega,by omega,?_,?_⟩
  ·intro r h
   have hm:=be_ (l:=p++x::t) rfl
   have e5:a+1+1+1+1+1=a+5:=by omega
   apply Ev.succ
   simp only[bm_.l0]
   rw[w64 (i:=(p.length:Int)+1) (by omega) (by omega),w64 (i:=a+1) (by omega) (by omega),w64 (i:=a+1+1) (by omega) (by omega),w64 (i:=a+1+1+1) (by omega) (by omega),w64 (i:=a+1+1+1+1) (by omega) (by omega),w64 (i:=a+1+1+1+1+1) (by omega) (by omega)]
   refine Ev.pos hm.1 (Ev.pos (by omega) (Ev.cbind _ rfl (Ev.bind' _ hs (Ev.cbind _ rfl (Ev.cbind _ rfl (Ev.cbind _ rfl (Ev.bind' _ hs2 ?_)))))))
   simp only[aa_,set_mid,List.append_assoc,List.cons_append,List.nil_append,bM_ rfl]
   rw[e5]
   exact h
  ·intro q r hq h
   have e_:a+5+5 * (((p++(⟨a,⟨s,a+1+1,a+1+1+1,s2⟩⟩:aj_)::q).length:Int) - ((p.length:Int)+1))=a+5 * (((p++(⟨a,⟨s,a+1+1,a+1+1+1,s2⟩⟩:aj_)::q).length:Int) - (p.length:Int)):=by omega
   rw[e_] at h
   exact h
theorem markRecordS_eq (l:List ab_) (hl:l.length≤1048576) (a:Int) (ha:0≤a) (hb:a≤1073741824):∃r l',Ev (fun k=>bu_.f k l a) (r,l')∧Ev (fun k=>aK_.f k l' a) r∧l'.length=l.length∧a≤r∧r≤a+4 * l.length:=by
 unfold bu_.f aK_.f
 refine mark_list 4 (by omega) (fun k l a i=>bu_.l0 k l a i) (fun k l a i=>aK_.l0 k l a i) 4294967296 ?_ ?_ ?_ l hl a ha (by omega)
 ·intro l a
  apply Ev.succ
  simp only[bu_.l0]
  exact Ev.neg (by omega) (Ev.const rfl)
 ·intro l a
  apply Ev.succ
  simp only[aK_.l0]
  exact Ev.neg (by omega) (Ev.const rfl)
 ·intro p x t a hp ha hb
  obtain⟨s,hs⟩:=markText_eq a ha (by omega)
  obtain⟨s2,hs2⟩:=markText_eq (a+1+1+1) (by omega) (by omega)
  refine⟨⟨s,a+1,a+1+1,s2⟩,a+4,by omega,by omega,?_,?_⟩
  ·intro r h
   have hm:=be_ (l:=p++x::t) rfl
   have e4:a+1+1+1+1=a+4:=by omega
   apply Ev.succ
   simp only[bu_.l0]
   rw[w64 (i:=(p.length:Int)+1) (by omega) (by omega),w64 (i:=a+1) (by omega) (by omega),w64 (i:=a+1+1) (by omega) (by omega),w64 (i:=a+1+1+1) (by omega) (by omega),w64 (i:=a+1+1+1+1) (by omega) (by omega)]
   refine Ev.pos hm.1 (Ev.bind' _ hs (Ev.pos (by omega) (Ev.cbind _ rfl (Ev.cbind _ rfl (Ev.cbind _ rfl (Ev.bind' _ hs2 ?_))))))
   simp only[a_,set_mid,List.append_assoc,List.cons_append,List.nil_append,bM_ rfl]
   rw[e4]
   exact h
  ·intro q r hq h
   have hm:=be_ (l:=p++(⟨s,a+1,a+1+1,s2⟩:ab_)::q) rfl
   have e4:a+1+1+1+1=a+4:=by omega
   apply Ev.succ
   simp only[aK_.l0,a_,bM_ rfl]
   rw[w64 (i:=(p.length:Int)+1) (by omega) (by omega),w64 (i:=a+1) (by omega) (by omega),w64 (i:=a+1+1) (by omega) (by omega),w64 (i:=a+1+1+1) (by omega) (by omega),w64 (i:=a+1+1+1+1) (by omega) (by omega),e4]
   exact Ev.pos hm.1 (Ev.pos (by omega) (Ev.bind' _ hs (Ev.pos (by trivial) (Ev.pos (by trivial) (Ev.pos (by trivial) (Ev.bind' _ hs2 (Ev.pos (by trivial) h)))))))
theorem markZone_eq (s:ByteArray) (c:Int) (l:List ab_) (hl:l.length≤1048576) (a:Int) (ha:0≤a) (hb:a≤1073741824):∃r l',Ev (fun k=>laws_markZone.f k s c l a) (r,l')∧Ev (fun k=>laws_heldZone.f k s c l' a) r∧a≤r∧r≤a+4 * l.length:=by
 obtain⟨r,l',x1,x2,x3,x4,x5⟩:=markRecordS_eq l hl a ha hb
 refine⟨r,l',?_,?_,x4,x5⟩
 ·unfold laws_markZone.f
  exact Ev.bind' _ x1 (Ev.const rfl)
 ·unfold laws_heldZone.f
  exact Ev.bind' _ x2 (Ev.neg (by omega) (Ev.const rfl))
theorem szZone_eq (a:ByteArray) (c:Int) (l:List a9_) (ha:a.size≤maxLen) (hl:l.length≤maxLen∧∀x∈l,WF_LRecord x) (n:Int) (h0:0≤n) (h1:n≤1048576) :
  Szd (fun k=>laws_szZone.f k a c l n) n (a.size≤1048576∧l.length≤1048576∧∀x∈l,x.f0.size≤1048576∧x.f3.size≤1048576):=by
 unfold laws_szZone.f
 have hm:a.size≤9223372036854775807:=ha
 refine Szd.size a.size hm h0 h1 (fun r hr h2 h3=>?_)
 rw[hr]
 exact(Szd.bind (szRecordS_eq l hl r h2 h3) h3 (fun q h4 h5=>Szd.end_ h4)).mono (fun h=>h.1)
theorem toZone_eq (a:ByteArray) (c:Int) (l:List a9_) (hl:l.length≤1048576):Ev (fun k=>laws_toZone.f k a c l) (a,c,l.map cRec):=by
 unfold laws_toZone.f
 exact Ev.bind' _ (toRecordS_eq l hl) (Ev.const rfl)
theorem eqZone_eq (a:ByteArray) (c:Int) (l:List ab_) (hl:l.length≤1048576):Ev (fun k=>laws_eqZone.f k a c l a c l) true:=by
 unfold laws_eqZone.f
 exact Ev.pos rfl (Ev.pos rfl (Ev.bind' _ (eqRecordS_eq l hl) (Ev.aV_ (Ev.const rfl))))
theorem szR_map' {l:List a9_} (h:∀x∈l,x.f0.size≤1048576∧x.f3.size≤1048576):∀r∈l.map cRec,szR r:=by
 intro r hr
 obtain⟨x,hx,rfl⟩:=List.mem_map.mp hr
 exact h x hx
end Go.Proofs.YtbgajeomljkdjaaGreatDoor.PL
end
section
set_option linter.unusedVariables false
set_option linter.unusedSimpArgs false
namespace Go.Proofs.YtbgajeomljkdjaaGreatDoor.Pure
open Go.RowKit Go.Proofs.YtbgajeomljkdjaaGreatDoor.Pp Go.Proofs.YtbgajeomljkdjaaGreatDoor.PB Go.Proofs.YtbgajeomljkdjaaGreatDoor.PL Go.Proofs.YtbgajeomljkdjaaGreatDoorW.PrintWords Go.Proofs.YtbgajeomljkdjaaGreatDoorW.PrintLast
theorem FnExactApplyBatch:ad_.Pure:=by
 intro a c l C ha _ hl hC
 refine Ev.get (g:=fun k=>ad_.f k a c l C) ?_
 unfold ad_.f
 obtain⟨t1,ht,hs⟩:=szZone_eq a c l ha hl 1048576 (by omega) (by omega)
 refine Ev.bind' _ ht ?_
 rcases hs with hs|⟨hs,hs',l0,l1,l2⟩
 ·exact Ev.pos hs (Ev.const rfl)
 ·obtain⟨t2,ht2,hs2⟩:=szChangeS_eq C hC t1 hs hs'
  refine Ev.neg (by omega) (Ev.bind' _ ht2 ?_)
  rcases hs2 with hs2|⟨hs2,_,d1,d2⟩
  ·exact Ev.pos hs2 (Ev.const rfl)
  ·have hz:=toZone_eq a c l l1
   have hc:=toChangeS_eq C d1
   have g1:(l.map cRec).length≤1048576:=by simpa using l1
   have g2:(C.map cChg).length≤1048576:=by simpa using d1
   have s2:∀x∈C.map cChg,szC x:=fun x hx=>by
    obtain⟨y,hy,rfl⟩:=List.mem_map.1 hx
    exact d2 y hy
   have hsp:=specBat_eq a c _ _ l0 g1 g2 (szR_map' l2) s2
   have him:=implBat_eq a c _ _ l0 g1 g2 (szR_map' l2) s2
   have q1:=batR_len a c (l.map cRec) (C.map cChg) g1
   generalize batR a c (l.map cRec) (C.map cChg)=R at hsp him q1
   have heq:=eqZone_eq R.1 R.2.1 R.2.2.1 q1
   have hea:=eqZone_eq a c _ g1
   have hec:=eqChangeS_eq _ g2
   obtain⟨r1,u1,a1,_,a2,a3⟩:=markZone_eq a c _ g1 1 (by omega) (by omega)
   obtain⟨r2,u2,b1,b2⟩:=markChangeS_eq _ g2 r1 (by omega) (by omega)
   obtain⟨r3,u3,c1,c2,c3,c4⟩:=markZone_eq R.1 R.2.1 R.2.2.1 q1 1 (by omega) (by omega)
   exact Ev.neg (by omega) (Ev.bind' _ hz (Ev.bind' _ hc (Ev.bind' _ hsp (Ev.bind' _ him (Ev.bind' _ heq (Ev.aV_ (Ev.pos rfl (Ev.bind' _ hea (Ev.aV_ (Ev.bind' _ hec (Ev.aV_ (Ev.bind' _ a1 (Ev.bind' _ b1 (Ev.neg (by omega) (Ev.bind' _ c1 (Ev.bind' _ c2 (Ev.neg (by omega) (Ev.pos rfl (Ev.neg (by omega) (Ev.const rfl))))))))))))))))))))
end Go.Proofs.YtbgajeomljkdjaaGreatDoor.Pure
end
