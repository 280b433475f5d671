/- Texts that belong together,joined by claimit.py. -/
import Derived.Test.YtenpejebbeoceaaGreatDoorKFnExactCatchUpW
import Derived.Test.YtenpejebbeoceaaGreatDoorJFnExactCatchUp0
import Derived.Test.YtenpejebbeoceaaGreatDoorJFnExactCatchUp1
import Derived.Test.YtenpejebbeoceaaGreatDoorJFnExactCatchUp2
import Derived.Test.YtenpejebbeoceaaGreatDoorJFnExactCatchUp3
import Derived.Test.YtenpejebbeoceaaGreatDoorKFnExactCatchUpPQ
section
set_option linter.unusedVariables false
set_option linter.unusedSimpArgs false
namespace Go.Proofs.YtenpejebbeoceaaGreatDoor.PL
open Go.RowKit Go.Proofs.YtenpejebbeoceaaGreatDoor.Pp Go.Proofs.YtenpejebbeoceaaGreatDoor.PB Go.Proofs.YtenpejebbeoceaaGreatDoorW.PrintWords Go.Proofs.YtenpejebbeoceaaGreatDoorW.PrintLast
theorem strOfNums_one (x:Int):(strOfNums [x]).size=1:=rfl
theorem markText_eq (a:Int) (h0:0≤a) (h1:a≤4611686018427387904):∃s,Ev (fun k=>bx_.f k a) s:=by
 have main:∀(n:Nat) (a:Int) (x:ByteArray),a.toNat≤n→0≤a→a≤4611686018427387904→x.size+a.toNat≤4611686018427388904→∃s,Ev (fun k=>bx_.l0 k a x) s:=by
  intro n
  induction n with
  | zero =>
   intro a x hn h0 h1 hx
   refine⟨(⟨#[109]⟩:ByteArray)++x,Ev.succ ?_⟩
   simp only[bx_.l0]
   exact Ev.neg (by omega) (Ev.pos (by omega) (Ev.const rfl))
  | succ n ih =>
   intro a x hn h0 h1 hx
   by_cases hp:a > 0
   ·have hd:Int.tdiv a 10=a / 10:=Int.tdiv_eq_ediv_of_nonneg h0
    have hd2:a / 10<a:=by omega
    have hd3:0≤a / 10:=by omega
    have hsz:(strOfNums [(wrap64 (48+Int.tmod a 10)) % 256]++x).size=1+x.size:=by rw[ByteArray.size_append,strOfNums_one]
    obtain⟨s,hs⟩:=ih (a / 10) (strOfNums [(wrap64 (48+Int.tmod a 10)) % 256]++x) (by omega) hd3 (by omega) (by rw[hsz];omega)
    refine⟨s,Ev.succ ?_⟩
    simp only[bx_.l0]
    refine Ev.pos hp (Ev.cbind _ rfl (Ev.pos (by rw[strOfNums_one];omega) ?_))
    rw[hd,w64 (by omega) (by omega)]
    exact hs
   ·refine⟨(⟨#[109]⟩:ByteArray)++x,Ev.succ ?_⟩
    simp only[bx_.l0]
    exact Ev.neg hp (Ev.pos (by omega) (Ev.const rfl))
 by_cases h:a≤0
 ·refine⟨⟨#[109,48]⟩,?_⟩
  unfold bx_.f
  exact Ev.pos h (Ev.const rfl)
 ·obtain⟨s,hs⟩:=main a.toNat a ⟨#[]⟩ (Nat.le_refl _) h0 h1 (by have:(⟨#[]⟩:ByteArray).size=0:=rfl;omega)
  refine⟨s,?_⟩
  unfold bx_.f
  exact Ev.neg h hs
theorem markRecordS_eq (l:List aa_) (hl:l.length≤1048576) (a:Int) (ha:0≤a) (hb:a≤2305843009213693952):∃r l',Ev (fun k=>br_.f k l a) (r,l')∧Ev (fun k=>aL_.f k l' a) r∧l'.length=l.length∧a≤r∧r≤a+4 * l.length:=by
 unfold br_.f aL_.f
 refine mark_list 4 (by omega) (fun k l a i=>br_.l0 k l a i) (fun k l a i=>aL_.l0 k l a i) 2305843017803628544 ?_ ?_ ?_ l hl a ha (by omega)
 ·intro l a
  apply Ev.succ
  simp only[br_.l0]
  exact Ev.neg (by omega) (Ev.const rfl)
 ·intro l a
  apply Ev.succ
  simp only[aL_.l0]
  exact Ev.neg (by omega) (Ev.const rfl)
 ·intro p x t a hp ha hb
  obtain⟨s,hs⟩:=markText_eq a ha (by omega)
  obtain⟨s2,hs2⟩:=markText_eq (a+1+1+1) (by omega) (by omega)
  refine⟨⟨s,a+1,a+1+1,s2⟩,a+4,by omega,by omega,?_,?_⟩
  ·intro r h
   have hm:=bc_ (l:=p++x::t) rfl
   have e4:a+1+1+1+1=a+4:=by omega
   apply Ev.succ
   simp only[br_.l0]
   rw[w64 (i:=(p.length:Int)+1) (by omega) (by omega),w64 (i:=a+1) (by omega) (by omega),w64 (i:=a+1+1) (by omega) (by omega),w64 (i:=a+1+1+1) (by omega) (by omega),w64 (i:=a+1+1+1+1) (by omega) (by omega)]
   refine Ev.pos hm.1 (Ev.bind' _ hs (Ev.pos (by omega) (Ev.cbind _ rfl (Ev.cbind _ rfl (Ev.cbind _ rfl (Ev.bind' _ hs2 ?_))))))
   simp only[a_,set_mid,List.append_assoc,List.cons_append,List.nil_append,bt_ rfl]
   rw[e4]
   exact h
  ·intro q r hq h
   have hm:=bc_ (l:=p++(⟨s,a+1,a+1+1,s2⟩:aa_)::q) rfl
   have e4:a+1+1+1+1=a+4:=by omega
   apply Ev.succ
   simp only[aL_.l0,a_,bt_ rfl]
   rw[w64 (i:=(p.length:Int)+1) (by omega) (by omega),w64 (i:=a+1) (by omega) (by omega),w64 (i:=a+1+1) (by omega) (by omega),w64 (i:=a+1+1+1) (by omega) (by omega),w64 (i:=a+1+1+1+1) (by omega) (by omega),e4]
   exact Ev.pos hm.1 (Ev.pos (by omega) (Ev.bind' _ hs (Ev.pos (by trivial) (Ev.pos (by trivial) (Ev.pos (by trivial) (Ev.bind' _ hs2 (Ev.pos (by trivial) h)))))))
theorem am_.idx (l0:List (ah_)) (a1_0:Int) (q:(ah_)→Bool) (hl:l0.length≤1048576) (h:∀x∈l0,Ev (fun k=>impl_diffsFrom_1.f (x.f0) (x.f1) (x.f2) (x.f3) a1_0) (q x)):Ev (fun k=>am_.f k l0 a1_0) (idxP q l0):=by
 unfold am_.f
 refine Ev.eq_ (a4_ l0 (fun k (_:Nat) i=>am_.l0 k l0 (l0.length:Int) i a1_0) (fun n t=>if 0≤idxP q t then(n:Int)+idxP q t else -1) (fun p n=>n=p.length) ?_ ?_ 0 rfl) ?_
 ·intro n hn
  apply Ev.succ
  simp only[am_.l0]
  exact Ev.neg (by omega) (Ev.const (by simp[idxP]))
 ·intro p x t n e hn ih
  have hm:=bc_ e
  have hx:=h x (b5_ e)
  apply Ev.succ
  simp only[am_.l0,ad_,bt_ e]
  refine Ev.pos hm.1 (Ev.pos (by omega) (Ev.pos hm.1 (Ev.bind' _ hx ?_)))
  have hq:idxP q (x::t)=(if q x then 0 else if 0≤idxP q t then idxP q t+1 else -1):=rfl
  rw[hq]
  cases q x with
  | true=>exact Ev.aK_ (Ev.const (by simp[hn]))
  | false =>
   refine Ev.aG_ ?_
   rw[w64 (by omega) (by omega)]
   refine Ev.eq_ (ih (n+1) (by simp[hn])) ?_
   by_cases h2:0≤idxP q t
   ·simp[h2];omega
   ·simp[h2]
 ·by_cases h2:0≤idxP q l0
  ·simp[h2]
  ·rw[if_neg h2]
   exact(idxP_neg q l0 h2).symm
section
def dOk (d:ah_):Prop:=(d.f2.length≤1048576∧∀r∈d.f2,szR r)∧(d.f3.length≤1048576∧∀r∈d.f3,szR r)
def cDf (x:ca_):ah_:=⟨x.f0,x.f1,x.f2.map cRec,x.f3.map cRec⟩
def chainD:Int→List ah_→Bool
 | _,[]=>true
 | c,d::t=>goodD d.f0 d.f1 d.f2 d.f3&&decide (d.f0=c) && !decide (d.f1≤c)&&chainD d.f1 t
theorem implChain_eq (l:List ah_) (hl:l.length≤1048576) (hs:∀d∈l,dOk d) (c:Int):Ev (fun k=>aZ_.l0 k c l (l.length:Int) 0) (chainD c l):=by
 refine a4_ l (fun k (c:Int) i=>aZ_.l0 k c l (l.length:Int) i) (fun c t=>chainD c t) (fun _ _=>True) ?_ ?_ c trivial
 ·intro c _
  apply Ev.succ
  simp only[aZ_.l0]
  exact Ev.neg (by omega) (Ev.const rfl)
 ·intro p x t c e _ ih
  have hm:=bc_ e
  obtain⟨⟨d1,d2⟩,d3,d4⟩:=hs x (b5_ e)
  apply Ev.succ
  simp only[aZ_.l0,ad_,bt_ e]
  rw[w64 (i:=(p.length:Int)+1) (by omega) (by omega)]
  refine Ev.pos hm.1 (Ev.pos (by omega) (Ev.pos hm.1 (Ev.bind' _ (implGoodDiff_eq x.f0 x.f1 x.f2 x.f3 d1 d3 d2 d4) ?_)))
  cases hg:goodD x.f0 x.f1 x.f2 x.f3 with
  | false=>exact Ev.aG_ (Ev.const (by simp[chainD,hg]))
  | true =>
   refine Ev.aK_ ?_
   by_cases h1:x.f0=c
   ·refine Ev.pos h1 ?_
    by_cases h2:x.f1≤c
    ·exact Ev.pos h2 (Ev.const (by simp[chainD,h2]))
    ·exact Ev.neg h2 (Ev.eq_ (ih x.f1 trivial) (by show _=(goodD x.f0 x.f1 x.f2 x.f3&&decide (x.f0=c) && !decide (x.f1≤c)&&chainD x.f1 t);rw[hg];simp[h1,h2]))
   ·exact Ev.neg h1 (Ev.const (by simp[chainD,h1]))
theorem specChain_eq (l:List ah_) (hl:l.length≤1048576) (hs:∀d∈l,dOk d) (c:Int):Ev (fun k=>aW_.l0 k c l (l.length:Int) 0) (chainD c l):=by
 refine a4_ l (fun k (c:Int) i=>aW_.l0 k c l (l.length:Int) i) (fun c t=>chainD c t) (fun _ _=>True) ?_ ?_ c trivial
 ·intro c _
  apply Ev.succ
  simp only[aW_.l0]
  exact Ev.neg (by omega) (Ev.const rfl)
 ·intro p x t c e _ ih
  have hm:=bc_ e
  obtain⟨⟨d1,d2⟩,d3,d4⟩:=hs x (b5_ e)
  apply Ev.succ
  simp only[aW_.l0,ad_,bt_ e]
  rw[w64 (i:=(p.length:Int)+1) (by omega) (by omega)]
  refine Ev.pos hm.1 (Ev.pos (by omega) (Ev.pos hm.1 (Ev.bind' _ (specGoodDiff_eq x.f0 x.f1 x.f2 x.f3 d1 d3 d2 d4) ?_)))
  cases hg:goodD x.f0 x.f1 x.f2 x.f3 with
  | false=>exact Ev.aG_ (Ev.const (by simp[chainD,hg]))
  | true =>
   refine Ev.aK_ ?_
   by_cases h1:x.f0=c
   ·refine Ev.pos h1 ?_
    by_cases h2:x.f1≤x.f0
    ·exact Ev.pos h2 (Ev.const (by rw[h1] at h2;simp[chainD,h2]))
    ·exact Ev.neg h2 (Ev.eq_ (ih x.f1 trivial) (by rw[h1] at h2;show _=(goodD x.f0 x.f1 x.f2 x.f3&&decide (x.f0=c) && !decide (x.f1≤c)&&chainD x.f1 t);rw[hg];simp[h1,h2]))
   ·exact Ev.neg h1 (Ev.const (by simp[chainD,h1]))
def jOk (c:Int) (l:List ah_):Bool:=cntOk c&&decide (l.length≤12)&&chainD c l
section
variable (a:ByteArray) (ha:a.size≤1048576) (l:List ah_) (hl:l.length≤1048576) (hs:∀d∈l,dOk d) (c:Int)
include ha hl hs
theorem implJournal_eq:Ev (fun k=>aZ_.f k a c l) (nameOk a&&jOk c l):=by
 have bad:(nameOk a&&jOk c l)=false→Ev (fun k=>aZ_.j0 k true a c l) (nameOk a&&jOk c l):=by
  intro h
  apply Ev.succ
  simp only[aZ_.j0]
  exact Ev.pos (by first|rfl|trivial) (Ev.const (by rw[h]))
 unfold aZ_.f
 refine Ev.bind' _ (implGoodName_eq a ha) ?_
 cases hn:nameOk a with
 | false=>exact Ev.aG_ (Ev.eq_ (bad (by simp[hn])) (by simp[hn]))
 | true =>
  refine Ev.aK_ (Ev.cbind _ (isCounter_eq c) ?_)
  cases hc:cntOk c with
  | false=>exact Ev.aG_ (Ev.eq_ (bad (by simp[jOk,hc])) (by simp[hn]))
  | true =>
   refine Ev.aK_ ?_
   by_cases h12:l.length≤12
   ·rw[decide_eq_false (show ¬(l.length:Int) > 12 by omega)]
    apply Ev.succ
    simp only[aZ_.j0]
    exact Ev.neg (by simp) (Ev.eq_ (implChain_eq l hl hs c) (by simp[jOk,hc,h12]))
   ·rw[decide_eq_true (show(l.length:Int) > 12 by omega)]
    exact Ev.eq_ (bad (by simp[jOk,h12])) (by simp[hn])
theorem specJournal_eq:Ev (fun k=>aW_.f k a c l) (apexOk a&&jOk c l):=by
 have bad:(apexOk a&&jOk c l)=false→Ev (fun k=>aW_.j0 k true a c l) (apexOk a&&jOk c l):=by
  intro h
  apply Ev.succ
  simp only[aW_.j0]
  exact Ev.pos (by first|rfl|trivial) (Ev.const (by rw[h]))
 unfold aW_.f
 refine Ev.bind' _ (specApex_eq a ha) ?_
 cases hn:apexOk a with
 | false=>exact Ev.aG_ (Ev.eq_ (bad (by simp[hn])) (by simp[hn]))
 | true =>
  refine Ev.aK_ (Ev.cbind _ (counter_eq c) ?_)
  cases hc:cntOk c with
  | false=>exact Ev.aG_ (Ev.eq_ (bad (by simp[jOk,hc])) (by simp[hn]))
  | true =>
   refine Ev.aK_ ?_
   by_cases h12:l.length≤12
   ·rw[decide_eq_false (show ¬(l.length:Int) > 12 by omega)]
    apply Ev.succ
    simp only[aW_.j0]
    exact Ev.neg (by simp) (Ev.eq_ (specChain_eq l hl hs c) (by simp[jOk,hc,h12]))
   ·rw[decide_eq_true (show(l.length:Int) > 12 by omega)]
    exact Ev.eq_ (bad (by simp[jOk,h12])) (by simp[hn])
end
theorem cloneD_eq (l:List aa_) (h:l.length≤1048576):aH_.f l=some l:=by
 unfold aH_.f
 show(if ([]:List aa_).length+l.length<2932031007402 then some ([]++l) else none)=some l
 rw[if_pos (by simp;omega),List.nil_append]
theorem ownDiff_eq (d:ah_) (h:dOk d):cj_.f d.f0 d.f1 d.f2 d.f3=some (d.f0,d.f1,d.f2,d.f3):=by
 unfold cj_.f
 rw[cloneD_eq _ h.1.1]
 show(aH_.f d.f3).bind _=_
 rw[cloneD_eq _ h.2.1]
 rfl
theorem l9Own_eq (d:ah_) (h:dOk d):spec_l9Own.f d.f0 d.f1 d.f2 d.f3=some (d.f0,d.f1,d.f2,d.f3):=by
 have h1:=h.1.1
 have h2:=h.2.1
 unfold spec_l9Own.f
 show(if ([]:List aa_).length+d.f2.length<2932031007402 then(some ([]:List aa_)).bind (fun y=>if y.length+d.f3.length<2932031007402 then some (d.f0,d.f1,([]++d.f2),(y++d.f3)) else none) else none)=_
 rw[if_pos (by simp;omega)]
 show(if ([]:List aa_).length+d.f3.length<2932031007402 then some (d.f0,d.f1,([]++d.f2),([]++d.f3)) else none)=_
 rw[if_pos (by simp;omega),List.nil_append,List.nil_append]
theorem ownDiffs_eq (l:List ah_) (hl:l.length≤1048576) (hs:∀d∈l,dOk d):Ev (fun k=>bD_.f k l) l:=by
 unfold bD_.f
 refine Ev.eq_ (a4_ l (fun k (s:List ah_) i=>bD_.l0 k s l (l.length:Int) i) (fun s t=>s++t) (fun p s=>s=p) ?_ ?_ [] rfl) rfl
 ·intro s _
  apply Ev.succ
  simp only[bD_.l0]
  exact Ev.neg (by omega) (Ev.const (by simp))
 ·intro p x t s e hp ih
  subst hp
  have hm:=bc_ e
  apply Ev.succ
  simp only[bD_.l0,ad_,bt_ e]
  rw[w64 (i:=(s.length:Int)+1) (by omega) (by omega)]
  refine Ev.pos hm.1 (Ev.pos (by omega) (Ev.pos hm.1 (Ev.cbind _ (ownDiff_eq x (hs x (b5_ e))) (Ev.pos (by omega) ?_))))
  exact Ev.eq_ (ih (s++[x]) rfl) (by simp)
theorem l9Diffs_eq (l:List ah_) (hl:l.length≤1048576) (hs:∀d∈l,dOk d):Ev (fun k=>bU_.f k l) l:=by
 unfold bU_.f
 refine Ev.eq_ (a4_ l (fun k (s:List ah_) i=>bU_.l0 k s l (l.length:Int) i) (fun s t=>s++t) (fun p s=>s=p) ?_ ?_ [] rfl) rfl
 ·intro s _
  apply Ev.succ
  simp only[bU_.l0]
  exact Ev.neg (by omega) (Ev.const (by simp))
 ·intro p x t s e hp ih
  subst hp
  have hm:=bc_ e
  apply Ev.succ
  simp only[bU_.l0,ad_,bt_ e]
  rw[w64 (i:=(s.length:Int)+1) (by omega) (by omega)]
  refine Ev.pos hm.1 (Ev.pos (by omega) (Ev.pos hm.1 (Ev.cbind _ (l9Own_eq x (hs x (b5_ e))) (Ev.pos (by omega) ?_))))
  exact Ev.eq_ (ih (s++[x]) rfl) (by simp)
def afterD (c:Int):List ah_→List ah_ × Bool
 | []=>([],false)
 | d::t=>if d.f1=c then(t,true) else afterD c t
def fromD (f:Int) (l:List ah_) (c:Int):List ah_ × Bool:=if c=f then(l,true) else afterD c l
theorem afterD_sub (c:Int):∀(l:List ah_),∀d∈(afterD c l).1,d∈l
 | [],d,h=>by simp[afterD] at h
 | x::t,d,h=>by
  unfold afterD at h
  split at h
  ·exact List.mem_cons_of_mem _ h
  ·exact List.mem_cons_of_mem _ (afterD_sub c t d h)
theorem afterD_len (c:Int):∀(l:List ah_),(afterD c l).1.length≤l.length
 | []=>by simp[afterD]
 | x::t=>by
  unfold afterD
  split
  ·simp
  ·have:=afterD_len c t
   simp only[List.length_cons]
   omega
theorem afterD_idx (c:Int):∀(l:List ah_),afterD c l=if 0≤idxP (fun d=>d.f1==c) l then(l.drop (idxP (fun d=>d.f1==c) l+1).toNat,true) else([],false)
 | []=>by simp[afterD,idxP]
 | x::t=>by
  have ih:=afterD_idx c t
  have hq:idxP (fun d:ah_=>d.f1==c) (x::t)=(if (x.f1==c)=true then 0 else if 0≤idxP (fun d:ah_=>d.f1==c) t then idxP (fun d:ah_=>d.f1==c) t+1 else -1):=rfl
  rw[hq]
  unfold afterD
  by_cases h:x.f1=c
  ·simp[h]
  ·rw[if_neg h,ih,if_neg (show ¬(x.f1==c)=true by simpa using h)]
   by_cases h0:0≤idxP (fun d:ah_=>d.f1==c) t
   ·rw[if_pos h0,if_pos h0,if_pos (by omega)]
    rw[show(idxP (fun d:ah_=>d.f1==c) t+1+1).toNat=(idxP (fun d:ah_=>d.f1==c) t+1).toNat+1 by omega]
    simp
   ·rw[if_neg h0,if_neg h0,if_neg (by omega)]
theorem idxD_lt (q:ah_→Bool):∀(l:List ah_),idxP q l<(l.length:Int)
 | []=>by simp[idxP]
 | x::t=>by
  have ih:=idxD_lt q t
  have hq:idxP q (x::t)=(if q x then 0 else if 0≤idxP q t then idxP q t+1 else -1):=rfl
  rw[hq]
  simp only[List.length_cons]
  split
  ·omega
  ·split<;>omega
theorem implFrom_eq (a:ByteArray) (f:Int) (l:List ah_) (hl:l.length≤1048576) (hs:∀d∈l,dOk d) (c:Int):Ev (fun k=>impl_diffsFrom.f k a f l c) (fromD f l c):=by
 unfold impl_diffsFrom.f fromD
 by_cases h:c=f
 ·rw[if_pos h]
  exact Ev.pos h (Ev.bind' _ (ownDiffs_eq l hl hs) (Ev.const rfl))
 ·rw[if_neg h]
  refine Ev.neg h (Ev.bind' _ (am_.idx l c (fun d=>d.f1==c) hl (fun x _=>?_)) ?_)
  ·exact Ev.const rfl
  ·rw[afterD_idx]
   have hlt:=idxD_lt (fun d:ah_=>d.f1==c) l
   by_cases h0:0≤idxP (fun d:ah_=>d.f1==c) l
   ·rw[if_pos h0,w64 (by omega) (by omega)]
    refine Ev.neg (by omega) (Ev.pos (by omega) (Ev.pos (by omega) (Ev.bind' _ (ownDiffs_eq _ (by rw[List.length_drop];omega) (fun d hd=>hs d (List.mem_of_mem_drop hd))) (Ev.const rfl))))
   ·rw[if_neg h0]
    exact Ev.pos (by omega) (Ev.const rfl)
theorem specAfter_eq (a:ByteArray) (f:Int) (l:List ah_) (hl:l.length≤1048576) (hs:∀d∈l,dOk d) (c:Int):Ev (fun k=>bX_.l0 k c l (l.length:Int) 0 a f l) (afterD c l):=by
 refine Ev.eq_ (a4_ l (fun k (_:Unit) i=>bX_.l0 k c l (l.length:Int) i a f l) (fun _ t=>afterD c t) (fun _ _=>True) ?_ ?_ () trivial) rfl
 ·intro _ _
  apply Ev.succ
  simp only[bX_.l0]
  exact Ev.neg (by omega) (Ev.const rfl)
 ·intro p x t _ e _ ih
  have hm:=bc_ e
  apply Ev.succ
  simp only[bX_.l0,ad_,bt_ e]
  rw[w64 (i:=(p.length:Int)+1) (by omega) (by omega)]
  refine Ev.pos hm.1 (Ev.pos (by omega) (Ev.pos hm.1 ?_))
  unfold afterD
  by_cases h:x.f1=c
  ·rw[if_pos h]
   have hd:l.drop ((p.length:Int)+1).toNat=t:=by
    rw[show((p.length:Int)+1).toNat=p.length+1 by omega,e,show p++x::t=(p++[x])++t by simp,List.drop_append_of_le_length (by simp)]
    simp
   rw[hd]
   have ht:∀d∈t,dOk d:=fun d h'=>hs d (by rw[e];simp[h'])
   exact Ev.pos h (Ev.pos (by omega) (Ev.pos (by omega) (Ev.bind' _ (l9Diffs_eq t (by omega) ht) (Ev.const rfl))))
  ·rw[if_neg h]
   exact Ev.neg h (ih () trivial)
theorem specFrom_eq (a:ByteArray) (ha:a.size≤1048576) (f:Int) (l:List ah_) (hl:l.length≤1048576) (hs:∀d∈l,dOk d) (c:Int) :
  Ev (fun k=>bX_.f k a f l c) (if (apexOk a&&jOk f l)=true then fromD f l c else([],false)):=by
 unfold bX_.f
 refine Ev.bind' _ (specJournal_eq a ha l hl hs f) ?_
 cases hj:(apexOk a&&jOk f l) with
 | false=>exact Ev.aG_ (Ev.const (by simp))
 | true =>
  rw[if_pos rfl]
  refine Ev.aK_ ?_
  unfold fromD
  by_cases h:c=f
  ·rw[if_pos h]
   exact Ev.pos h (Ev.bind' _ (l9Diffs_eq l hl hs) (Ev.const rfl))
  ·rw[if_neg h]
   exact Ev.neg h (specAfter_eq a f l hl hs c)
theorem szDiffS_eq (l:List ca_) (h:l.length≤maxLen∧∀x∈l,WF_LDiff x) (a:Int) (h0:0≤a) (h1:a≤1048576) :
  Szd (fun k=>b8_.f k l a) a (l.length≤1048576∧∀x∈l,(x.f2.length≤1048576∧∀y∈x.f2,y.f0.size≤1048576∧y.f3.size≤1048576)∧(x.f3.length≤1048576∧∀y∈x.f3,y.f0.size≤1048576∧y.f3.size≤1048576)):=by
 have hm:maxLen=9223372036854775807:=rfl
 unfold b8_.f
 by_cases hl:l.length≤1048576
 ·refine Szd.size _ (by omega) h0 h1 (fun a' e ha hb=>?_)
  rw[e]
  refine Szd.list l hl (fun k a i=>b8_.l0 k l a i) (fun x=>(x.f2.length≤1048576∧∀y∈x.f2,y.f0.size≤1048576∧y.f3.size≤1048576)∧(x.f3.length≤1048576∧∀y∈x.f3,y.f0.size≤1048576∧y.f3.size≤1048576)) ?_ ?_ a' ha hb
  ·intro a ha hb
   refine⟨a,Ev.succ ?_,Or.inr ⟨ha,Int.le_refl _,trivial⟩⟩
   simp only[b8_.l0]
   exact Ev.neg (by omega) (Ev.const rfl)
  ·intro p x t a e ha hb _ C hC
   have hm2:=bc_ e
   obtain⟨_,_,w2,w3⟩:=h.2 x (b5_ e)
   obtain⟨r,hr,hh⟩:=Szd.bind (g:=fun k t=>b8_.l0 k l t ((p.length:Int)+1)) (szDiff_eq x.f0 x.f1 x.f2 x.f3 w2 w3 a ha hb) hb (fun r h3 h4=>hC r h3 h4)
   refine⟨r,Ev.succ ?_,hh⟩
   simp only[b8_.l0,bF_,bt_ e]
   rw[w64 (i:=(p.length:Int)+1) (by omega) (by omega)]
   exact Ev.pos hm2.1 (Ev.pos (by omega) hr)
 ·have:=h.1
  refine⟨-1,Ev.pos ?_ (Ev.const rfl),Or.inl (by omega)⟩
  rw[w64 (by omega) (by omega)]
  omega
theorem szJournal_eq (a:ByteArray) (c:Int) (l:List ca_) (ha:a.size≤maxLen) (h:l.length≤maxLen∧∀x∈l,WF_LDiff x) (n:Int) (h0:0≤n) (h1:n≤1048576) :
  Szd (fun k=>laws_szJournal.f k a c l n) n (a.size≤1048576∧l.length≤1048576∧∀d∈l.map cDf,dOk d):=by
 unfold laws_szJournal.f
 have hm:a.size≤9223372036854775807:=ha
 refine Szd.mono (B:=a.size≤1048576∧(l.length≤1048576∧∀x∈l,(x.f2.length≤1048576∧∀y∈x.f2,y.f0.size≤1048576∧y.f3.size≤1048576)∧(x.f3.length≤1048576∧∀y∈x.f3,y.f0.size≤1048576∧y.f3.size≤1048576))) (Szd.size a.size hm h0 h1 (fun r hr h2 h3=>?_)) ?_
 ·rw[hr]
  exact(Szd.bind (szDiffS_eq l h r h2 h3) h3 (fun q h4 h5=>Szd.end_ h4)).mono (fun h=>h.1)
 ·rintro⟨h2,h3,h4⟩
  refine⟨h2,h3,fun d hd=>?_⟩
  obtain⟨x,hx,rfl⟩:=List.mem_map.mp hd
  obtain⟨⟨x1,x2⟩,x3,x4⟩:=h4 x hx
  exact⟨⟨by simpa[cDf] using x1,szR_map x2⟩,by simpa[cDf] using x3,szR_map x4⟩
theorem toJournal_eq (a:ByteArray) (c:Int) (l:List ca_) (hl:l.length≤1048576) (hs:∀d∈l.map cDf,dOk d):Ev (fun k=>cm_.f k a c l) (a,c,l.map cDf):=by
 unfold cm_.f c_.f
 refine Ev.bind' _ (Ev.pos (by omega) (Ev.pos (by omega) ?_)) (Ev.const rfl)
 refine to_list l cDf (fun k s i=>c_.l0 k l s i) ?_ ?_ _ (by simp)
 ·intro s
  apply Ev.succ
  simp only[c_.l0]
  exact Ev.neg (by omega) (Ev.const rfl)
 ·intro p x t s r e hp hr
  have hm:=bc_ e
  have hx:=hs (cDf x) (List.mem_map_of_mem (b5_ e))
  apply Ev.succ
  simp only[c_.l0,bF_,bt_ e]
  rw[w64 (i:=(p.length:Int)+1) (by omega) (by omega)]
  exact Ev.pos hm.1 (Ev.pos (by omega) (Ev.bind' _ (toDiff_eq x.f0 x.f1 x.f2 x.f3 (by simpa[cDf] using hx.1.1) (by simpa[cDf] using hx.2.1)) (Ev.pos (by omega) hr)))
theorem eqJournal_eq (a:ByteArray) (c:Int) (l:List ah_) (hl:l.length≤1048576) (hs:∀d∈l,dOk d):Ev (fun k=>laws_eqJournal.f k a c l a c l) true:=by
 unfold laws_eqJournal.f bA_.f
 refine Ev.pos rfl (Ev.pos rfl (Ev.bind' _ (Ev.pos rfl ?_) (Ev.aK_ (Ev.const rfl))))
 refine eq_list l (fun k i=>bA_.l0 k l l i) ?_ ?_
 ·apply Ev.succ
  simp only[bA_.l0]
  exact Ev.neg (by omega) (Ev.const rfl)
 ·intro p x t e ih
  have hm:=bc_ e
  obtain⟨⟨d1,_⟩,d3,_⟩:=hs x (b5_ e)
  apply Ev.succ
  simp only[bA_.l0,ad_,bt_ e]
  rw[w64 (i:=(p.length:Int)+1) (by omega) (by omega)]
  exact Ev.pos hm.1 (Ev.pos (by omega) (Ev.pos hm.1 (Ev.bind' _ (eqDiff_eq x.f0 x.f1 x.f2 x.f3 d1 d3) (Ev.aK_ ih))))
theorem markDiffS_eq:∀(t p:List ah_) (a:Int),(p++t).length≤1048576→(∀d∈t,dOk d)→0≤a→a+8388610 * t.length≤1152921504606846976→∃r q,Ev (fun k=>aT_.l0 k (p++t) a (p.length:Int)) (r,q)∧a≤r
 | [],p,a,_,_,_,_=>by
  refine⟨a,p,?_,Int.le_refl _⟩
  apply Ev.succ
  simp only[aT_.l0,List.append_nil]
  exact Ev.neg (by omega) (Ev.const rfl)
 | x::t,p,a,hp,hs,h0,h1=>by
  have hm:=bc_ (l:=p++x::t) rfl
  obtain⟨⟨d1,_⟩,d3,_⟩:=hs x (by simp)
  simp only[List.length_cons,List.length_append] at hp h1
  obtain⟨r1,l1,x1,_,_,x4,x5⟩:=markRecordS_eq x.f2 d1 (a+1+1) (by omega) (by omega)
  obtain⟨r2,l2,y1,_,_,y4,y5⟩:=markRecordS_eq x.f3 d3 r1 (by omega) (by omega)
  obtain⟨r,q,e1,e2⟩:=markDiffS_eq t (p++[⟨a,a+1,l1,l2⟩]) r2 (by simp only[List.length_append,List.length_cons,List.length_nil];omega) (fun d hd=>hs d (by simp[hd])) (by omega) (by omega)
  refine⟨r,q,?_,by omega⟩
  apply Ev.succ
  simp only[aT_.l0]
  rw[w64 (i:=(p.length:Int)+1) (by omega) (by omega),w64 (i:=a+1) (by omega) (by omega),w64 (i:=a+1+1) (by omega) (by omega)]
  simp only[ad_,bt_ rfl,set_mid]
  refine Ev.pos hm.1 (Ev.pos (by omega) (Ev.bind' _ x1 (Ev.bind' _ y1 ?_)))
  simpa using e1
theorem markJournal_eq (n:ByteArray) (c:Int) (l:List ah_) (hl:l.length≤1048576) (hs:∀d∈l,dOk d) (a:Int) (h0:0≤a) (h1:a≤4294967296):∃r q,Ev (fun k=>laws_markJournal.f k n c l a) (r,q)∧a≤r:=by
 obtain⟨r,q,e1,e2⟩:=markDiffS_eq l [] a (by simpa using hl) hs h0 (by omega)
 refine⟨r,q,?_,e2⟩
 unfold laws_markJournal.f aT_.f
 exact Ev.bind' _ (by simpa using e1) (Ev.const rfl)
end
section
def CBAD:ByteArray × Int × List aa_ × Int × Bool:=((⟨#[]⟩:ByteArray),0,[],0,false)
noncomputable def catchD (n:Int):List ah_→ByteArray→Int→List aa_→ByteArray × Int × List aa_ × Int × Bool
 | [],a,c,l=>(a,c,l,n,true)
 | d::t,a,c,l=>if (applyZ a c l d.f0 d.f1 d.f2 d.f3).2.2.2=true then catchD n t (applyZ a c l d.f0 d.f1 d.f2 d.f3).1 (applyZ a c l d.f0 d.f1 d.f2 d.f3).2.1 (applyZ a c l d.f0 d.f1 d.f2 d.f3).2.2.1 else CBAD
def zSz (z:ByteArray × Int × List aa_):Prop:=z.1.size≤1048576∧z.2.2.length≤1048576∧∀r∈z.2.2,szR r
theorem applyZ_sz {a:ByteArray} {c:Int} {l:List aa_} {d:ah_} (hz:zSz (a,c,l)) (hd:dOk d) (h:(applyZ a c l d.f0 d.f1 d.f2 d.f3).2.2.2=true) :
  zSz ((applyZ a c l d.f0 d.f1 d.f2 d.f3).1,(applyZ a c l d.f0 d.f1 d.f2 d.f3).2.1,(applyZ a c l d.f0 d.f1 d.f2 d.f3).2.2.1):=by
 obtain⟨z1,z2,z3⟩:=hz
 obtain⟨⟨d1,d2⟩,d3,d4⟩:=hd
 unfold applyZ at h ⊢
 by_cases h1:applyOk a c l d.f0 d.f1 d.f2 d.f3
 ·rw[if_pos h1] at h ⊢
  obtain⟨o1,o2,_⟩:=apply_out a c l d.f0 d.f1 d.f2 d.f3 z2 d3 z3 d2 d4 h1
  by_cases h2:zoneOk a d.f1 (bothR (lessR l d.f2) d.f3)=true
  ·rw[if_pos h2]
   exact⟨z1,by show(bothR (lessR l d.f2) d.f3).length≤1048576;omega,fun r hr=>(o2.2 r hr).2⟩
  ·rw[if_neg h2] at h
   exact absurd h (by simp[ZBAD])
 ·rw[if_neg h1] at h
  exact absurd h (by simp[ZBAD])
theorem implCatch_loop (L:List ah_) (hL:L.length≤1048576) (hs:∀d∈L,dOk d) (a:ByteArray) (c:Int) (l:List aa_) (hz:zSz (a,c,l)) :
  Ev (fun k=>bi_.l0 k L L (L.length:Int) 0 a c l) (catchD L.length L a c l):=by
 refine Ev.eq_ (a4_ L (fun k (z:ByteArray × Int × List aa_) i=>bi_.l0 k L L (L.length:Int) i z.1 z.2.1 z.2.2) (fun z t=>catchD L.length t z.1 z.2.1 z.2.2) (fun _ z=>zSz z) ?_ ?_ (a,c,l) hz) rfl
 ·intro z _
  apply Ev.succ
  simp only[bi_.l0]
  exact Ev.neg (by omega) (Ev.const rfl)
 ·intro p x t z e hz ih
  have hm:=bc_ e
  have hx:=hs x (b5_ e)
  apply Ev.succ
  simp only[bi_.l0,ad_,bt_ e]
  rw[w64 (i:=(p.length:Int)+1) (by omega) (by omega)]
  refine Ev.pos hm.1 (Ev.pos (by omega) (Ev.pos hm.1 (Ev.bind' _ (implApply_eq z.1 z.2.1 z.2.2 x.f0 x.f1 x.f2 x.f3 hz.1 hz.2.1 hx.1.1 hx.2.1 hz.2.2 hx.1.2 hx.2.2) ?_)))
  unfold catchD
  by_cases h:(applyZ z.1 z.2.1 z.2.2 x.f0 x.f1 x.f2 x.f3).2.2.2=true
  ·rw[if_pos h]
   exact Ev.pos h (ih (_,_,_) (applyZ_sz hz hx h))
  ·rw[if_neg h]
   exact Ev.neg h (Ev.const rfl)
theorem specCatch_loop (L:List ah_) (hL:L.length≤1048576) (hs:∀d∈L,dOk d) (a:ByteArray) (c:Int) (l:List aa_) (hz:zSz (a,c,l)) :
  Ev (fun k=>bl_.l0 k L L (L.length:Int) 0 a c l) (catchD L.length L a c l):=by
 refine Ev.eq_ (a4_ L (fun k (z:ByteArray × Int × List aa_) i=>bl_.l0 k L L (L.length:Int) i z.1 z.2.1 z.2.2) (fun z t=>catchD L.length t z.1 z.2.1 z.2.2) (fun _ z=>zSz z) ?_ ?_ (a,c,l) hz) rfl
 ·intro z _
  apply Ev.succ
  simp only[bl_.l0]
  exact Ev.neg (by omega) (Ev.const rfl)
 ·intro p x t z e hz ih
  have hm:=bc_ e
  have hx:=hs x (b5_ e)
  apply Ev.succ
  simp only[bl_.l0,ad_,bt_ e]
  rw[w64 (i:=(p.length:Int)+1) (by omega) (by omega)]
  refine Ev.pos hm.1 (Ev.pos (by omega) (Ev.pos hm.1 (Ev.bind' _ (specApply_eq z.1 z.2.1 z.2.2 x.f0 x.f1 x.f2 x.f3 hz.1 hz.2.1 hx.1.1 hx.2.1 hz.2.2 hx.1.2 hx.2.2) ?_)))
  unfold catchD
  by_cases h:(applyZ z.1 z.2.1 z.2.2 x.f0 x.f1 x.f2 x.f3).2.2.2=true
  ·rw[if_pos h]
   exact Ev.pos h (ih (_,_,_) (applyZ_sz hz hx h))
  ·rw[if_neg h]
   exact Ev.neg h (Ev.const rfl)
theorem catchD_sz (n:Int):∀(t:List ah_),(∀d∈t,dOk d)→∀(a:ByteArray) (c:Int) (l:List aa_),zSz (a,c,l)→(catchD n t a c l).2.2.1.length≤1048576
 | [],_,a,c,l,hz=>hz.2.1
 | d::t,hs,a,c,l,hz=>by
  unfold catchD
  by_cases h:(applyZ a c l d.f0 d.f1 d.f2 d.f3).2.2.2=true
  ·rw[if_pos h]
   exact catchD_sz n t (fun x hx=>hs x (by simp[hx])) _ _ _ (applyZ_sz hz (hs d (by simp)) h)
  ·rw[if_neg h]
   exact Nat.zero_le _
def catchOk (a:ByteArray) (c:Int) (l:List aa_) (ja:ByteArray) (jc:Int) (jl:List ah_):Prop:=zoneOk a c l=true∧jOk jc jl=true∧a.toList=ja.toList∧(fromD jc jl c).2=true
open Classical in
noncomputable def catchZ (a:ByteArray) (c:Int) (l:List aa_) (ja:ByteArray) (jc:Int) (jl:List ah_):ByteArray × Int × List aa_ × Int × Bool :=
 if catchOk a c l ja jc jl then catchD (fromD jc jl c).1.length (fromD jc jl c).1 a c l else CBAD
theorem fromD_ok {f:Int} {l:List ah_} {c:Int} (hl:l.length≤1048576) (hs:∀d∈l,dOk d):(fromD f l c).1.length≤1048576∧∀d∈(fromD f l c).1,dOk d:=by
 unfold fromD
 split
 ·exact⟨hl,hs⟩
 ·exact⟨by have:=afterD_len c l;omega,fun d hd=>hs d (afterD_sub c l d hd)⟩
theorem cloneC_eq (l:List aa_) (h:l.length≤1048576) (a:ByteArray) (c:Int):impl_ownZone.f a c l=some (a,c,l):=by
 unfold impl_ownZone.f
 rw[cloneD_eq l h]
 rfl
theorem ownC_eq (l:List aa_) (h:l.length≤1048576) (a:ByteArray) (c:Int):spec_l6Own.f a c l=some (a,c,l):=by
 unfold spec_l6Own.f
 show(if ([]:List aa_).length+l.length<2932031007402 then some (a,c,([]++l)) else none)=_
 rw[if_pos (by simp;omega),List.nil_append]
theorem apex_same {a ja:ByteArray} {c:Int} {l:List aa_} (h1:zoneOk a c l=true) (h3:a.toList=ja.toList):apexOk ja=true∧nameOk ja=true:=by
 have e:a=ja:=by
  have h:a.data=ja.data:=by
   rw[ByteArray.toList_eq,ByteArray.toList_eq] at h3
   exact Array.toList_inj.mp h3
  cases a
  cases ja
  simpa using h
 subst e
 simp only[zoneOk,Bool.and_eq_true] at h1
 have h4:=h1.1.1.2.1.1
 exact⟨h4,apexOk_name h4⟩
section
variable (a:ByteArray) (c:Int) (l:List aa_) (ja:ByteArray) (jc:Int) (jl:List ah_) (hz:zSz (a,c,l)) (hja:ja.size≤1048576) (hjl:jl.length≤1048576) (hjs:∀d∈jl,dOk d)
include hz hja hjl hjs
theorem implCatch_eq:Ev (fun k=>bi_.f k a c l ja jc jl) (catchZ a c l ja jc jl):=by
 have bad:¬catchOk a c l ja jc jl→Ev (fun k=>bi_.j0 k true a c l ja jc jl) (catchZ a c l ja jc jl):=fun h=>by
  apply Ev.succ
  simp only[bi_.j0]
  exact Ev.pos (by first|rfl|trivial) (Ev.const (by rw[catchZ,if_neg h];rfl))
 unfold bi_.f
 refine Ev.bind' _ (implZone_eq a c l hz.1 hz.2.1 hz.2.2) ?_
 by_cases h1:zoneOk a c l=true
 ·refine Ev.pos h1 (Ev.bind' _ (implJournal_eq ja hja jl hjl hjs jc) ?_)
  by_cases h2:(nameOk ja&&jOk jc jl)=true
  ·refine Ev.pos h2 ?_
   simp only[Bool.and_eq_true] at h2
   by_cases h3:a.toList=ja.toList
   ·rw[show(a.toList != ja.toList)=false from by simp[h3]]
    apply Ev.succ
    simp only[bi_.j0]
    refine Ev.neg (by simp) (Ev.bind' _ (implFrom_eq ja jc jl hjl hjs c) ?_)
    by_cases h4:(fromD jc jl c).2=true
    ·refine Ev.pos h4 (Ev.cbind _ (cloneC_eq l hz.2.1 a c) ?_)
     rw[catchZ,if_pos ⟨h1,h2.2,h3,h4⟩]
     obtain⟨q1,q2⟩:=fromD_ok (f:=jc) (c:=c) hjl hjs
     exact implCatch_loop _ q1 q2 a c l hz
    ·exact Ev.neg h4 (Ev.const (by rw[catchZ,if_neg (fun h=>h4 h.2.2.2)];rfl))
   ·rw[show(a.toList != ja.toList)=true from by simp[h3]]
    exact bad (fun h=>h3 h.2.2.1)
  ·refine Ev.neg h2 (bad (fun h=>h2 ?_))
   rw[(apex_same h.1 h.2.2.1).2,h.2.1]
   rfl
 ·exact Ev.neg h1 (bad (fun h=>h1 h.1))
theorem specCatch_eq:Ev (fun k=>bl_.f k a c l ja jc jl) (catchZ a c l ja jc jl):=by
 have bad:∀L,¬catchOk a c l ja jc jl→Ev (fun k=>bl_.j0 k L true a c l) (catchZ a c l ja jc jl):=fun L h=>by
  apply Ev.succ
  simp only[bl_.j0]
  exact Ev.pos (by first|rfl|trivial) (Ev.const (by rw[catchZ,if_neg h];rfl))
 unfold bl_.f
 refine Ev.bind' _ (specFrom_eq ja hja jc jl hjl hjs c) (Ev.bind' _ (specZone_eq a c l hz.1 hz.2.1 hz.2.2) ?_)
 by_cases h1:zoneOk a c l=true
 ·refine Ev.pos h1 ?_
  by_cases h2:(apexOk ja&&jOk jc jl)=true
  ·rw[if_pos h2]
   simp only[Bool.and_eq_true] at h2
   by_cases h4:(fromD jc jl c).2=true
   ·refine Ev.pos h4 ?_
    by_cases h3:a.toList=ja.toList
    ·rw[show(a.toList != ja.toList)=false from by simp[h3]]
     apply Ev.succ
     simp only[bl_.j0]
     refine Ev.neg (by simp) (Ev.cbind _ (ownC_eq l hz.2.1 a c) ?_)
     rw[catchZ,if_pos ⟨h1,h2.2,h3,h4⟩]
     obtain⟨q1,q2⟩:=fromD_ok (f:=jc) (c:=c) hjl hjs
     exact specCatch_loop _ q1 q2 a c l hz
    ·rw[show(a.toList != ja.toList)=true from by simp[h3]]
     exact bad _ (fun h=>h3 h.2.2.1)
   ·exact Ev.neg h4 (bad _ (fun h=>h4 h.2.2.2))
  ·rw[if_neg h2]
   refine Ev.neg (by simp) (bad _ (fun h=>h2 ?_))
   rw[(apex_same h.1 h.2.2.1).1,h.2.1]
   rfl
 ·exact Ev.neg h1 (bad _ (fun h=>h1 h.1))
omit hja in
theorem catchZ_len:(catchZ a c l ja jc jl).2.2.1.length≤1048576:=by
 unfold catchZ
 split
 ·exact catchD_sz _ _ (fromD_ok (f:=jc) (c:=c) hjl hjs).2 a c l hz
 ·exact Nat.zero_le _
end
end
theorem markZone_eq (s:ByteArray) (c:Int) (l:List aa_) (hl:l.length≤1048576) (a:Int) (ha:0≤a) (hb:a≤1073741824):∃r l',Ev (fun k=>laws_markZone.f k s c l a) (r,l')∧Ev (fun k=>laws_heldZone.f k s c l' a) r∧a≤r∧r≤a+4 * l.length:=by
 obtain⟨r,l',x1,x2,x3,x4,x5⟩:=markRecordS_eq l hl a ha (by omega)
 refine⟨r,l',?_,?_,x4,x5⟩
 ·unfold laws_markZone.f
  exact Ev.bind' _ x1 (Ev.const rfl)
 ·unfold laws_heldZone.f
  exact Ev.bind' _ x2 (Ev.neg (by omega) (Ev.const rfl))
theorem szZone_eq (a:ByteArray) (c:Int) (l:List a5_) (ha:a.size≤maxLen) (hl:l.length≤maxLen∧∀x∈l,WF_LRecord x) (n:Int) (h0:0≤n) (h1:n≤1048576) :
  Szd (fun k=>laws_szZone.f k a c l n) n (a.size≤1048576∧l.length≤1048576∧∀x∈l,x.f0.size≤1048576∧x.f3.size≤1048576):=by
 unfold laws_szZone.f
 have hm:a.size≤9223372036854775807:=ha
 refine Szd.size a.size hm h0 h1 (fun r hr h2 h3=>?_)
 rw[hr]
 exact(Szd.bind (szRecordS_eq l hl r h2 h3) h3 (fun q h4 h5=>Szd.end_ h4)).mono (fun h=>h.1)
theorem toZone_eq (a:ByteArray) (c:Int) (l:List a5_) (hl:l.length≤1048576):Ev (fun k=>cU_.f k a c l) (a,c,l.map cRec):=by
 unfold cU_.f
 exact Ev.bind' _ (toRecordS_eq l hl) (Ev.const rfl)
theorem eqZone_eq (a:ByteArray) (c:Int) (l:List aa_) (hl:l.length≤1048576):Ev (fun k=>laws_eqZone.f k a c l a c l) true:=by
 unfold laws_eqZone.f
 exact Ev.pos rfl (Ev.pos rfl (Ev.bind' _ (eqRecordS_eq l hl) (Ev.aK_ (Ev.const rfl))))
theorem szR_map' {l:List a5_} (h:∀x∈l,x.f0.size≤1048576∧x.f3.size≤1048576):∀r∈l.map cRec,szR r:=by
 intro r hr
 obtain⟨x,hx,rfl⟩:=List.mem_map.mp hr
 exact h x hx
end Go.Proofs.YtenpejebbeoceaaGreatDoor.PL
end
section
set_option linter.unusedVariables false
set_option linter.unusedSimpArgs false
namespace Go.Proofs.YtenpejebbeoceaaGreatDoor.Pure
open Go.RowKit Go.Proofs.YtenpejebbeoceaaGreatDoor.Pp Go.Proofs.YtenpejebbeoceaaGreatDoor.PB Go.Proofs.YtenpejebbeoceaaGreatDoor.PL Go.Proofs.YtenpejebbeoceaaGreatDoorW.PrintWords Go.Proofs.YtenpejebbeoceaaGreatDoorW.PrintLast
theorem FnExactCatchUp:ab_.Pure:=by
 intro a c l ja jc jl ha _ hl hja _ hjl
 refine Ev.get (g:=fun k=>ab_.f k a c l ja jc jl) ?_
 unfold ab_.f
 obtain⟨t1,ht,hs⟩:=szZone_eq a c l ha hl 1048576 (by omega) (by omega)
 refine Ev.bind' _ ht ?_
 rcases hs with hs|⟨hs,hs',l0,l1,l2⟩
 ·exact Ev.pos hs (Ev.const rfl)
 ·obtain⟨t2,ht2,hs2⟩:=szJournal_eq ja jc jl hja hjl t1 hs hs'
  refine Ev.neg (by omega) (Ev.bind' _ ht2 ?_)
  rcases hs2 with hs2|⟨hs2,_,j0,j1,j2⟩
  ·exact Ev.pos hs2 (Ev.const rfl)
  ·have hz:=toZone_eq a c l l1
   have hj:=toJournal_eq ja jc jl j1 j2
   have g1:(l.map cRec).length≤1048576:=by simpa using l1
   have g2:(jl.map cDf).length≤1048576:=by simpa using j1
   have hzs:zSz (a,c,l.map cRec):=⟨l0,g1,szR_map' l2⟩
   have hsp:=specCatch_eq a c _ ja jc _ hzs j0 g2 j2
   have him:=implCatch_eq a c _ ja jc _ hzs j0 g2 j2
   have q1:=catchZ_len a c _ ja jc _ hzs g2 j2
   generalize catchZ a c (l.map cRec) ja jc (jl.map cDf)=R at hsp him q1
   have heq:=eqZone_eq R.1 R.2.1 R.2.2.1 q1
   have hea:=eqZone_eq a c _ g1
   have heb:=eqJournal_eq ja jc _ g2 j2
   obtain⟨r1,u1,a1,_,a2,a3⟩:=markZone_eq a c _ g1 1 (by omega) (by omega)
   obtain⟨r2,u2,b1,b2⟩:=markJournal_eq ja jc _ g2 j2 r1 (by omega) (by omega)
   obtain⟨r3,u3,c1,c2,c3,c4⟩:=markZone_eq R.1 R.2.1 R.2.2.1 q1 1 (by omega) (by omega)
   refine Ev.neg (by omega) (Ev.bind' _ hz (Ev.bind' _ hj (Ev.bind' _ hsp (Ev.bind' _ him (Ev.bind' _ heq (Ev.pos rfl (Ev.pos rfl (Ev.pos rfl (Ev.bind' _ hea (Ev.pos rfl (Ev.bind' _ heb (Ev.pos rfl (Ev.bind' _ a1 (Ev.bind' _ b1 ?_))))))))))))))
   refine Ev.neg (by show ¬r2<0;omega) (Ev.bind' _ c1 (Ev.bind' _ c2 ?_))
   exact Ev.neg (by show ¬r3<0;omega) (Ev.pos rfl (Ev.neg (by show ¬r3<0;omega) (Ev.const rfl)))
end Go.Proofs.YtenpejebbeoceaaGreatDoor.Pure
end
