/- Words of the kit's print,written by it for this seat;what this claim does not name is left out. -/
import Derived.Test.YthohohfmdieohaaGreatDoorVXWords
import Derived.Test.YthohohfmdieohaaGreatDoorVWMore
import Derived.Test.YthohohfmdieohaaGreatDoorVWTab
import Derived.Test.YthohohfmdieohaaGreatDoorVWShare
import Derived.Test.YthohohfmdieohaaGreatDoorVWKept
import Derived.Test.YthohohfmdieohaaGreatDoorZXGlob
import Derived.KernelRfl
set_option linter.unusedVariables false
namespace Go.Proofs.YthohohfmdieohaaGreatDoorW.PrintLast
open Go Go.RowKit Go.Proofs.YthohohfmdieohaaGreatDoorW.PrintWords Go.Proofs.YthohohfmdieohaaGreatDoorW.PrintMore
theorem TB {P:Prop} (h:P:=by repeat (first|(with_reducible first|exact HB.out|apply aE_|apply aw_|apply ah_|refine by_ ?_ (Aside0.out (by assumption)))|exact HB.out)):P:=h
theorem TK {P:Prop} (h:P:=by repeat (first|(with_reducible first|exact HK.out|apply Kept.alloc|apply Kept.drewN|apply Kept.drew)|exact HK.out)):P:=h
theorem TN {P:Prop} (h:P:=by repeat (first|exact Drawn0.refl _|apply Drawn0.step)):P:=h
theorem TW {P:Prop} (h:P:=by repeat (first|exact Below.refl _ _|apply aE_|apply aw_|apply ah_)):P:=h
theorem TE {P:Prop} (h:P:=by first|rfl|(simp[az_,ay_]<;>rfl)|(simp[*,az_,ay_]<;>rfl)):P:=h
theorem TF {P:Prop} (h:P:=by first|rfl|(simp;done)|(simp[*];done)):P:=h
theorem TA {P:Prop} (h:P:=by(try simp only[List.map_toArray,List.map_cons,List.map_nil]);first|done|rfl|(simp only[List.length_drop,List.length_take];rfl)):P:=h
theorem TD {p:Prop} [Decidable p] (h:decide p=true:=by first|(with_reducible assumption)|assumption):p:=of_decide_eq_true h
theorem KR {P:Prop} (h:P:=by kernel_rfl):P:=h
theorem TM {P:Prop} (h:P:=by have:=HK1.out;omega):P:=h
theorem TZ {P:Prop} (h:P:=by first|exact Kd.R_nil _ _ _ _ _|exact Kd.N_nil _ _ _ _ _|exact Kd.V_nil _ _ _ _ _|exact Kd.Q_nil _ _ _ _ _|exact Kd.S_nil _ _ _ _ _):P:=h
theorem size_le {w W:World} (h:Below w.heap.size w W):w.heap.size≤W.heap.size:=h.size
theorem bG {w W:World} {g:Nat} (hg:g=W.heap.size) (h:Below w.heap.size w W:=by repeat (first|(with_reducible first|exact HB.out|apply aE_|apply aw_|apply ah_|refine by_ ?_ (Aside0.out (by assumption)))|exact HB.out)):Aside0 (w.heap.size≤g):=⟨hg ▸ h.size⟩
theorem hBc {w W:World} {p:Addr} {v:Value} (HB:Aside0 (Below w.heap.size w W)) (h:w.cell? p=some v):W.cell? p=some v:=(HB.out.cell (World.block_lt_of_cell? w _ h)).trans h
section
variable {α:Type} {d:Kd α} {e base:Nat} {w W w1:World} {ok:Nat→Prop} {v:Value} {xs:List α} {g:Nat} {o:Obj}
theorem BS (hb:Below W.heap.size W w1) (h:Below w.heap.size w W:=by repeat (first|(with_reducible first|exact HB.out|apply aE_|apply aw_|apply ah_|refine by_ ?_ (Aside0.out (by assumption)))|exact HB.out)):Aside0 (Below w.heap.size w w1):=⟨cx_ h hb⟩
theorem RB (x:Aside0 (d.R e w base ok v xs)) (hb:Below W.heap.size W w1) (hw:Below w.heap.size w W:=by repeat (first|exact Below.refl _ _|apply aE_|apply aw_|apply ah_)):Aside0 (d.R e w1 base ok v xs):=⟨Kd.R_below x.out (cx_ hw hb)⟩
theorem RW (x:Aside0 (d.R e w base ok v xs)) (hw:Below w.heap.size w W:=by repeat (first|exact Below.refl _ _|apply aE_|apply aw_|apply ah_)):Aside0 (d.R e W base ok v xs):=⟨Kd.R_below x.out hw⟩
theorem KB (x:Aside0 (w.heap[g]? = some o)) (hb:Below W.heap.size W w1) (hw:Below w.heap.size w W:=by repeat (first|exact Below.refl _ _|apply aE_|apply aw_|apply ah_)):Aside0 (w1.heap[g]? = some o):=⟨blk_below x.out (cx_ hw hb)⟩
theorem KW (x:Aside0 (w.heap[g]? = some o)) (hw:Below w.heap.size w W:=by repeat (first|exact Below.refl _ _|apply aE_|apply aw_|apply ah_)):Aside0 (W.heap[g]? = some o):=⟨blk_below x.out hw⟩
theorem bN {g':Nat} (x:Aside0 (w.heap[g]? = some o)) (hg:g'=W.heap.size) (hw:Below w.heap.size w W:=by repeat (first|exact Below.refl _ _|apply aE_|apply aw_|apply ah_)):Aside0 (g≠g'):=⟨by rw[hg];exact Nat.ne_of_lt (Nat.lt_of_lt_of_le (blk_lt x.out) hw.size)⟩
theorem bM {g':Nat} (x:Aside0 (w.heap[g]? = some o)) (hg:g'=W.heap.size) (hw:Below w.heap.size w W:=by repeat (first|exact Below.refl _ _|apply aE_|apply aw_|apply ah_)):Aside0 (g'≠g):=⟨(bN x hg hw).out.symm⟩
theorem RL {w0:World} {b:Nat} (h:d.R e w1 b ok v xs) (hb:w0.heap.size≤b:=by exact size_le (by repeat (first|(with_reducible first|exact HB.out|apply aE_|apply aw_|apply ah_|refine by_ ?_ (Aside0.out (by assumption)))|exact HB.out))):Aside0 (d.R e w1 w0.heap.size ok v xs):=⟨Kd.R_lower h hb⟩
theorem bc {t:TypeId} {cs:Array Value} {u:Value} (i:Nat) (x:Aside0 (w.heap[g]? = some (.cells cs t (0,0)))) (h:cs[i]? = some u:=by rfl):w.cell? ⟨g,i,none⟩=some u:=(bY_ x.out i).trans h
theorem cz1 {t:TypeId} {v0:Value} (x:Aside0 (w.heap[g]? = some (.cells #[v0] t (0,0)))):(∀i,w.frozen? ⟨g,i,none⟩=false)∧w.cell? ⟨g,0,none⟩=some v0:=⟨blk_frozen x.out,(bY_ x.out 0).trans rfl⟩
theorem cz2 {t:TypeId} {v0 v1:Value} (x:Aside0 (w.heap[g]? = some (.cells #[v0,v1] t (0,0)))):(∀i,w.frozen? ⟨g,i,none⟩=false)∧w.cell? ⟨g,0,none⟩=some v0∧w.cell? ⟨g,1,none⟩=some v1:=⟨blk_frozen x.out,(bY_ x.out 0).trans rfl,(bY_ x.out 1).trans rfl⟩
theorem cz4 {t:TypeId} {v0 v1 v2 v3:Value} (x:Aside0 (w.heap[g]? = some (.cells #[v0,v1,v2,v3] t (0,0)))):(∀i,w.frozen? ⟨g,i,none⟩=false)∧w.cell? ⟨g,0,none⟩=some v0∧w.cell? ⟨g,1,none⟩=some v1∧w.cell? ⟨g,2,none⟩=some v2∧w.cell? ⟨g,3,none⟩=some v3:=⟨blk_frozen x.out,(bY_ x.out 0).trans rfl,(bY_ x.out 1).trans rfl,(bY_ x.out 2).trans rfl,(bY_ x.out 3).trans rfl⟩
theorem cz6 {t:TypeId} {v0 v1 v2 v3 v4 v5:Value} (x:Aside0 (w.heap[g]? = some (.cells #[v0,v1,v2,v3,v4,v5] t (0,0)))):(∀i,w.frozen? ⟨g,i,none⟩=false)∧w.cell? ⟨g,0,none⟩=some v0∧w.cell? ⟨g,1,none⟩=some v1∧w.cell? ⟨g,2,none⟩=some v2∧w.cell? ⟨g,3,none⟩=some v3∧w.cell? ⟨g,4,none⟩=some v4∧w.cell? ⟨g,5,none⟩=some v5:=⟨blk_frozen x.out,(bY_ x.out 0).trans rfl,(bY_ x.out 1).trans rfl,(bY_ x.out 2).trans rfl,(bY_ x.out 3).trans rfl,(bY_ x.out 4).trans rfl,(bY_ x.out 5).trans rfl⟩
theorem CW {n:Nat} {A:Option Addr} (h:d.C w A n xs) (hw:Below w.heap.size w W:=by repeat (first|exact Below.refl _ _|apply aE_|apply aw_|apply ah_)):d.C W A n xs:=Kd.ap_ h hw
theorem GW {w W:World} (h:Aside0 (Glob w)) (hb:Below w.heap.size w W:=by repeat (first|(with_reducible first|exact HB.out|apply aE_|apply aw_|apply ah_|refine by_ ?_ (Aside0.out (by assumption)))|exact HB.out)):Glob W:=Glob.below h.out hb
end
section
variable {α β:Type} {r:β}
theorem bnd {x:Option α} {f:α→Option β} (h:x.bind f=some r):∃a,Aside0 (x=some a)∧f a=some r:=by
  obtain⟨a,h1,h2⟩:=Option.bind_eq_some_iff.mp h
  exact⟨a,⟨h1⟩,h2⟩
theorem ifn {p:Prop} [Decidable p] {x:Option β} (h:(if p then x else none)=some r):p∧x=some r:=by
  by_cases c:p
  · rw[if_pos c] at h;exact⟨c,h⟩
  · rw[if_neg c] at h;cases h
theorem ifm {p:Prop} [Decidable p] {x:Option β} (h:(if p then none else x)=some r):¬p∧x=some r:=by
  by_cases c:p
  · rw[if_pos c] at h;cases h
  · rw[if_neg c] at h;exact⟨c,h⟩
theorem ift {x y:Option β} (h:(if true=true then x else y)=some r):x=some r:=by simpa using h
theorem iff' {x y:Option β} (h:(if false=true then x else y)=some r):y=some r:=by simpa using h
end
def mL (n m:Nat):Array Bool:=((List.range n).map fun i=>m.testBit i).toArray
section
variable {P:Program} {md:Region.Mode} {ops:Array Oper} {Q:Exit→Act→World→Prop} {S:World→Prop} {ds:List Nat} {T:Bool × List (List Nat × List Nat)} {B:List Nat}
theorem pA (i N:Nat) {oi:Oper} {v:Value} {fuel:Nat} {l:Array Bool} {a a':Act} {w:World} (l':Array Bool) (HT:Aside0 (rtab md ops=T)) (hi:ops[i]? = some oi) (hN:oi.dst=some N)
    (h:wpAnyLast P md ops Q S ds fuel l' a' w) (hc:anyT T l.toList l'.toList i=true:=by kernel_rfl) (hQ:∀c a w,Q (.panic c) (a.put oi.dst v) w→Q (.panic c) a w:=by exact fun _ _ _ h=>h)
    (hw:Region.wanted oi (yielded ops a.tmps)=true:=by rfl) (hy:∀w',(execOp a.eval oi).run P w'=.ok (.value v) w':=by intro w';go_simp;with_reducible rfl)
    (ha:a.put (some N) v=a':=by simp only[Act.put,List.setIfInBounds_toArray,List.set_cons_zero,List.set_cons_succ,b5_,i32_w];rfl):wpAnyLast P md ops Q S ds (fuel+1) l a w :=
  pure_ l' hi hN (any_of HT.out hc) hQ (Or.inl ⟨hw,hy⟩) ha h
theorem pU (i N:Nat) {oi:Oper} {fuel:Nat} {l:Array Bool} {a a':Act} {w:World} (l':Array Bool) (HT:Aside0 (rtab md ops=T)) (hi:ops[i]? = some oi) (hN:oi.dst=some N)
    (h:wpAnyLast P md ops Q S ds fuel l' a' w) (hc:anyT T l.toList l'.toList i=true:=by kernel_rfl) (hQ:∀c a w,Q (.panic c) (a.put oi.dst undef) w→Q (.panic c) a w:=by exact fun _ _ _ h=>h)
    (hw:Region.wanted oi (yielded ops a.tmps)=false:=by rfl)
    (ha:a.put (some N) undef=a':=by simp only[Act.put,List.setIfInBounds_toArray,List.set_cons_zero,List.set_cons_succ,b5_,i32_w];rfl):wpAnyLast P md ops Q S ds (fuel+1) l a w :=
  pure_ l' hi hN (any_of HT.out hc) hQ (Or.inr ⟨hw,rfl⟩) ha h
theorem tA (i N:Nat) {oi:Oper} {v:Value} {fuel:Nat} {l:Array Bool} {a a':Act} {w:World} (l':Array Bool) (HT:Aside0 (rtab md ops=T)) (HW:Aside0 (waitsOk T.2 B=true)) (hS:S w) (hi:ops[i]? = some oi) (hN:oi.dst=some N)
    (hy:∀w',S w'→(execOp a.eval oi).run P w'=.ok (.value v) w') (h:wpAnyLast P md ops Q S ds fuel l' a' w) (hc:takeW T B ds l.toList l'.toList i=true:=by kernel_rfl) (hQ:∀c a w,Q (.panic c) (a.put oi.dst v) w→Q (.panic c) a w:=by exact fun _ _ _ h=>h)
    (hw:Region.wanted oi (yielded ops a.tmps)=true:=by rfl)
    (ha:a.put (some N) v=a':=by simp only[Act.put,List.setIfInBounds_toArray,List.set_cons_zero,List.set_cons_succ,b5_,i32_w];rfl):wpAnyLast P md ops Q S ds (fuel+1) l a w :=
  take_ l' hi hN (take_ofW HT.out HW.out hc) hQ (Or.inl ⟨hw,hy⟩) hS ha h
theorem nA {fuel:Nat} {l:Array Bool} {a a':Act} {w:World} (h:wpAnyLast P md ops Q S ds fuel l a' w) (ha:a=a':=by(show Act.put _ (some _) _=_);simp only[Act.put,List.setIfInBounds_toArray,List.set_cons_zero,List.set_cons_succ,b5_,i32_w];rfl):wpAnyLast P md ops Q S ds fuel l a w:=norm_ ha h
end
section
variable {P:Program} {ops:Array Oper} {rest:List Oper} {o:Oper} {a:Act} {Q:Exit→Act→World→Prop}
theorem bE {W:World} (N:Tmp) (cs:Array Value) (t:TypeId) (h:∀g,g=W.heap.size→∀w1,w1.heap[g]? = some (.cells cs t (0,0))→Below W.heap.size W w1→wpList P ops Q rest (a.put o.dst (.pointer (some ⟨g,0,none⟩))) w1) (hd:o.dst=some N:=by rfl) (hg:o.guard=none:=by rfl)
    (hr:(execOp a.eval o).run P W=.ok (.value (.pointer (some ⟨W.heap.size,0,none⟩))) (W.alloc (.cells cs t (0,0))):=by first|(go_simp;done)|(go_simp;rfl)):wpList P ops Q (o::rest) a W:=box_event hg hd hr h
end
theorem TS {P:Prop} (h:P:=by(repeat (with_reducible first|exact Aside0.out (by assumption)|refine ax_ ?_ _|refine aj_ ?_|refine as_ ?_ _|apply bj_|refine bG_ ?_ (Aside0.out (by assumption)) _));all_goals rfl):P:=h
section
def St (g:Nat) (w W:World):Prop:=w.heap.size≤W.heap.size∧∀k,k<w.heap.size→k≠g→W.heap[k]? = w.heap[k]?
theorem St.refl (g:Nat) (w:World):St g w w:=⟨Nat.le_refl _,fun _ _ _=>rfl⟩
theorem St.below {g:Nat} {w W W':World} (h:St g w W) (hb:Below W.heap.size W W'):St g w W':=⟨Nat.le_trans h.1 hb.size,fun k hk hg=>(hb.block k (Nat.lt_of_lt_of_le hk h.1)).trans (h.2 k hk hg)⟩
theorem St.alloc {g:Nat} {w W:World} (h:St g w W) (o:Obj):St g w (W.alloc o):=h.below (aE_ (Below.refl _ _) o)
theorem St.drew {g:Nat} {w W:World} (h:St g w W):St g w W.drew:=h.below (below_drew (Below.refl _ _))
theorem St.drewN {g:Nat} {w W:World} (h:St g w W) (n:Nat):St g w (W.drewN n):=h.below (aw_ (Below.refl _ _) n)
theorem St.set {g:Nat} {w W:World} (h:St g w W) (i:Nat) (u:Value):St g w (W.setCell ⟨g,i,none⟩ u):=⟨by simpa[World.setCell] using h.1,fun k hk hg=>(Below.heap_setCell W ⟨g,i,none⟩ u k hg).trans (h.2 k hk hg)⟩
variable {α:Type} {d:Kd α} {e base:Nat} {w W w1:World} {ok ok':Nat→Prop} {v:Value} {xs:List α} {g:Nat} {t:TypeId} {cs cs':Array Value}
theorem RI {A:Option Addr} {n c:Nat} (x:Aside0 (d.R e w base ok (.slice A n c) xs)):n≤c:=(Kd.aK_ x.out).2.1
theorem MO (x:Aside0 (d.R e w base ok v xs)) (hok:∀k,ok k→ok' k:=by intro k hk;first|exact hk|trivial|(simp only[hk,ne_eq,not_false_eq_true,and_self];done)|(simp_all;done)) (hw:Below w.heap.size w W:=by repeat (first|exact Below.refl _ _|apply aE_|apply aw_|apply ah_)):Aside0 (d.R e W base ok' v xs):=⟨Kd.bM_ (Kd.R_below x.out hw) hok⟩
theorem KF (x:Aside0 (w.heap[g]? = some (.cells cs t (0,0)))) (hb:Below W.heap.size W w1) (h:W.heap[g]? = some (.cells cs t (0,0)):=by(repeat (with_reducible first|exact Aside0.out (by assumption)|refine ax_ ?_ _|refine aj_ ?_|refine as_ ?_ _|refine bG_ ?_ (Aside0.out (by assumption)) _))):Aside0 (w1.heap[g]? = some (.cells cs t (0,0))):=⟨blk_below h hb⟩
theorem KP (x:Aside0 (w.heap[g]? = some (.cells cs t (0,0)))) (cs':Array Value) (hb:Below W.heap.size W w1) (h:W.heap[g]? = some (.cells cs' t (0,0)):=by(repeat (with_reducible first|exact Aside0.out (by assumption)|refine ax_ ?_ _|refine aj_ ?_|refine as_ ?_ _|apply bj_|refine bG_ ?_ (Aside0.out (by assumption)) _));all_goals rfl):Aside0 (w1.heap[g]? = some (.cells cs' t (0,0))):=⟨blk_below h hb⟩
theorem NW {β:Type} {d':Kd β} {e' b':Nat} {oku:Nat→Prop} {u:Value} {ys:List β} {w0:World} (h:d.R e w1 W.heap.size ok v xs) (x:Aside0 (d'.R e' w0 b' oku u ys)) (hw:Below w0.heap.size w0 W:=by repeat (first|exact Below.refl _ _|apply aE_|apply aw_|apply ah_)):d.R e w1 W.heap.size (fun k=>ok k∧some k≠u.ownBlock) v xs:=Kd.R_new' h (Kd.R_lt (Kd.R_below x.out hw))
theorem EL {β:Type} {d':Kd β} {e':Nat} {oku:Nat→Prop} {u:Value} {ys:List β} (x:Aside0 (d.R e w base ok v xs)) (h:d'.R e' w1 W.heap.size oku u ys) (hb:Below W.heap.size W w1) (hw:Below w.heap.size w W:=by repeat (first|exact Below.refl _ _|apply aE_|apply aw_|apply ah_)):Aside0 (d.R e w1 base (fun k=>ok k∧some k≠u.ownBlock) v xs):=⟨Kd.R_elder' (Kd.R_below x.out hw) (Kd.R_base h) hb⟩
theorem RK {S:Nat→Prop} {W2:World} (ok':Nat→Prop) (x:Aside0 (d.R e w base ok v xs)) (hk:Kept w W2 S) (hne:∀k,ok k→¬S k:=by intro k hk;first|(simp only[hk,or_self,not_false_eq_true];done)|(simp_all;done)) (hok:∀k,(ok k∧(¬S k∧k<w.heap.size))→ok' k:=by intro k hk;first|trivial|(simp only[hk,ne_eq,not_false_eq_true,and_self];done)|(simp_all;done)):Aside0 (d.R e W2 base ok' v xs):=⟨Kd.bM_ (Kd.R_keptB x.out hk hne) hok⟩
theorem nn {a b:Nat} (x:Aside0 (a≠b)):a≠b∧b≠a:=⟨x.out,x.out.symm⟩
theorem AM {P:Prop} (h:P):Aside0 P:=⟨h⟩
end
end Go.Proofs.YthohohfmdieohaaGreatDoorW.PrintLast
