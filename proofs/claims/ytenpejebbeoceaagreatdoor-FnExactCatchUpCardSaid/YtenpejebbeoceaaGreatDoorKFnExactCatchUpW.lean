/- Texts that belong together,joined by claimit.py. -/
import Derived.OrdersHeld
import Derived.Deep.RegionHeld3
import Derived.Laws.BitsLemmas
import Derived.RowKit
import Derived.Below
import Derived.Deep.Draws
import Derived.Deep.AppendLies
import Derived.Maps.AppendAt
import Derived.OwnWalk
import Derived.Laws.BytesArg
import Derived.Laws.MakeOwn
import Derived.Laws.OwnMore
import Derived.Deep.OwnRows
import Derived.Tactics
import Derived.Lib.ConvBytes
import Derived.Laws.Slices
import Derived.WalkKit
import Derived.KernelRfl
import Derived.RowKit3
import Derived.Deep.LoopGhost
import Derived.Deep.QuietTactic
import Derived.BigQuiet
import Derived.WideLaws
import Derived.Deep.DeepCutAuto
import Derived.Deep.CutBlock
import Derived.Laws.Rows
import Derived.Lib.AppendStr
import Derived.ArgAppend
import Derived.Laws.IdiomCopy
import Derived.WalkSpells
import Derived.Lib.SliceRun
import Derived.Laws.Cover1
import Derived.Shelf.Strings.Search3
import Derived.Shelf.Strings.Count
import Derived.Shelf.Strings.SlTrimAscii
import Derived.Shelf.LaysM
import Derived.Shelf.LaysC
import Derived.Shelf.Strconv.Itoa3
import Derived.Shelf.Strconv.ErrVarAll
import Derived.Shelf.Strconv.AtoiAll
import Derived.Shelf.Small.Strs
import Derived.Test.YtenpejebbeoceaaGreatDoorProg
import Derived.Lib.LaidTab
import Derived.LaidMore
import Derived.Lib.AppendIntMem
import Derived.Laws.StructEq
import Derived.Lib.Bytealg
import Derived.Lib.SlTrimSet
import Derived.Lib.AtoiAll
import Derived.Lib.ItoaNum
import Derived.ChangeArms
import Derived.ChangeSlices
import Derived.Lib.SmallJoins
import Derived.WideShapes
section
namespace Go.Proofs.YtenpejebbeoceaaGreatDoorW.PrintLast
section
section
variable {P:Program} {ops:Array Oper} {Q:Exit→Act→World→Prop} {md:Region.Mode} {S:World→Prop} {ds:List Nat}
def Region.reachB (md:Region.Mode) (ops:Array Oper) (i:Nat):Nat→Nat→Bool
  | 0,_=>false
  | fuel+1,d=>match ops[d]? with
    | some o=>o.after.any fun e=>Region.binds md e&&(e.on==i||Region.reachB md ops i fuel e.on)
    | none=>false
def Region.closedB (md:Region.Mode) (ops:Array Oper) (listed:Array Bool):Bool :=
  (List.range ops.size).all fun j => !listed.getD j false||match ops[j]? with
    | some o=>o.after.all fun e => !Region.binds md e||listed.getD e.on false
    | none=>true
def Region.lastB (md:Region.Mode) (ops:Array Oper) (listed:Array Bool) (ds:List Nat) (i:Nat):Bool :=
  ds.all fun d=>listed.getD d true||Region.reachB md ops i ops.size d
def ListedClosed (md:Region.Mode) (ops:Array Oper) (listed:Array Bool):Prop :=
  ∀j oj,ops[j]? = some oj→listed.getD j false=true→∀e∈oj.after,Region.binds md e=true→listed.getD e.on false=true
theorem Region.closedB_spec {listed:Array Bool} (h:Region.closedB md ops listed=true):ListedClosed md ops listed:=by
  intro j oj hj hl e he hb
  have hlt:j<ops.size:=(Array.getElem?_eq_some_iff.1 hj).1
  have h1:=List.all_eq_true.1 h j (List.mem_range.2 hlt)
  simp only[hl,hj,Bool.not_true,Bool.false_or] at h1
  have h2:=Array.all_eq_true_iff_forall_mem.1 h1 e he
  simpa[hb] using h2
theorem ListedClosed.set {listed:Array Bool} {i:Nat} (h:ListedClosed md ops listed) (hi:i∈Region.ready md ops listed):ListedClosed md ops (listed.setIfInBounds i true):=by
  obtain⟨_,oi,hoi,hall⟩:=mem_ready.1 hi
  intro j oj hj hl e he hb
  by_cases hij:i=j
  · subst hij
    have:oj=oi:=Option.some.inj (hj.symm.trans hoi)
    subst this
    exact getD_set_true (hall e he hb)
  · rw[getD_set_ne false hij] at hl
    exact getD_set_true (h j oj hj hl e he hb)
theorem Region.reach_listed {listed:Array Bool} {i:Nat} (hc:ListedClosed md ops listed):∀(fuel d:Nat),Region.reachB md ops i fuel d=true→listed.getD d false=true→listed.getD i false=true
  | 0,_,h,_=>by simp[Region.reachB] at h
  | fuel+1,d,h,hl=>by
    unfold Region.reachB at h
    cases ho:ops[d]? with
    | none=>rw[ho] at h;simp at h
    | some o =>
      rw[ho] at h
      obtain⟨e,he,h1⟩:=Array.any_eq_true'.1 h
      simp only[Bool.and_eq_true,Bool.or_eq_true,beq_iff_eq] at h1
      have hle:=hc d o ho hl e he h1.1
      rcases h1.2 with h2|h2
      · rw[←h2];exact hle
      · exact Region.reach_listed hc fuel e.on h2 hle
theorem Region.reach_not_ready {listed:Array Bool} {i d fuel:Nat} (hc:ListedClosed md ops listed) (hr:Region.reachB md ops i fuel d=true) (hun:listed.getD i true=false):d∉Region.ready md ops listed:=by
  intro hd
  obtain⟨_,o,ho,hall⟩:=mem_ready.1 hd
  have hi:listed.getD i false=true:=by
    cases fuel with
    | zero=>simp[Region.reachB] at hr
    | succ n =>
      unfold Region.reachB at hr
      rw[ho] at hr
      obtain⟨e,he,h1⟩:=Array.any_eq_true'.1 hr
      simp only[Bool.and_eq_true,Bool.or_eq_true,beq_iff_eq] at h1
      have hle:=hall e he h1.1
      rcases h1.2 with h2|h2
      · rw[←h2];exact hle
      · exact Region.reach_listed hc n e.on h2 hle
  rcases Nat.lt_or_ge i listed.size with h'|h'
  · simp[h'] at hun hi
    rw[hun] at hi
    cases hi
  · simp[Array.getElem?_eq_none h'] at hun
def wpAnyLast (P:Program) (md:Region.Mode) (ops:Array Oper) (Q:Exit→Act→World→Prop) (S:World→Prop) (ds:List Nat):Nat→Array Bool→Act→World→Prop
  | 0,listed,a,w=>Region.ready md ops listed=[]∧Q .normal a w
  | fuel+1,listed,a,w =>
    (Region.ready md ops listed=[]→Q .normal a w) ∧
    ∀i∈Region.ready md ops listed,wpOp P ops Q i (fun a' w'=>(i∉ds→S w→S w')∧wpAnyLast P md ops Q S ds fuel (listed.setIfInBounds i true) a' w') a w
theorem wpAny_of_last:∀(fuel:Nat) (listed:Array Bool) (a:Act) (w:World),wpAnyLast P md ops Q S ds fuel listed a w→wpAny P md ops Q fuel listed a w
  | 0,_,_,_,h=>h
  | fuel+1,_,_,_,h=>⟨h.1,fun i hi=>wpOp_mono (fun a' w' h'=>wpAny_of_last fuel _ a' w' h'.2) (h.2 i hi)⟩
theorem wpAnyLast_first {i:Nat} {oi:Oper} {v:Value} (hi:ops[i]? = some oi) (hsel:∀(j:Nat) (o:Oper) cs b,ops[j]? = some o→o.op≠.select cs b)
    (hQ:∀c a w,Q (.panic c) (a.put oi.dst v) w→Q (.panic c) a w) (n:Nat) :
    ∀(fuel:Nat) (listed:Array Bool) (a:Act) (w:World),
      (∀j oj,ops[j]? = some oj→j≠i→listed.getD j true=false→(∀e∈oj.after,Region.binds md e=true→e.on≠i)→oi.apart ops oj=true) →
      ListedClosed md ops listed→(∀d∈ds,listed.getD d true=false→Region.reachB md ops i n d=true) →
      i∈Region.ready md ops listed→YieldsIf P ops S oi v a→S w →
      wpAnyLast P md ops Q S ds fuel (listed.setIfInBounds i true) (a.put oi.dst v) w→wpAnyLast P md ops Q S ds (fuel+1) listed a w:=by
  intro fuel
  induction fuel with
  | zero =>
    intro listed a w _ _ _ hr hy hS H
    refine⟨fun h=>(by rw[h] at hr;cases hr),fun j hj=>?_⟩
    by_cases hji:j=i
    · subst hji;exact hy.wpOp hi hS ⟨fun _ h=>h,H⟩
    · have:=ready_mono hj hji
      rw[H.1] at this
      cases this
  | succ fuel ih =>
    intro listed a w hfree hc hd hr hy hS H
    refine⟨fun h=>(by rw[h] at hr;cases hr),fun j hj=>?_⟩
    by_cases hji:j=i
    · subst hji;exact hy.wpOp hi hS ⟨fun _ h=>h,H⟩
    · have h1:=H.2 j (ready_mono hj hji)
      obtain⟨hjun,oj,hoj,hall⟩:=mem_ready.1 hj
      have hiun:=(mem_ready.1 hr).1
      have hnot:∀e∈oj.after,Region.binds md e=true→e.on≠i:=fun e he hb heq=>by
        have h1:=hall e he hb
        rw[heq] at h1
        rcases Nat.lt_or_ge i listed.size with h'|h'
        · simp[h'] at hiun h1;rw[hiun] at h1;cases h1
        · simp[Array.getElem?_eq_none h'] at h1
      have hjd:j∉ds:=fun hm=>Region.reach_not_ready hc (hd j hm hjun) hiun hj
      have h2:=wpOp_putIf hoj (hfree j oj hoj hji hjun hnot) (fun cs b=>hsel i oi cs b hi) (fun cs b=>hsel j oj cs b hoj) hQ hy h1
      have hfree':∀k ok,ops[k]? = some ok→k≠i→(listed.setIfInBounds j true).getD k true=false →
          (∀e∈ok.after,Region.binds md e=true→e.on≠i)→oi.apart ops ok=true:=fun k ok hk hki hun hno=>by
        refine hfree k ok hk hki ?_ hno
        by_cases hjk:j=k
        · subst hjk;exact hjun
        · rw[getD_set_ne true hjk] at hun;exact hun
      have hd':∀d∈ds,(listed.setIfInBounds j true).getD d true=false→Region.reachB md ops i n d=true:=fun d hm hun=>by
        refine hd d hm ?_
        by_cases hjk:j=d
        · subst hjk;exact hjun
        · rw[getD_set_ne true hjk] at hun;exact hun
      refine wpOp_mono (fun a' w' h3=>⟨h3.2.1,ih (listed.setIfInBounds j true) a' w' hfree' (hc.set hj) hd' (ready_mono hr (Ne.symm hji)) h3.1 (h3.2.1 hjd hS) ?_⟩) h2
      rw[Array.setIfInBounds_comm _ _ hji]
      exact h3.2.2
theorem wpAnyLast_any {i:Nat} {oi:Oper} {v:Value} (hi:ops[i]? = some oi) (hsel:∀(j:Nat) (o:Oper) cs b,ops[j]? = some o→o.op≠.select cs b)
    (hQ:∀c a w,Q (.panic c) (a.put oi.dst v) w→Q (.panic c) a w) :
    ∀(fuel:Nat) (listed:Array Bool) (a:Act) (w:World),
      (∀j oj,ops[j]? = some oj→j≠i→listed.getD j true=false→(∀e∈oj.after,Region.binds md e=true→e.on≠i)→oi.apart ops oj=true) →
      i∈Region.ready md ops listed→Yields P ops oi v a →
      wpAnyLast P md ops Q S ds fuel (listed.setIfInBounds i true) (a.put oi.dst v) w→wpAnyLast P md ops Q S ds (fuel+1) listed a w:=by
  intro fuel
  induction fuel with
  | zero =>
    intro listed a w _ hr hy H
    refine⟨fun h=>(by rw[h] at hr;cases hr),fun j hj=>?_⟩
    by_cases hji:j=i
    · subst hji;exact(hy.yieldsIf (S:=fun _=>True)).wpOp hi trivial ⟨fun _ h=>h,H⟩
    · have:=ready_mono hj hji
      rw[H.1] at this
      cases this
  | succ fuel ih =>
    intro listed a w hfree hr hy H
    refine⟨fun h=>(by rw[h] at hr;cases hr),fun j hj=>?_⟩
    by_cases hji:j=i
    · subst hji;exact(hy.yieldsIf (S:=fun _=>True)).wpOp hi trivial ⟨fun _ h=>h,H⟩
    · have h1:=H.2 j (ready_mono hj hji)
      obtain⟨hjun,oj,hoj,hall⟩:=mem_ready.1 hj
      have hiun:=(mem_ready.1 hr).1
      have hnot:∀e∈oj.after,Region.binds md e=true→e.on≠i:=fun e he hb heq=>by
        have h1:=hall e he hb
        rw[heq] at h1
        rcases Nat.lt_or_ge i listed.size with h'|h'
        · simp[h'] at hiun h1;rw[hiun] at h1;cases h1
        · simp[Array.getElem?_eq_none h'] at h1
      have h2:=wpOp_put hoj (hfree j oj hoj hji hjun hnot) (fun cs b=>hsel i oi cs b hi) (fun cs b=>hsel j oj cs b hoj) hQ hy h1
      have hfree':∀k ok,ops[k]? = some ok→k≠i→(listed.setIfInBounds j true).getD k true=false →
          (∀e∈ok.after,Region.binds md e=true→e.on≠i)→oi.apart ops ok=true:=fun k ok hk hki hun hno=>by
        refine hfree k ok hk hki ?_ hno
        by_cases hjk:j=k
        · subst hjk;exact hjun
        · rw[getD_set_ne true hjk] at hun;exact hun
      refine wpOp_mono (fun a' w' h3=>⟨h3.2.1,ih (listed.setIfInBounds j true) a' w' hfree' (ready_mono hr (Ne.symm hji)) h3.1 ?_⟩) h2
      rw[Array.setIfInBounds_comm _ _ hji]
      exact h3.2.2
theorem wpAnyLast_take {i:Nat} {oi:Oper} {v:Value} {fuel:Nat} {listed:Array Bool} {a:Act} {w:World} (hi:ops[i]? = some oi)
    (hs:Region.noSelect ops=true) (hf:Region.free md ops listed i=true) (hr:(Region.ready md ops listed).contains i=true)
    (hc:Region.closedB md ops listed=true) (hl:Region.lastB md ops listed ds i=true)
    (hQ:∀c a w,Q (.panic c) (a.put oi.dst v) w→Q (.panic c) a w) (hy:YieldsIf P ops S oi v a) (hS:S w)
    (h:wpAnyLast P md ops Q S ds fuel (listed.setIfInBounds i true) (a.put oi.dst v) w):wpAnyLast P md ops Q S ds (fuel+1) listed a w :=
  wpAnyLast_first hi (Region.noSelect_spec hs) hQ ops.size fuel listed a w (Region.free_spec hi hf) (Region.closedB_spec hc)
    (fun d hm hun=>by have:=List.all_eq_true.1 hl d hm;rw[hun] at this;simpa using this) (by simpa using hr) hy hS h
theorem wpAnyLast_all {rs:List Nat} {fuel:Nat} {listed:Array Bool} {a:Act} {w:World} (hr:Region.ready md ops listed=rs) (hne:rs≠[])
    (h:∀i∈rs,wpOp P ops Q i (fun a' w'=>(i∉ds→S w→S w')∧wpAnyLast P md ops Q S ds fuel (listed.setIfInBounds i true) a' w') a w):wpAnyLast P md ops Q S ds (fuel+1) listed a w :=
  ⟨fun h0=>absurd (hr ▸ h0) hne,hr ▸ h⟩
theorem wpAnyLast_done {listed:Array Bool} {a:Act} {w:World} (hr:Region.ready md ops listed=[]) (h:Q .normal a w) :
    ∀fuel,wpAnyLast P md ops Q S ds fuel listed a w
  | 0=>⟨hr,h⟩
  | _+1=>⟨fun _=>h,by rw[hr];simp⟩
theorem wp_region_last {id:Nat} {a:Act} {w:World} (hm:P.follows .mixedOrders=true)
    (h:wpAnyLast P .any ops Q S ds ops.size (Array.replicate ops.size false) a { w with drawn:=w.drawn+1 }):(Code.region id ops true).wp P Q a w :=
  wp_region_any hm (wpAny_of_last _ _ _ _ h)
end
section
variable {P:Program} {ops:Array Oper} {Q:Exit→Act→World→Prop} {md:Region.Mode} {S:World→Prop} {ds:List Nat}
def AllReadyL (P:Program) (md:Region.Mode) (ops:Array Oper) (Q:Exit→Act→World→Prop) (S:World→Prop) (ds:List Nat) (fuel:Nat) (listed:Array Bool) (a:Act) (w:World) (rs:List Nat):Prop :=
  ∀i∈rs,wpOp P ops Q i (fun a' w'=>(i∉ds→S w→S w')∧wpAnyLast P md ops Q S ds fuel (listed.setIfInBounds i true) a' w') a w
theorem AllReadyL.nil {fuel:Nat} {listed:Array Bool} {a:Act} {w:World}:AllReadyL P md ops Q S ds fuel listed a w []:=fun _ h=>by cases h
theorem AllReadyL.cons {fuel:Nat} {listed:Array Bool} {a:Act} {w:World} {i:Nat} {o:Oper} {rs:List Nat} (ho:ops[i]? = some o) (hd:i∉ds)
    (h:∀K':Act→World→Prop,Shut (∀a w,S w→(S w→wpAnyLast P md ops Q S ds fuel (listed.setIfInBounds i true) a w)→K' a w)→if Region.wanted o (yielded ops a.tmps)=true then Oper.wp P o a w K' Q else K' (a.put o.dst undef) w)
    (hs:AllReadyL P md ops Q S ds fuel listed a w rs):AllReadyL P md ops Q S ds fuel listed a w (i::rs):=fun j hj=>by
  rcases List.mem_cons.1 hj with rfl|hj
  · exact wpOp_step ho (fun K' hK=>h K' (fun a w hS hW=>hK a w ⟨fun _ _=>hS,hW hS⟩))
  · exact hs j hj
theorem AllReadyL.cons_last {fuel:Nat} {listed:Array Bool} {a:Act} {w:World} {i:Nat} {o:Oper} {rs:List Nat} (ho:ops[i]? = some o) (hd:i∈ds)
    (h:∀K':Act→World→Prop,Shut (∀a w,wpAnyLast P md ops Q S ds fuel (listed.setIfInBounds i true) a w→K' a w)→if Region.wanted o (yielded ops a.tmps)=true then Oper.wp P o a w K' Q else K' (a.put o.dst undef) w)
    (hs:AllReadyL P md ops Q S ds fuel listed a w rs):AllReadyL P md ops Q S ds fuel listed a w (i::rs):=fun j hj=>by
  rcases List.mem_cons.1 hj with rfl|hj
  · exact wpOp_step ho (fun K' hK=>h K' (fun a w hW=>hK a w ⟨fun hn=>absurd hd hn,hW⟩))
  · exact hs j hj
theorem wpAnyLast_ready {rs:List Nat} {fuel:Nat} {listed:Array Bool} {a:Act} {w:World} (hr:Region.ready md ops listed=rs) (hne:rs≠[])
    (h:AllReadyL P md ops Q S ds fuel listed a w rs):wpAnyLast P md ops Q S ds (fuel+1) listed a w:=wpAnyLast_all hr hne h
theorem start_ {id n:Nat} {a:Act} {w:World} (l:Array Bool) (hm:P.follows .mixedOrders=true) (hn:ops.size=n) (hl:Array.replicate n false=l) (hS:S w.drew)
    (h:S w.drew→wpAnyLast P .any ops Q S ds n l a w.drew):(Code.region id ops true).wp P Q a w:=by
  subst hn
  subst hl
  exact wp_region_last hm (h hS)
def takeB (md:Region.Mode) (ops:Array Oper) (ds:List Nat) (l l':Array Bool) (i:Nat):Bool :=
  Region.noSelect ops&&Region.free md ops l i&&(Region.ready md ops l).contains i&&Region.closedB md ops l&&Region.lastB md ops l ds i&&(l.setIfInBounds i true==l')
theorem take_ {i:Nat} {N:Option Tmp} {oi:Oper} {v:Value} {fuel:Nat} {l:Array Bool} {a:Act} {w:World} (l':Array Bool) (hi:ops[i]? = some oi) (hN:oi.dst=N) (hc:takeB md ops ds l l' i=true)
    (hQ:∀c a w,Q (.panic c) (a.put oi.dst v) w→Q (.panic c) a w) (hy:YieldsIf P ops S oi v a) (hS:S w) {a':Act} (ha:a.put N v=a')
    (h:wpAnyLast P md ops Q S ds fuel l' a' w):wpAnyLast P md ops Q S ds (fuel+1) l a w:=by
  subst ha
  subst hN
  simp only[takeB,Bool.and_eq_true,beq_iff_eq] at hc
  obtain⟨⟨⟨⟨⟨h1,h2⟩,h3⟩,h4⟩,h5⟩,h6⟩:=hc
  subst h6
  exact wpAnyLast_take hi h1 h2 h3 h4 h5 hQ hy hS h
def anyB (md:Region.Mode) (ops:Array Oper) (l l':Array Bool) (i:Nat):Bool :=
  Region.noSelect ops&&Region.free md ops l i&&(Region.ready md ops l).contains i&&(l.setIfInBounds i true==l')
theorem pure_ {i:Nat} {N:Option Tmp} {oi:Oper} {v:Value} {fuel:Nat} {l:Array Bool} {a:Act} {w:World} (l':Array Bool) (hi:ops[i]? = some oi) (hN:oi.dst=N) (hc:anyB md ops l l' i=true)
    (hQ:∀c a w,Q (.panic c) (a.put oi.dst v) w→Q (.panic c) a w) (hy:Yields P ops oi v a) {a':Act} (ha:a.put N v=a')
    (h:wpAnyLast P md ops Q S ds fuel l' a' w):wpAnyLast P md ops Q S ds (fuel+1) l a w:=by
  subst ha
  subst hN
  simp only[anyB,Bool.and_eq_true,beq_iff_eq] at hc
  obtain⟨⟨⟨h1,h2⟩,h3⟩,h6⟩:=hc
  subst h6
  exact wpAnyLast_any hi (Region.noSelect_spec h1) hQ fuel l a w (Region.free_spec hi h2) (by simpa using h3) hy h
def readyB (md:Region.Mode) (ops:Array Oper) (l l':Array Bool) (i:Nat):Bool:=(Region.ready md ops l==[i])&&(l.setIfInBounds i true==l')
theorem one_ {i:Nat} {N:Option Tmp} {oi:Oper} {fuel:Nat} {l:Array Bool} {a:Act} {w:World} (l':Array Bool) (hi:ops[i]? = some oi) (hN:oi.dst=N) (hc:readyB md ops l l' i=true) (hd:i∉ds)
    (h:∀K:Act→World→Prop,Shut (∀a' w',S w'→(S w'→wpAnyLast P md ops Q S ds fuel l' a' w')→K a' w')→if Region.wanted oi (yielded ops a.tmps)=true then Oper.wp P oi a w K Q else K (a.put N undef) w) :
    wpAnyLast P md ops Q S ds (fuel+1) l a w:=by
  subst hN
  simp only[readyB,Bool.and_eq_true,beq_iff_eq] at hc
  obtain⟨h1,h2⟩:=hc
  subst h2
  exact wpAnyLast_ready h1 (by simp) (AllReadyL.cons hi hd (fun K hK=>h K hK) AllReadyL.nil)
theorem last_ {i:Nat} {N:Option Tmp} {oi:Oper} {fuel:Nat} {l:Array Bool} {a:Act} {w:World} (l':Array Bool) (hi:ops[i]? = some oi) (hN:oi.dst=N) (hc:readyB md ops l l' i=true) (hd:i∈ds)
    (h:∀K:Act→World→Prop,Shut (∀a' w',wpAnyLast P md ops Q S ds fuel l' a' w'→K a' w')→if Region.wanted oi (yielded ops a.tmps)=true then Oper.wp P oi a w K Q else K (a.put N undef) w) :
    wpAnyLast P md ops Q S ds (fuel+1) l a w:=by
  subst hN
  simp only[readyB,Bool.and_eq_true,beq_iff_eq] at hc
  obtain⟨h1,h2⟩:=hc
  subst h2
  exact wpAnyLast_ready h1 (by simp) (AllReadyL.cons_last hi hd (fun K hK=>h K hK) AllReadyL.nil)
theorem done_ {l:Array Bool} {a:Act} {w:World} {n:Nat} (hr:(Region.ready md ops l==[])=true) (h:Q .normal a w):wpAnyLast P md ops Q S ds n l a w:=wpAnyLast_done (by simpa using hr) h n
theorem two_ {i j:Nat} {Ni Nj:Option Tmp} {oi oj:Oper} {fuel:Nat} {l:Array Bool} {a:Act} {w:World} (li lj:Array Bool) (hi:ops[i]? = some oi) (hj:ops[j]? = some oj) (hNi:oi.dst=Ni) (hNj:oj.dst=Nj)
    (hc:(Region.ready md ops l==[i,j]&&l.setIfInBounds i true==li&&l.setIfInBounds j true==lj)=true) (hdi:i∉ds) (hdj:j∉ds)
    (h1:∀K:Act→World→Prop,Shut (∀a' w',S w'→(S w'→wpAnyLast P md ops Q S ds fuel li a' w')→K a' w')→if Region.wanted oi (yielded ops a.tmps)=true then Oper.wp P oi a w K Q else K (a.put Ni undef) w)
    (h2:∀K:Act→World→Prop,Shut (∀a' w',S w'→(S w'→wpAnyLast P md ops Q S ds fuel lj a' w')→K a' w')→if Region.wanted oj (yielded ops a.tmps)=true then Oper.wp P oj a w K Q else K (a.put Nj undef) w) :
    wpAnyLast P md ops Q S ds (fuel+1) l a w:=by
  subst hNi
  subst hNj
  simp only[Bool.and_eq_true,beq_iff_eq] at hc
  obtain⟨⟨h3,h4⟩,h5⟩:=hc
  subst h4
  subst h5
  exact wpAnyLast_ready h3 (by simp) (AllReadyL.cons hi hdi (fun K hK=>h1 K hK) (AllReadyL.cons hj hdj (fun K hK=>h2 K hK) AllReadyL.nil))
def putAll:Act→List (Tmp × Value)→Act
  | a,[]=>a
  | a,(n,v)::r=>putAll (a.put (some n) v) r
theorem join_ {σ:Type} {fuel:Nat} {l:Array Bool} {a:Act} {w:World} (fuel':Nat) (l':Array Bool) (ns:σ→List (Tmp × Value)) (F:σ→World→Prop)
    (hcont:∀s w',F s w'→wpAnyLast P md ops Q S ds fuel' l' (putAll a (ns s)) w')
    (h:(∀s w',F s w'→wpAnyLast P md ops Q S ds fuel' l' (putAll a (ns s)) w')→wpAnyLast P md ops Q S ds fuel l a w):wpAnyLast P md ops Q S ds fuel l a w:=h hcont
theorem norm_ {fuel:Nat} {l:Array Bool} {a a':Act} {w:World} (ha:a=a') (h:wpAnyLast P md ops Q S ds fuel l a' w):wpAnyLast P md ops Q S ds fuel l a w:=by
  subst ha
  exact h
theorem call_ {oi:Oper} {N:Option Tmp} {a:Act} {w:World} {K:Act→World→Prop} (f:FuncId) (args:Array Value) (hw:Region.wanted oi (yielded ops a.tmps)=true) (hN:oi.dst=N) (hrun:(execOp a.eval oi).run P w=.ok (.enter f args) w)
    (h:Calls P f args w fun e w'=>∃v,e=.returned v∧K (a.put N v) w'):if Region.wanted oi (yielded ops a.tmps)=true then Oper.wp P oi a w K Q else K (a.put N undef) w:=by
  rw[if_pos hw]
  subst hN
  unfold Oper.wp
  rw[hrun,Oper.upon_enter]
  refine h.mono fun e w'' hh=>?_
  obtain⟨v,rfl,hk⟩:=hh
  exact hk
theorem enters_ {f:FuncId} {fn:Func} (hf:P.funcs[f]? = some fn) (hname:(fn.name == "runtime.NumGoroutine")=false) (hb:fn.body.isSome=true) (args:Array Value) (w:World):(callFunc f args).run P w=.ok (.enter f args) w:=by
  have h1:fn.name ≠ "runtime.NumGoroutine" := by simpa using hname
  obtain⟨c,hc⟩:=Option.isSome_iff_exists.1 hb
  simp[callFunc,hf,h1,hc]
theorem goes_ {oi:Oper} {N:Option Tmp} {a:Act} {w:World} {K:Act→World→Prop} {f:FuncId} {fn:Func} {ars:Array Operand} {ts:Array TypeId} (hf:P.funcs[f]? = some fn) (hname:(fn.name == "runtime.NumGoroutine")=false) (hb:fn.body.isSome=true) (args:Array Value)
    (hw:Region.wanted oi (yielded ops a.tmps)=true) (hN:oi.dst=N) (hop:oi.op=.call { callee:=.value (.func f),args:=ars,argTypes:=ts }) (hargs:ars.map a.eval=args)
    (h:Calls P f args w fun e w'=>∃v,e=.returned v∧K (a.put N v) w'):if Region.wanted oi (yielded ops a.tmps)=true then Oper.wp P oi a w K Q else K (a.put N undef) w:=by
  refine call_ f args hw hN ?_ h
  have he:=enters_ hf hname hb args w
  unfold execOp
  simp[hop,resolve,Deferred.ofValue,invoke,Act.eval,hargs,he]
theorem goesL_ {rest:List Oper} {oi:Oper} {a:Act} {w:World} (N:Option Tmp) (hd:oi.dst=N) (hg:oi.guard=none) {f:FuncId} {fn:Func} {ars:Array Operand} {ts:Array TypeId} (hf:P.funcs[f]? = some fn) (hname:(fn.name == "runtime.NumGoroutine")=false) (hb:fn.body.isSome=true) (args:Array Value)
    (hop:oi.op=.call { callee:=.value (.func f),args:=ars,argTypes:=ts }) (hargs:ars.map a.eval=args)
    (h:Calls P f args w fun e w'=>∃v,e=.returned v∧wpList P ops Q rest (a.put N v) w'):wpList P ops Q (oi::rest) a w:=by
  refine wpList_plain hg fun K hK=>?_
  have he:=enters_ hf hname hb args w
  have hrun:(execOp a.eval oi).run P w=.ok (.enter f args) w:=by
    unfold execOp
    simp[hop,resolve,Deferred.ofValue,invoke,Act.eval,hargs,he]
  unfold Oper.wp
  rw[hrun,Oper.upon_enter]
  refine h.mono fun e w'' hh=>?_
  obtain⟨v,rfl,hk⟩:=hh
  subst hd
  exact hK _ _ hk
theorem value_ {oi:Oper} {N:Option Tmp} {a:Act} {w w1:World} {v:Value} {K:Act→World→Prop} (hw:Region.wanted oi (yielded ops a.tmps)=true) (hN:oi.dst=N) (hrun:(execOp a.eval oi).run P w=.ok (.value v) w1)
    (h:K (a.put N v) w1):if Region.wanted oi (yielded ops a.tmps)=true then Oper.wp P oi a w K Q else K (a.put N undef) w:=by
  rw[if_pos hw]
  subst hN
  unfold Oper.wp
  rw[hrun]
  exact h
theorem skip_ {oi:Oper} {a:Act} {w w1:World} {K:Act→World→Prop} (hw:Region.wanted oi (yielded ops a.tmps)=true) (hN:oi.dst=none) (hrun:(execOp a.eval oi).run P w=.ok .skip w1)
    (h:K a w1):if Region.wanted oi (yielded ops a.tmps)=true then Oper.wp P oi a w K Q else K (a.put none undef) w:=by
  rw[if_pos hw]
  unfold Oper.wp
  rw[hrun]
  show K (a.put oi.dst undef) w1
  rw[hN]
  exact h
theorem b6_ (n:Int):IntKind.i64.wrap n=Go.RowKit.wrap64 n:=by unfold Go.RowKit.wrap64;exact IntKind.wrap_i64 n
theorem i32_w (n:Int):IntKind.i32.wrap n=Go.RowKit.wrap32 n:=by unfold Go.RowKit.wrap32;exact IntKind.wrap_i32 n
end
end
end Go.Proofs.YtenpejebbeoceaaGreatDoorW.PrintLast
end
section
set_option linter.unusedVariables false
set_option linter.unusedSimpArgs false
namespace Go.Proofs.YtenpejebbeoceaaGreatDoorW.PrintWords
open Go.RowKit
structure Aside0 (p:Prop):Prop where mk::(out:p)
structure Drawn0 (w w':World):Prop where mk::(out:∃n,w'=w.drewN n)
theorem Drawn0.refl (w:World):Drawn0 w w:=⟨⟨0,rfl⟩⟩
theorem Drawn0.step {w w':World} (h:Drawn0 w w') (n:Nat):Drawn0 w (w'.drewN n):=by
  obtain⟨m,rfl⟩:=h
  exact⟨⟨m+n,World.drewN_drewN ..⟩⟩
theorem Drawn0.below {w w':World} (h:Drawn0 w w'):Below w.heap.size w w':=by
  obtain⟨n,rfl⟩:=h
  induction n with
  | zero=>exact Below.refl _ _
  | succ n ih=>rw[←World.drew_drewN];exact ih.drew
def rd (xs:List Int) (i:Int):Int:=xs.getD i.toNat 0
def bt (s:ByteArray) (i:Int):Int:=if h:i.toNat<s.size then((s[i.toNat]'h).toNat:Int) else 0
theorem cB_ (s:ByteArray) (i:Int):∀h:i.toNat<s.size,((s[i.toNat]'h).toNat:Int)=bt s i:=fun h=>by simp[bt,h]
def nums (k:IntKind) (xs:List Int):List Value:=xs.map fun x=>.int k x
theorem bb_ {w W:World} (h:Below w.heap.size w W) (o:Obj):Below w.heap.size w (W.alloc o):=h.alloc h.size o
theorem below_drew {B:Nat} {w W:World} (h:Below B w W):Below B w W.drew:=⟨h.os,h.tape,h.output,h.size,h.block⟩
theorem aV_ {B:Nat} {w W:World} (h:Below B w W) (n:Nat):Below B w (W.drewN n):=⟨h.os,h.tape,h.output,h.size,h.block⟩
theorem below_then {B:Nat} {w w1 w2:World} (h:Below B w w1) (hB:B≤w1.heap.size) (k:Below w1.heap.size w1 w2):Below B w w2 :=
  h.trans ⟨k.os,k.tape,k.output,k.size,fun i hi=>k.block i (Nat.lt_of_lt_of_le hi hB)⟩
theorem pw_below_grown {B:Nat} {w w1:World} (h:Below B w w1) (row:Option Nat) (hB:B≤w1.heap.size) {w2:World} (hg:w1.grownBy w2 row) (hr:∀k,row=some k→B≤k):Below B w w2:=h.grown hg hB hr
theorem grown_of_below {w w1:World} (h:Below w.heap.size w w1) (row:Option Nat):w.grownBy w1 row:=⟨h.os,h.tape,h.output,h.size,fun i hi _=>h.block i hi⟩
theorem pw_cell_below {w w1:World} (h:Below w.heap.size w w1) {a:Addr} {v:Value} (hc:w.cell? a=some v):w1.cell? a=some v:=(h.cell (World.block_lt_of_cell? w a hc)).trans hc
theorem add_plain (g j:Nat):(⟨g,0,none⟩:Addr).add j=⟨g,j,none⟩:=by unfold Addr.add;split<;>simp_all
def ReadsInt (w:World) (k:IntKind) (A:Option Addr) (n:Nat) (xs:List Int):Prop :=
  xs.length=n∧n≤9223372036854775807∧(0<n→∃ad,A=some ad∧∀j,j<n→w.cell? (ad.add j)=some (.int k (xs.getD j 0)))
theorem ReadsInt.at_ {w:World} {k:IntKind} {A:Option Addr} {n:Nat} {xs:List Int} (h:ReadsInt w k A n xs) (i:Int) (h0:0≤i) (h1:i<n):∃ad,A=some ad∧w.cell? (ad.add i.toNat)=some (.int k (rd xs i)):=by
  obtain⟨ad,e,hc⟩:=h.2.2 (by omega)
  exact⟨ad,e,hc _ (by omega)⟩
theorem ReadsInt.below {w w1:World} {k:IntKind} {A:Option Addr} {n:Nat} {xs:List Int} (h:ReadsInt w k A n xs) (hb:Below w.heap.size w w1):ReadsInt w1 k A n xs :=
  ⟨h.1,h.2.1,fun hn=>by
    obtain⟨ad,e,hc⟩:=h.2.2 hn
    exact⟨ad,e,fun j hj=>pw_cell_below hb (hc j hj)⟩⟩
theorem own_nil (W:World) (base:Nat) (e:TypeId) (size:Nat):W.ownsRow base e size (.slice none 0 0) 0 []:=⟨by simp,.inl ⟨rfl,rfl⟩⟩
theorem own_base {w:World} {base:Nat} {e:TypeId} {size n:Nat} {v:Value} {xs:List Value} (h:w.ownsRow base e size v n xs) (k:Nat) (hk:v.ownBlock=some k):base≤k:=by
  rcases h.2 with ⟨rfl,_⟩|⟨g,cap,cur,rfl,hb,_⟩
  · simp[Value.ownBlock] at hk
  · have:g=k:=by simpa[Value.ownBlock] using hk
    omega
theorem own_lt {w:World} {base:Nat} {e:TypeId} {size n:Nat} {v:Value} {xs:List Value} (h:w.ownsRow base e size v n xs) (k:Nat) (hk:v.ownBlock=some k):k<w.heap.size:=by
  rcases h.2 with ⟨rfl,_⟩|⟨g,cap,cur,rfl,hb,hh,_⟩
  · simp[Value.ownBlock] at hk
  · have:g=k:=by simpa[Value.ownBlock] using hk
    subst this
    exact(Array.getElem?_eq_some_iff.1 hh).1
theorem pw_own_below {w w1:World} {base:Nat} {e:TypeId} {size n:Nat} {v:Value} {xs:List Value} (h:w.ownsRow base e size v n xs) (hb:Below w.heap.size w w1):w1.ownsRow base e size v n xs :=
  h.kept (grown_of_below hb none) (by cases v.ownBlock<;>simp)
theorem own_slice {w:World} {base n:Nat} {e:TypeId} {size:Nat} {v:Value} {xs:List Value} (h:w.ownsRow base e size v n xs):∃A c,v=.slice A n c:=by
  rcases h.2 with ⟨rfl,rfl⟩|⟨g,cap,cur,rfl,_⟩
  · exact⟨none,0,rfl⟩
  · exact⟨_,cap,rfl⟩
theorem own_string {P:Program} {w:World} {base n:Nat} {e' src dst e:TypeId} {v:Value} {xs:List Int} (hs:P.underlying src=some (.slice e)) (he:P.underlying e=some (.int .u8)) (hd:P.underlying dst=some .string)
    (h:w.ownsRow base e' 1 v n (nums .u8 xs)):(convert src dst v).run P w=.ok (.string (strOfNums xs)) w:=by
  have hl:xs.length=n:=by have:=h.1;simp[nums] at this;exact this
  rcases h.2 with ⟨rfl,rfl⟩|⟨g,cap,cur,rfl,_⟩
  · obtain rfl:xs=[]:=List.eq_nil_of_length_eq_zero hl
    exact run_convert_bytes_nil w src e hs he 0 0 dst hd
  · refine run_convert_bytes_arg w src e hs he g 0 n cap xs hl (fun i hi=>?_) dst hd
    have hc:=h.cells (g:=g) rfl i (.int .u8 (xs.getD i 0)) (by simp[nums,List.getElem?_eq_getElem (show i<xs.length by omega),List.getD_eq_getElem?_getD])
    have ha:(⟨g,0,none⟩:Addr).add i=⟨g,0+i,none⟩:=by unfold Addr.add;split<;>simp_all
    rwa [ha] at hc
section
variable {P:Program} {ops:Array Oper} {rest:List Oper} {o:Oper} {a:Act} {Q:Exit→Act→World→Prop}
end
section
variable {P:Program}
end
section
variable {P:Program} {ops:Array Oper} {rest:List Oper} {o:Oper} {a:Act} {Q:Exit→Act→World→Prop}
end
def bytesOf (s:ByteArray):List Int:=s.data.toList.map fun b=>(b.toNat:Int)
theorem data_length (s:ByteArray):s.data.toList.length=s.size:=by rw[Array.length_toList];rfl
theorem bytesOf_length (s:ByteArray):(bytesOf s).length=s.size:=by rw[bytesOf,List.length_map,data_length]
theorem print_bytes {P:Program} (src dst e:TypeId) {u:TypeDesc} (hs:P.underlying src=some u) (hd:P.underlying dst=some (.slice e)) (he:P.underlying e=some (.int .u8)) (s:ByteArray) (W:World) :
    (convert src dst (.string s)).run P W=.ok (.slice (some ⟨W.heap.size,0,none⟩) s.size (grownCap W s.size 0 e)) (Lib.bytesWorld W e s):=Lib.run_convert_string_bytes W src dst e s hs hd he
theorem bytes_reads (W:World) (e:TypeId) (s:ByteArray) (hs:s.size≤9223372036854775807):ReadsInt (Lib.bytesWorld W e s) .u8 (some ⟨W.heap.size,0,none⟩) s.size (bytesOf s):=by
  refine⟨bytesOf_length s,hs,fun _=>⟨_,rfl,fun j hj=>?_⟩⟩
  rw[add_plain,Lib.bytesWorld_cell W e s j hj]
  have h':j<s.data.toList.length:=by rw[data_length];exact hj
  simp[bytesOf,List.getD_eq_getElem?_getD,List.getElem?_eq_getElem h']
theorem bytes_below {B:Nat} {w W:World} (h:Below B w W) (hB:B≤W.heap.size) (e:TypeId) (s:ByteArray):Below B w (Lib.bytesWorld W e s) :=
  h.trans ⟨rfl,rfl,rfl,by rw[Lib.bytesWorld_size];omega,fun i hi=>Lib.bytesWorld_at_old W e s i (by omega)⟩
def LeO {α:Type} (a b:Option α):Prop:=∀r,a=some r→b=some r
theorem LeO.refl {α:Type} (a:Option α):LeO a a:=fun _ h=>h
theorem LeO.none {α:Type} (b:Option α):LeO Option.none b:=fun _ h=>by cases h
theorem LeO.trans {α:Type} {a b c:Option α} (h:LeO a b) (k:LeO b c):LeO a c:=fun r hr=>k r (h r hr)
theorem LeO.map {α β:Type} {a a':Option α} (f:α→β) (h:LeO a a'):LeO (a.map f) (a'.map f):=by
  intro r hr
  obtain⟨x,hx,hf⟩:=Option.map_eq_some_iff.1 hr
  exact Option.map_eq_some_iff.2 ⟨x,h x hx,hf⟩
def Reps {α:Type} (R:α→List Value→Prop) (size:Nat) (ps:List α) (cs:List Value):Prop :=
  cs.length=ps.length * size∧∀j p,ps[j]? = some p→R p ((cs.drop (j * size)).take size)
theorem Reps.none {α:Type} (R:α→List Value→Prop) (size:Nat):Reps R size [] []:=⟨by simp,fun j p h=>by simp at h⟩
theorem Reps.snoc {α:Type} {R:α→List Value→Prop} {size:Nat} {ps:List α} {cs c:List Value} {p:α} (h:Reps R size ps cs) (hp:R p c) (hc:c.length=size):Reps R size (ps++[p]) (cs++c):=by
  refine⟨by rw[List.length_append,h.1,hc,List.length_append,List.length_singleton,Nat.add_mul,Nat.one_mul],fun j q hq=>?_⟩
  rcases Nat.lt_or_ge j ps.length with hj|hj
  · rw[List.getElem?_append_left hj] at hq
    have h1:j * size+size≤cs.length:=by rw[h.1,←Nat.succ_mul];exact Nat.mul_le_mul_right _ hj
    have h2:=h.2 j q hq
    rw[List.drop_append_of_le_length (by omega),List.take_append_of_le_length (by rw[List.length_drop];omega)]
    exact h2
  · have hj':j=ps.length:=by
      have:=(List.getElem?_eq_some_iff.1 hq).1
      rw[List.length_append,List.length_singleton] at this
      omega
    subst hj'
    have hq':p=q:=by simpa using hq
    subst hq'
    rw[←h.1,List.drop_left,←hc,List.take_length]
    exact hp
theorem Reps.imp_ {α:Type} {R R':α→List Value→Prop} {size:Nat} {ps:List α} {cs:List Value} (h:Reps R size ps cs) (hR:∀p c,R p c→R' p c):Reps R' size ps cs:=⟨h.1,fun j p hj=>hR _ _ (h.2 j p hj)⟩
def ReadsRow {α:Type} (R:α→List Value→Prop) (size:Nat) (w:World) (A:Option Addr) (n:Nat) (ps:List α):Prop :=
  ps.length=n∧n≤9223372036854775807∧(0<n→∃ad,A=some ad∧∀j p,ps[j]? = some p→∃c,c.length=size∧R p c∧∀i u,c[i]? = some u→w.cell? (ad.add (j * size+i))=some u)
theorem ReadsRow.get_ {α:Type} {R:α→List Value→Prop} {size:Nat} {w:World} {A:Option Addr} {n:Nat} {ps:List α} (h:ReadsRow R size w A n ps) (d:α) (i:Int) (h0:0≤i) (h1:i<n) :
    ∃ad c,A=some ad∧c.length=size∧R (ps.getD i.toNat d) c∧∀j u,c[j]? = some u→w.cell? (ad.add (i.toNat * size+j))=some u:=by
  obtain⟨ad,e,hc⟩:=h.2.2 (by omega)
  have hl:i.toNat<ps.length:=by have:=h.1;omega
  obtain⟨c,hs,hr,hcell⟩:=hc i.toNat _ (List.getElem?_eq_getElem hl)
  refine⟨ad,c,e,hs,?_,hcell⟩
  rw[List.getD_eq_getElem?_getD,List.getElem?_eq_getElem hl]
  exact hr
theorem ReadsRow.imp_ {α:Type} {R R':α→List Value→Prop} {size:Nat} {w w1:World} {A:Option Addr} {n:Nat} {ps:List α} (h:ReadsRow R size w A n ps) (hb:Below w.heap.size w w1) (hR:∀p c,R p c→R' p c):ReadsRow R' size w1 A n ps :=
  ⟨h.1,h.2.1,fun hn=>by
    obtain⟨ad,e,hc⟩:=h.2.2 hn
    refine⟨ad,e,fun j p hj=>?_⟩
    obtain⟨c,hs,hr,hcell⟩:=hc j p hj
    exact⟨c,hs,hR _ _ hr,fun i u hu=>pw_cell_below hb (hcell i u hu)⟩⟩
theorem own_reads_row {α:Type} {R:α→List Value→Prop} {w:World} {base n size:Nat} {e:TypeId} {v:Value} {ps:List α} {cs:List Value} (h:w.ownsRow base e size v n cs) (hR:Reps R size ps cs) (hn:ps.length=n) :
    ∃A c,v=.slice A n c∧ReadsRow R size w A n ps:=by
  rcases Nat.eq_zero_or_pos n with h0|h0
  · rcases h.2 with ⟨rfl,rfl⟩|⟨g,cap,cur,rfl,_⟩
    · exact⟨none,0,rfl,hn,by omega,fun hp=>absurd hp (by omega)⟩
    · exact⟨_,cap,rfl,hn,by omega,fun hp=>absurd hp (by omega)⟩
  · obtain⟨g,cap,rfl,_,_⟩:=h.form h0
    have hm:n≤9223372036854775807:=by
      rcases h.2 with ⟨_,h1⟩|⟨g',cap',cur,he,_,_,h1,h2,_⟩
      · omega
      · simp only[maxLen] at h2
        omega
    refine⟨_,cap,rfl,hn,hm,fun _=>⟨_,rfl,fun j p hj=>⟨(cs.drop (j * size)).take size,?_,hR.2 j p hj,fun i u hu=>?_⟩⟩⟩
    · have hjl:=(List.getElem?_eq_some_iff.1 hj).1
      have h1:j * size+size≤cs.length:=by rw[hR.1,←Nat.succ_mul];exact Nat.mul_le_mul_right _ hjl
      rw[List.length_take,List.length_drop]
      omega
    · refine h.cells (g:=g) rfl _ u ?_
      rw[List.getElem?_take] at hu
      split at hu
      · rw[List.getElem?_drop] at hu
        exact hu
      · cases hu
theorem cw_ (ad:Addr) (m j:Nat) (hj:0<j):ad.add (m+j)=⟨(ad.add m).block,(ad.add m).off+j,none⟩:=by
  unfold Addr.add
  by_cases hm:m=0
  · subst hm
    simp[Nat.ne_of_gt hj]
  · simp[hm,Nat.add_assoc]
section
variable {P:Program} {ops:Array Oper} {rest:List Oper} {o:Oper} {a:Act} {Q:Exit→Act→World→Prop}
theorem print_append_cells {w0 W:World} (base:Nat) (hgd:o.guard=none) (s x:Operand) (t e:TypeId) (z:Value) (size bytes:Nat)
    (ho:o.op=.call { callee:=.builtin .append,args:=#[s,x],argTypes:=#[t,t] })
    (ht:P.underlying t=some (.slice e)) (hinfo:(P.info? e).map (fun i=>(i.zero,i.size,i.bytes))=some (some z,size,bytes)) (hz:z.cells.size=size) (hs0:0<size) (hb0:0<bytes)
    (v:Value) (n:Nat) (xs ys:List Value) (hs:a.eval s=v) (hx:a.eval x=.slice (some ⟨W.heap.size,0,none⟩) 1 1) (hys:ys.length=size) (h1:∀u∈ys,u.oneCell'=true)
    (HO:W.ownsRow base e size v n xs) (HB:Below base w0 W) (hbase:base≤W.heap.size) (hl:(n+1) * bytes≤140737488355328)
    (h:∀v1 w1,w1.ownsRow base e size v1 (n+1) (xs++ys)→Below base w0 w1→W.grownBy w1 v.ownBlock→(v1.ownBlock=v.ownBlock∨∃b,v1.ownBlock=some b∧W.heap.size≤b)→wpList P ops Q rest (a.put o.dst v1) w1) :
    wpList P ops Q (o::rest) a (W.alloc (.cells ys.toArray e)):=by
  obtain⟨i0,hi,hzz⟩:=Option.map_eq_some_iff.1 hinfo
  simp only[Prod.mk.injEq] at hzz
  obtain⟨hz0,hz1,hz2⟩:=hzz
  have hlen:n+1≤140737488355328:=Nat.le_trans (Nat.le_mul_of_pos_right _ hb0) hl
  refine wpList_append_own_at (W.alloc (.cells ys.toArray e)) hgd s x t ho base e i0 z size bytes ht hi hz0 hz1 hz2 hz hs0 v n xs hs (HO.alloc _) ⟨W.heap.size,0,none⟩ 1 1 ys hx (by rw[hys];simp)
    (by simpa using World.news_of_block (cs:=ys.toArray) (t:=e) (fr:=(0,0)) (heap_alloc_new W (.cells ys.toArray e))) h1 (by simp only[maxLen];omega) hl (by simp;omega) ?_
  intro v1 w1 hown hg _ hat
  refine h v1 w1 hown ((HB.alloc hbase _).grown hg (by simp;omega) (own_base HO)) (World.grownBy.trans (World.grownBy_alloc W _ _) hg) ?_
  rcases hat with hat|hat
  · exact .inl hat
  · exact .inr ⟨_,hat,by simp⟩
end
theorem own_ne {w:World} {base:Nat} {e t:TypeId} {size n g:Nat} {v:Value} {xs:List Value} {cs:Array Value} (h:w.ownsRow base e size v n xs) (hg:w.heap[g]? = some (.cells cs t (0,0))) (hne:e≠t):some g≠v.ownBlock:=by
  rcases h.2 with ⟨rfl,_⟩|⟨g',cap,cur,rfl,_,hh,_⟩
  · simp[Value.ownBlock]
  · intro he
    have:g=g':=by simpa[Value.ownBlock] using he
    subst this
    rw[hg] at hh
    injection hh with hh
    injection hh with _ ht
    exact hne ht.symm
theorem blk_set {w:World} {g:Nat} {t:TypeId} {cs:Array Value} (h:w.heap[g]? = some (.cells cs t (0,0))) (i:Nat) (u:Value):(w.setCell ⟨g,i,none⟩ u).heap[g]? = some (.cells (cs.setIfInBounds i u) t (0,0)):=by
  simp[World.setCell,Array.getElem?_modify,h]
theorem blk_far {w:World} {g:Nat} {t:TypeId} {cs:Array Value} (h:w.heap[g]? = some (.cells cs t (0,0))) {p:Addr} (hp:g≠p.block) (u:Value):(w.setCell p u).heap[g]? = some (.cells cs t (0,0)):=(Below.heap_setCell w p u g hp).trans h
theorem blk_lt {w:World} {g:Nat} {o:Obj} (h:w.heap[g]? = some o):g<w.heap.size:=(Array.getElem?_eq_some_iff.1 h).1
theorem blk_cell {w:World} {g:Nat} {t:TypeId} {cs:Array Value} (h:w.heap[g]? = some (.cells cs t (0,0))) (i:Nat):w.cell? ⟨g,i,none⟩=cs[i]?:=cell_of_row w g i cs t (0,0) h
theorem cu_ {w:World} {g:Nat} {t:TypeId} {cs:Array Value} (h:w.heap[g]? = some (.cells cs t (0,0))) (i:Nat):w.frozen? ⟨g,i,none⟩=false:=by simp[World.frozen?,h]
theorem cz_ {w w1:World} {g:Nat} {o:Obj} {row:Option Nat} (h:w.heap[g]? = some o) (hg:w.grownBy w1 row) (hne:some g≠row):w1.heap[g]? = some o:=(hg.block g (blk_lt h) hne).trans h
def KeepBut (w w':World) (g:Nat) (row:Option Nat):Prop:=w.heap.size≤w'.heap.size∧∀i,i<w.heap.size→i≠g→some i≠row→w'.heap[i]? = w.heap[i]?
theorem KeepBut.refl (w:World) (g:Nat) (row:Option Nat):KeepBut w w g row:=⟨Nat.le_refl _,fun _ _ _ _=>rfl⟩
theorem KeepBut.trans {w w1 w2:World} {g:Nat} {row row1:Option Nat} (h:KeepBut w w1 g row) (k:KeepBut w1 w2 g row1) (hr:row1=row∨∃b,row1=some b∧w.heap.size≤b):KeepBut w w2 g row :=
  ⟨Nat.le_trans h.1 k.1,fun i hi hg hn=>by
    refine(k.2 i (Nat.lt_of_lt_of_le hi h.1) hg ?_).trans (h.2 i hi hg hn)
    rcases hr with rfl|⟨b,rfl,hb⟩
    · exact hn
    · intro e
      injection e with e
      omega⟩
def Ev {α:Type} (g:Nat→Option α) (r:α):Prop:=∃K,∀k,K≤k→g k=some r
theorem Ev.rounds {α:Type} {g:Nat→Option α} {r:α} (h:Ev g r):∃k,g k=some r:=by
  obtain⟨K,h⟩:=h
  exact⟨K,h K (Nat.le_refl _)⟩
theorem Ev.bind {α β:Type} {g:Nat→Option α} {f:Nat→α→Option β} {a:α} {r:β} (h:Ev g a) (k:Ev (fun n=>f n a) r):Ev (fun n=>(g n).bind (f n)) r:=by
  obtain⟨K,h⟩:=h
  obtain⟨K',k⟩:=k
  refine⟨max K K',fun n hn=>?_⟩
  have h1:=h n (by omega)
  have h2:=k n (by omega)
  simp only[h1,Option.bind_some]
  exact h2
section
variable {P:Program} {ops:Array Oper} {o:Oper} {a:Act} {Q:Exit→Act→World→Prop} {K:Act→World→Prop}
end
theorem own_weaken {w:World} {base base':Nat} {e:TypeId} {size n:Nat} {v:Value} {xs:List Value} (h:w.ownsRow base e size v n xs) (hb:base'≤base):w.ownsRow base' e size v n xs:=by
  obtain⟨h1,h2⟩:=h
  refine⟨h1,?_⟩
  rcases h2 with h2|⟨g,cap,cur,rfl,hg,r⟩
  · exact .inl h2
  · exact .inr ⟨g,cap,cur,rfl,Nat.le_trans hb hg,r⟩
section
variable {α:Type} {enc:α→Value} {d:α}
def encs (enc:α→Value) (xs:List α):List Value:=xs.map enc
def rdOf (d:α) (xs:List α) (i:Int):α:=xs.getD i.toNat d
theorem encs_length (xs:List α):(encs enc xs).length=xs.length:=by simp[encs]
theorem encs_get (xs:List α) (j:Nat) (h:j<xs.length):(encs enc xs)[j]? = some (enc (xs.getD j d)):=by
  simp[encs,List.getElem?_eq_getElem h,List.getD_eq_getElem?_getD]
def ReadsOf (enc:α→Value) (d:α) (w:World) (A:Option Addr) (n:Nat) (xs:List α):Prop :=
  xs.length=n∧n≤9223372036854775807∧(0<n→∃ad,A=some ad∧∀j,j<n→w.cell? (ad.add j)=some (enc (xs.getD j d)))
theorem ReadsOf.at_ {w:World} {A:Option Addr} {n:Nat} {xs:List α} (h:ReadsOf enc d w A n xs) (i:Int) (h0:0≤i) (h1:i<n):∃ad,A=some ad∧w.cell? (ad.add i.toNat)=some (enc (rdOf d xs i)):=by
  obtain⟨ad,e,hc⟩:=h.2.2 (by omega)
  exact⟨ad,e,hc _ (by omega)⟩
theorem ReadsOf.below {w w1:World} {A:Option Addr} {n:Nat} {xs:List α} (h:ReadsOf enc d w A n xs) (hb:Below w.heap.size w w1):ReadsOf enc d w1 A n xs :=
  ⟨h.1,h.2.1,fun hn=>by
    obtain⟨ad,e,hc⟩:=h.2.2 hn
    exact⟨ad,e,fun j hj=>pw_cell_below hb (hc j hj)⟩⟩
theorem own_at_of {W:World} {base g n cap:Nat} {e:TypeId} {xs:List α} (h:W.ownsRow base e 1 (.slice (some ⟨g,0,none⟩) n cap) n (encs enc xs)) (i:Int) (h0:0≤i) (h1:i<n) :
    W.cell? ⟨g,i.toNat,none⟩=some (enc (rdOf d xs i))∧W.frozen? ⟨g,i.toNat,none⟩=false:=by
  have hl:xs.length=n:=by have:=h.1;simp[encs] at this;exact this
  constructor
  · have hc:=h.cells (g:=g) rfl i.toNat _ (encs_get (d:=d) xs i.toNat (by omega))
    rwa [add_plain] at hc
  · rcases h.2 with ⟨h',_⟩|⟨g',cap',cur,h',_,hh,_⟩
    · cases h'
    · have:g=g':=by injection h' with h';injection h' with h';injection h' with h'
      subst this
      simp[World.frozen?,hh]
theorem own_store_of {W:World} {base g n cap:Nat} {e:TypeId} {xs:List α} (h:W.ownsRow base e 1 (.slice (some ⟨g,0,none⟩) n cap) n (encs enc xs)) (i:Int) (x:α) :
    (W.setCell ⟨g,i.toNat,none⟩ (enc x)).ownsRow base e 1 (.slice (some ⟨g,0,none⟩) n cap) n (encs enc (xs.set i.toNat x))∧W.grownBy (W.setCell ⟨g,i.toNat,none⟩ (enc x)) (some g):=by
  have hs:=h.stored i.toNat (enc x)
  have he:(encs enc xs).set i.toNat (enc x)=encs enc (xs.set i.toNat x):=by simp[encs,List.map_set]
  rwa [he] at hs
end
section
variable {α:Type} {P:Program} {ops:Array Oper} {rest:List Oper} {o:Oper} {a:Act} {Q:Exit→Act→World→Prop}
end
theorem ai_ {w:World} {g:Nat} {o:Obj} (h:w.heap[g]? = some o):w.drew.heap[g]? = some o:=h
theorem blk_below {w w1:World} {g:Nat} {o:Obj} (h:w.heap[g]? = some o) (hb:Below w.heap.size w w1):w1.heap[g]? = some o:=(hb.block g (blk_lt h)).trans h
theorem blk_new (w:World) (o:Obj):(w.alloc o).heap[w.heap.size]? = some o:=heap_alloc_new w o
section
variable {P:Program}
theorem results_ct {fn:Func} {p u:Tmp} {ty:TypeId} (h:fn.results=#[.cell p ty,.tmp u]) (tmps:Array Value) (w:World) (g:Nat) (t:TypeId) (cs:Array Value) (fr:Nat × Nat) (d:TypeDesc)
    (hp:tmps.getD p undef=.pointer (some ⟨g,0,none⟩)) (hg:w.heap[g]? = some (.cells cs t fr))
    (hu:P.underlying ty=some d) (hd:(match d with | .struct _ | .array _ _=>true|_=>false)=true) (hi:(P.info? ty).map (·.size)=some cs.size) :
    (results fn tmps).run P w=.ok (.tuple #[.agg cs,tmps.getD u undef]) w:=by
  have hp':tmps[p]?.getD undef=.pointer (some ⟨g,0,none⟩):=by simpa using hp
  simp[results,h,hp',asAddr,run_loadVar_row w g t ty cs fr d hg hu hd hi]
theorem results_ctt {fn:Func} {p u v:Tmp} {ty:TypeId} (h:fn.results=#[.cell p ty,.tmp u,.tmp v]) (tmps:Array Value) (w:World) (g:Nat) (t:TypeId) (cs:Array Value) (fr:Nat × Nat) (d:TypeDesc)
    (hp:tmps.getD p undef=.pointer (some ⟨g,0,none⟩)) (hg:w.heap[g]? = some (.cells cs t fr))
    (hu:P.underlying ty=some d) (hd:(match d with | .struct _ | .array _ _=>true|_=>false)=true) (hi:(P.info? ty).map (·.size)=some cs.size) :
    (results fn tmps).run P w=.ok (.tuple #[.agg cs,tmps.getD u undef,tmps.getD v undef]) w:=by
  have hp':tmps[p]?.getD undef=.pointer (some ⟨g,0,none⟩):=by simpa using hp
  simp[results,h,hp',asAddr,run_loadVar_row w g t ty cs fr d hg hu hd hi]
end
theorem own_le {w:World} {base n m c size:Nat} {e:TypeId} {A:Option Addr} {xs:List Value} (h:w.ownsRow base e size (.slice A m c) n xs):m≤c:=by
  rcases h.2 with ⟨he,_⟩|⟨g,cap,cur,he,_,_,hnc,_⟩
  · injection he with _ h2 h3
    omega
  · injection he with _ h2 h3
    omega
def OwnRow {α:Type} (R:α→List Value→Prop) (e:TypeId) (size:Nat) (w:World) (base:Nat) (v:Value) (ps:List α):Prop :=
  ∃inner,w.ownsRow base e size v ps.length inner∧Reps R size ps inner
section
variable {α:Type} {R R':α→List Value→Prop} {e:TypeId} {size:Nat} {w w1:World} {base:Nat} {v:Value} {ps:List α}
theorem OwnRow.none_ (R:α→List Value→Prop) (e:TypeId) (size:Nat) (w:World) (base:Nat):OwnRow R e size w base (.slice none 0 0) []:=⟨[],own_nil _ _ _ _,Reps.none _ _⟩
theorem OwnRow.imp_ (h:OwnRow R e size w base v ps) (hR:∀p c,R p c→R' p c):OwnRow R' e size w base v ps:=by
  obtain⟨inner,ho,hr⟩:=h
  exact⟨inner,ho,hr.imp_ hR⟩
theorem OwnRow.below (h:OwnRow R e size w base v ps) (hb:Below w.heap.size w w1):OwnRow R e size w1 base v ps:=by
  obtain⟨inner,ho,hr⟩:=h
  exact⟨inner,pw_own_below ho hb,hr⟩
theorem OwnRow.reads (h:OwnRow R e size w base v ps):∃A c,v=.slice A ps.length c∧ps.length≤c∧ReadsRow R size w A ps.length ps:=by
  obtain⟨inner,ho,hr⟩:=h
  obtain⟨A,c,rfl,hrow⟩:=own_reads_row ho hr rfl
  exact⟨A,c,rfl,own_le ho,hrow⟩
theorem OwnRow.ne_block (h:OwnRow R e size w base v ps) {g:Nat} {t:TypeId} {cells:Array Value} (hb:w.heap[g]? = some (.cells cells t (0,0))) (ht:e≠t):some g≠v.ownBlock:=by
  obtain⟨inner,ho,hr⟩:=h
  exact own_ne ho hb ht
end
section
variable {P:Program} {ops:Array Oper} {rest:List Oper} {o:Oper} {a:Act} {Q:Exit→Act→World→Prop} {α:Type} {R:α→List Value→Prop}
end
section
variable {P:Program} {ops:Array Oper} {o:Oper} {a:Act} {Q:Exit→Act→World→Prop} {K:Act→World→Prop} {α:Type} {R:α→List Value→Prop}
end
theorem ReadsRow.inner_ {α:Type} {R:α→List Value→Prop} {size:Nat} {w:World} {ad:Addr} {n:Nat} {ps:List α} (h:ReadsRow R size w (some ad) n ps) :
    ∃inner,Reps R size ps inner∧∀j u,inner[j]? = some u→w.cell? (ad.add j)=some u:=by
  have key:∀m,m≤ps.length→∃inner,Reps R size (ps.take m) inner∧∀j u,inner[j]? = some u→w.cell? (ad.add j)=some u:=by
    intro m
    induction m with
    | zero=>exact fun _=>⟨[],Reps.none _ _,fun j u hu=>by simp at hu⟩
    | succ m ih =>
      intro hm
      obtain⟨inner,hr,hc⟩:=ih (by omega)
      obtain⟨ad',he,hcell⟩:=h.2.2 (by have:=h.1;omega)
      injection he with he
      subst he
      obtain⟨c,hcl,hp,hcc⟩:=hcell m _ (List.getElem?_eq_getElem (show m<ps.length by omega))
      refine⟨inner++c,?_,fun j u hu=>?_⟩
      · rw[List.take_succ_eq_append_getElem (show m<ps.length by omega)]
        exact hr.snoc hp hcl
      · have hil:inner.length=m * size:=by rw[hr.1,List.length_take,Nat.min_eq_left (by omega)]
        rcases Nat.lt_or_ge j inner.length with hj|hj
        · rw[List.getElem?_append_left hj] at hu
          exact hc j u hu
        · rw[List.getElem?_append_right hj] at hu
          have:=hcc (j - inner.length) u hu
          rwa [hil,Nat.add_sub_cancel' (by omega)] at this
  obtain⟨inner,hr,hc⟩:=key ps.length (Nat.le_refl _)
  rw[List.take_length] at hr
  exact⟨inner,hr,hc⟩
section
variable {α:Type} {P:Program}
end
section
variable {P:Program} {ops:Array Oper} {rest:List Oper} {o:Oper} {a:Act} {Q:Exit→Act→World→Prop}
end
structure Kd (α:Type) where
  sz:Nat
  E:List Nat
  K:World→α→List Value→Prop
  M:World→Nat→(Nat→Prop)→α→List Value→Prop
  K_len:∀{w x cs},K w x cs→cs.length=sz
  K_one:∀{w x cs},K w x cs→∀u∈cs,u.oneCell'=true
  K_below:∀{w w1:World} {x cs},Below w.heap.size w w1→K w x cs→K w1 x cs
  K_of_M:∀{w base ok x cs},M w base ok x cs→K w x cs
  M_mono:∀{w base ok ok' x cs},(∀k,ok k→ok' k)→M w base ok x cs→M w base ok' x cs
  M_bound:∀{w:World} {base ok x cs},M w base ok x cs→M w base (fun k=>ok k∧base≤k∧k<w.heap.size∧∃q,q∈E∧∃cells,w.heap[k]? = some (.cells cells q (0,0))) x cs
  M_move:∀{w w1:World} {base ok x cs},(∀k,ok k→w1.heap[k]? = w.heap[k]?)→M w base ok x cs→M w1 base ok x cs
  M_lower:∀{w base base' ok x cs},base'≤base→M w base ok x cs→M w base' ok x cs
theorem own_move {w w1:World} {base:Nat} {e:TypeId} {size n:Nat} {v:Value} {xs:List Value} (h:w.ownsRow base e size v n xs) (hm:∀k,v.ownBlock=some k→w1.heap[k]? = w.heap[k]?):w1.ownsRow base e size v n xs:=by
  obtain⟨h1,h2⟩:=h
  refine⟨h1,?_⟩
  rcases h2 with h2|⟨g,cap,cur,rfl,hg,hh,r⟩
  · exact .inl h2
  · exact .inr ⟨g,cap,cur,rfl,hg,(hm g (by simp[Value.ownBlock])).trans hh,r⟩
theorem own_typed {w:World} {base:Nat} {e:TypeId} {size n:Nat} {v:Value} {xs:List Value} (h:w.ownsRow base e size v n xs) (k:Nat) (hk:v.ownBlock=some k):∃cells,w.heap[k]? = some (.cells cells e (0,0)):=by
  rcases h.2 with ⟨rfl,_⟩|⟨g,cap,cur,rfl,hg,hh,r⟩
  · simp[Value.ownBlock] at hk
  · have:g=k:=by simpa[Value.ownBlock] using hk
    subst this
    exact⟨cur,hh⟩
namespace Kd
def C {α:Type} (d:Kd α) (w:World) (A:Option Addr) (n:Nat) (xs:List α):Prop:=ReadsRow (d.K w) d.sz w A n xs
def R {α:Type} (d:Kd α) (e:Nat) (w:World) (base:Nat) (ok:Nat→Prop) (v:Value) (xs:List α):Prop :=
  (∀k,v.ownBlock=some k→ok k)∧OwnRow (d.M w base (fun k=>ok k∧some k≠v.ownBlock)) e d.sz w base v xs
section
variable {α:Type} {d:Kd α} {e:Nat} {w w1:World} {base:Nat} {ok ok':Nat→Prop} {v:Value} {xs:List α}
theorem ae_ {A:Option Addr} {n:Nat} (h:d.C w A n xs) (hb:Below w.heap.size w w1):d.C w1 A n xs:=ReadsRow.imp_ h hb (fun _ _ hp=>d.K_below hb hp)
theorem R_nil (d:Kd α) (e:Nat) (w:World) (base:Nat) (ok:Nat→Prop):d.R e w base ok (.slice none 0 0) []:=⟨fun k hk=>by simp[Value.ownBlock] at hk,OwnRow.none_ _ _ _ _ _⟩
theorem aM_ (h:d.R e w base ok v xs) (hok:∀k,ok k→ok' k):d.R e w base ok' v xs:=⟨fun k hk=>hok k (h.1 k hk),h.2.imp_ (fun _ _ hp=>d.M_mono (fun k hk=>⟨hok k hk.1,hk.2⟩) hp)⟩
theorem R_bound (h:d.R e w base ok v xs):d.R e w base (fun k=>ok k∧base≤k∧k<w.heap.size∧∃q,q∈e::d.E∧∃cells,w.heap[k]? = some (.cells cells q (0,0))) v xs:=by
  obtain⟨h0,inner,ho,hr⟩:=h
  refine⟨fun k hk=>?_,inner,ho,hr.imp_ (fun _ _ hp=>d.M_mono (fun k hk=>?_) (d.M_bound hp))⟩
  · obtain⟨cells,hc⟩:=own_typed ho k hk
    exact⟨h0 k hk,own_base ho k hk,own_lt ho k hk,e,List.mem_cons_self,cells,hc⟩
  · obtain⟨⟨h1,h2⟩,h3,h4,q,hq,hc⟩:=hk
    exact⟨⟨h1,h3,h4,q,List.mem_cons_of_mem _ hq,hc⟩,h2⟩
theorem R_move (h:d.R e w base ok v xs) (hm:∀k,ok k→w1.heap[k]? = w.heap[k]?):d.R e w1 base ok v xs:=by
  obtain⟨h0,inner,ho,hr⟩:=h
  exact⟨h0,inner,own_move ho (fun k hk=>hm k (h0 k hk)),hr.imp_ (fun _ _ hp=>d.M_move (fun k hk=>hm k hk.1) hp)⟩
theorem R_lower {base':Nat} (h:d.R e w base ok v xs) (hb:base'≤base):d.R e w base' ok v xs:=by
  obtain⟨h0,inner,ho,hr⟩:=h
  exact⟨h0,inner,own_weaken ho hb,hr.imp_ (fun _ _ hp=>d.M_lower hb hp)⟩
theorem R_step (h:d.R e w base ok v xs) (hm:∀k,ok k→k<w.heap.size→w1.heap[k]? = w.heap[k]?):d.R e w1 base ok v xs :=
  aM_ (R_move (R_bound h) (fun k hk=>hm k hk.1 hk.2.2.1)) (fun _ hk=>hk.1)
theorem M_step {x:α} {cs:List Value} (h:d.M w base ok x cs) (hm:∀k,ok k→k<w.heap.size→w1.heap[k]? = w.heap[k]?):d.M w1 base ok x cs :=
  d.M_mono (fun _ hk=>hk.1) (d.M_move (fun k hk=>hm k hk.1 hk.2.2.1) (d.M_bound h))
theorem cn_ (h:d.R e w base ok v xs) (hb:Below w.heap.size w w1):d.R e w1 base ok v xs:=R_step h (fun k _ hk=>hb.block k hk)
theorem M_below {x:α} {cs:List Value} (h:d.M w base ok x cs) (hb:Below w.heap.size w w1):d.M w1 base ok x cs:=M_step h (fun k _ hk=>hb.block k hk)
theorem a6_ (h:d.R e w base ok v xs) {p:Addr} (hok:∀k,ok k→k≠p.block) (u:Value):d.R e (w.setCell p u) base ok v xs:=R_step h (fun k ho _=>Below.heap_setCell w p u k (hok k ho))
theorem bS_ (h:d.R e w base ok v xs) {g t:Nat} {cells:Array Value} (hb:w.heap[g]? = some (.cells cells t (0,0))) (ht:∀q,q∈e::d.E→q≠t):d.R e w base (fun k=>ok k∧k≠g) v xs :=
  aM_ (R_bound h) (fun k hk=>⟨hk.1,by
    obtain⟨_,_,_,q,hq,cells',hc⟩:=hk
    rintro rfl
    rw[hc] at hb
    injection hb with hb
    injection hb with _ hb
    exact ht q hq hb⟩)
theorem R_reads (h:d.R e w base ok v xs):∃A c,v=.slice A xs.length c∧xs.length≤c∧d.C w A xs.length xs:=by
  obtain⟨A,c,he,hl,hr⟩:=OwnRow.reads h.2
  exact⟨A,c,he,hl,hr.imp_ (Below.refl _ _) (fun _ _ hp=>d.K_of_M hp)⟩
theorem ap_ (h:d.R e w base ok v xs):∃A c,v=.slice A xs.length c:=by
  obtain⟨A,c,he,_⟩:=R_reads h
  exact⟨A,c,he⟩
theorem R_own (h:d.R e w base ok v xs):∃inner,w.ownsRow base e d.sz v xs.length inner:=by
  obtain⟨_,inner,ho,_⟩:=h
  exact⟨inner,ho⟩
theorem R_ne (h:d.R e w base ok v xs) {g t:Nat} {cells:Array Value} (hb:w.heap[g]? = some (.cells cells t (0,0))) (ht:e≠t):some g≠v.ownBlock:=OwnRow.ne_block h.2 hb ht
end
def scalar {α:Type} (enc:α→Value) (h1:∀x,(enc x).oneCell'=true):Kd α where
  sz:=1
  E:=[]
  K:=fun _ x cs=>cs=[enc x]
  M:=fun _ _ _ x cs=>cs=[enc x]
  K_len:=fun h=>by rw[h];rfl
  K_one:=fun h u hu=>by
    rw[h] at hu
    rw[List.mem_singleton.1 hu]
    exact h1 _
  K_below:=fun _ h=>h
  K_of_M:=fun h=>h
  M_mono:=fun _ h=>h
  M_bound:=fun h=>h
  M_move:=fun _ h=>h
  M_lower:=fun _ h=>h
def int (k:IntKind):Kd Int:=scalar (Value.int k) (fun _=>rfl)
def bool:Kd Bool:=scalar Value.bool (fun _=>rfl)
def string:Kd ByteArray:=scalar Value.string (fun _=>rfl)
def slice {α:Type} (e:Nat) (d:Kd α):Kd (List α) where
  sz:=1
  E:=e::d.E
  K:=fun w xs cs=>∃A c,cs=[.slice A xs.length c]∧xs.length≤c∧d.C w A xs.length xs
  M:=fun w base ok xs cs=>∃v,cs=[v]∧d.R e w base ok v xs
  K_len:=by
    rintro w x cs ⟨A,c,rfl,_⟩
    rfl
  K_one:=by
    rintro w x cs ⟨A,c,rfl,_⟩ u hu
    rw[List.mem_singleton.1 hu]
    rfl
  K_below:=by
    rintro w w1 x cs hb ⟨A,c,rfl,hl,hr⟩
    exact⟨A,c,rfl,hl,ae_ hr hb⟩
  K_of_M:=by
    rintro w base ok x cs ⟨v,rfl,h⟩
    obtain⟨A,c,rfl,hl,hr⟩:=R_reads h
    exact⟨A,c,rfl,hl,hr⟩
  M_mono:=by
    rintro w base ok ok' x cs hok ⟨v,rfl,h⟩
    exact⟨v,rfl,aM_ h hok⟩
  M_bound:=by
    rintro w base ok x cs ⟨v,rfl,h⟩
    exact⟨v,rfl,R_bound h⟩
  M_move:=by
    rintro w w1 base ok x cs hm ⟨v,rfl,h⟩
    exact⟨v,rfl,R_move h hm⟩
  M_lower:=by
    rintro w base base' ok x cs hb ⟨v,rfl,h⟩
    exact⟨v,rfl,R_lower h hb⟩
def pair {α β:Type} (a:Kd α) (b:Kd β):Kd (α × β) where
  sz:=a.sz+b.sz
  E:=a.E++b.E
  K:=fun w x cs=>∃c0 c1,cs=c0++c1∧a.K w x.1 c0∧b.K w x.2 c1
  M:=fun w base ok x cs=>∃c0 c1,cs=c0++c1∧a.M w base ok x.1 c0∧b.M w base ok x.2 c1
  K_len:=by
    rintro w x cs ⟨c0,c1,rfl,h0,h1⟩
    rw[List.length_append,a.K_len h0,b.K_len h1]
  K_one:=by
    rintro w x cs ⟨c0,c1,rfl,h0,h1⟩ u hu
    rcases List.mem_append.1 hu with hu|hu
    · exact a.K_one h0 u hu
    · exact b.K_one h1 u hu
  K_below:=by
    rintro w w1 x cs hb ⟨c0,c1,rfl,h0,h1⟩
    exact⟨c0,c1,rfl,a.K_below hb h0,b.K_below hb h1⟩
  K_of_M:=by
    rintro w base ok x cs ⟨c0,c1,rfl,h0,h1⟩
    exact⟨c0,c1,rfl,a.K_of_M h0,b.K_of_M h1⟩
  M_mono:=by
    rintro w base ok ok' x cs hok ⟨c0,c1,rfl,h0,h1⟩
    exact⟨c0,c1,rfl,a.M_mono hok h0,b.M_mono hok h1⟩
  M_bound:=by
    rintro w base ok x cs ⟨c0,c1,rfl,h0,h1⟩
    refine⟨c0,c1,rfl,a.M_mono ?_ (a.M_bound h0),b.M_mono ?_ (b.M_bound h1)⟩
    · rintro k ⟨h2,h3,h4,q,hq,hc⟩
      exact⟨h2,h3,h4,q,List.mem_append_left _ hq,hc⟩
    · rintro k ⟨h2,h3,h4,q,hq,hc⟩
      exact⟨h2,h3,h4,q,List.mem_append_right _ hq,hc⟩
  M_move:=by
    rintro w w1 base ok x cs hm ⟨c0,c1,rfl,h0,h1⟩
    exact⟨c0,c1,rfl,a.M_move hm h0,b.M_move hm h1⟩
  M_lower:=by
    rintro w base base' ok x cs hb ⟨c0,c1,rfl,h0,h1⟩
    exact⟨c0,c1,rfl,a.M_lower hb h0,b.M_lower hb h1⟩
def iso {α β:Type} (d:Kd α) (f:β→α):Kd β where
  sz:=d.sz
  E:=d.E
  K:=fun w x cs=>d.K w (f x) cs
  M:=fun w base ok x cs=>d.M w base ok (f x) cs
  K_len:=d.K_len
  K_one:=d.K_one
  K_below:=d.K_below
  K_of_M:=d.K_of_M
  M_mono:=d.M_mono
  M_bound:=d.M_bound
  M_move:=d.M_move
  M_lower:=d.M_lower
def bot {α:Type} (sz:Nat) (E:List Nat):Kd α where
  sz:=sz
  E:=E
  K:=fun _ _ _=>False
  M:=fun _ _ _ _ _=>False
  K_len:=fun h=>h.elim
  K_one:=fun h=>h.elim
  K_below:=fun _ h=>h
  K_of_M:=fun h=>h
  M_mono:=fun _ h=>h
  M_bound:=fun h=>h
  M_move:=fun _ h=>h
  M_lower:=fun _ h=>h
def upto {α:Type} (F:Kd α→Kd α) (sz:Nat) (E:List Nat):Nat→Kd α
  | 0=>bot sz E
  | n+1=>F (upto F sz E n)
theorem C_get {α:Type} {d:Kd α} {w:World} {A:Option Addr} {n:Nat} {xs:List α} (h:d.C w A n xs) (z:α) (i:Int) (h0:0≤i) (h1:i<n) :
    ∃ad c,A=some ad∧c.length=d.sz∧d.K w (xs.getD i.toNat z) c∧∀j u,c[j]? = some u→w.cell? (ad.add (i.toNat * d.sz+j))=some u:=ReadsRow.get_ h z i h0 h1
theorem R_appended {α:Type} {d:Kd α} {e base:Nat} {ok okp:Nat→Prop} {W w1:World} {v v1:Value} {xs:List α} {p:α} {inner cs:List Value} (h0:∀k,v.ownBlock=some k→ok k) (hr:Reps (d.M W base (fun k=>ok k∧some k≠v.ownBlock)) d.sz xs inner) (hp:d.M W base okp p cs) (hokp:∀k,okp k→ok k∧some k≠v.ownBlock) (hfresh:∀k,W.heap.size≤k→ok k)
    (hown:w1.ownsRow base e d.sz v1 (xs.length+1) (inner++cs)) (hg:W.grownBy w1 v.ownBlock) (hat:v1.ownBlock=v.ownBlock∨∃b,v1.ownBlock=some b∧W.heap.size≤b):d.R e w1 base ok v1 (xs++[p]):=by
  have hne:∀k,some k≠v.ownBlock→k<W.heap.size→some k≠v1.ownBlock:=by
    intro k hk hlt
    rcases hat with hat|⟨b,hb,hle⟩
    · rw[hat];exact hk
    · rw[hb]
      intro he
      injection he with he
      omega
  have step:∀{q:α} {c:List Value} {o:Nat→Prop},d.M W base o q c→(∀k,o k→ok k∧some k≠v.ownBlock)→d.M w1 base (fun k=>ok k∧some k≠v1.ownBlock) q c:=by
    intro q c o hq ho
    have h1:=d.M_move (w1:=w1) (fun k hk=>hg.block k hk.2.2.1 (ho k hk.1).2) (d.M_bound hq)
    exact d.M_mono (fun k hk=>⟨(ho k hk.1).1,hne k (ho k hk.1).2 hk.2.2.1⟩) h1
  refine⟨fun k hk=>?_,inner++cs,by rw[List.length_append,List.length_singleton];exact hown,?_⟩
  · rcases hat with hat|⟨b,hb,hle⟩
    · exact h0 k (hat ▸ hk)
    · rw[hb] at hk
      injection hk with hk
      exact hfresh k (by omega)
  · exact(hr.imp_ (fun _ _ hq=>step hq (fun _ hk=>hk))).snoc (step hp hokp) (d.K_len (d.K_of_M hp))
section
variable {P:Program} {ops:Array Oper} {rest:List Oper} {o:Oper} {a:Act} {Q:Exit→Act→World→Prop} {α:Type}
theorem R_append (d:Kd α) {w0 W:World} (base:Nat) (hgd:o.guard=none) (s x:Operand) (t e:TypeId) (z:Value) (bytes:Nat)
    (ho:o.op=.call { callee:=.builtin .append,args:=#[s,x],argTypes:=#[t,t] })
    (ht:P.underlying t=some (.slice e)) (hinfo:(P.info? e).map (fun i=>(i.zero,i.size,i.bytes))=some (some z,d.sz,bytes)) (hz:z.cells.size=d.sz) (hs0:0<d.sz) (hb0:0<bytes)
    (v:Value) (xs:List α) (p:α) (cs:List Value) (ok okp:Nat→Prop) (hs:a.eval s=v) (hx:a.eval x=.slice (some ⟨W.heap.size,0,none⟩) 1 1) (hp:d.M W base okp p cs) (hokp:∀k,okp k→ok k∧some k≠v.ownBlock) (hfresh:∀k,W.heap.size≤k→ok k)
    (HO:d.R e W base ok v xs) (HB:Below base w0 W) (hbase:base≤W.heap.size) (hl:(xs.length+1) * bytes≤140737488355328)
    (h:∀v1 w1,d.R e w1 base ok v1 (xs++[p])→Below base w0 w1→W.grownBy w1 v.ownBlock→(v1.ownBlock=v.ownBlock∨∃b,v1.ownBlock=some b∧W.heap.size≤b)→wpList P ops Q rest (a.put o.dst v1) w1) :
    wpList P ops Q (o::rest) a (W.alloc (.cells cs.toArray e)):=by
  obtain⟨h0,inner,hown,hr⟩:=HO
  refine print_append_cells base hgd s x t e z d.sz bytes ho ht hinfo hz hs0 hb0 v xs.length inner cs hs hx (d.K_len (d.K_of_M hp)) (d.K_one (d.K_of_M hp)) hown HB hbase hl ?_
  intro v1 w1 hown1 hb1 hg1 hat1
  exact h v1 w1 (R_appended h0 hr hp hokp hfresh hown1 hg1 hat1) hb1 hg1 hat1
end
section
variable {P:Program} {ops:Array Oper} {o:Oper} {a:Act} {Q:Exit→Act→World→Prop} {Kc:Act→World→Prop} {α:Type}
end
theorem reps_scalar {α:Type} {enc:α→Value} (xs:List α):Reps (fun(x:α) (cs:List Value)=>cs=[enc x]) 1 xs (encs enc xs):=by
  refine⟨by simp[encs],fun j p hj=>?_⟩
  obtain⟨hl,hp⟩:=List.getElem?_eq_some_iff.1 hj
  have hl':j<(encs enc xs).length:=by rw[encs_length];exact hl
  rw[Nat.mul_one,List.drop_eq_getElem_cons hl']
  simp[encs,hp]
theorem R_of_own {α:Type} {enc:α→Value} {h1:∀x,(enc x).oneCell'=true} {e:Nat} {w:World} {base:Nat} {ok:Nat→Prop} {v:Value} {xs:List α} (ho:w.ownsRow base e 1 v xs.length (encs enc xs)) (hok:∀k,v.ownBlock=some k→ok k):(scalar enc h1).R e w base ok v xs:=⟨hok,encs enc xs,ho,reps_scalar xs⟩
theorem own_of_R {α:Type} {enc:α→Value} {h1:∀x,(enc x).oneCell'=true} {e:Nat} {w:World} {base:Nat} {ok:Nat→Prop} {v:Value} {xs:List α} (h:(scalar enc h1).R e w base ok v xs):w.ownsRow base e 1 v xs.length (encs enc xs):=by
  obtain⟨_,inner,ho,hr⟩:=h
  have:inner=encs enc xs:=by
    apply List.ext_getElem?
    intro j
    rcases Nat.lt_or_ge j xs.length with hj|hj
    · have h2:=hr.2 j _ (List.getElem?_eq_getElem hj)
      have hl:j<inner.length:=by have:=hr.1;simp[scalar] at this;omega
      have h3:(inner.drop (j * 1)).take 1=[enc xs[j]]:=h2
      rw[Nat.mul_one,List.drop_eq_getElem_cons hl] at h3
      have h4:inner[j]=enc xs[j]:=by
        have h5:=congrArg List.head? h3
        rw[List.take_succ_cons] at h5
        exact Option.some.inj h5
      rw[List.getElem?_eq_getElem hl,h4]
      simp[encs,List.getElem?_eq_getElem hj]
    · have h3:inner.length=xs.length:=by have:=hr.1;simp[scalar] at this;omega
      rw[List.getElem?_eq_none (by omega),List.getElem?_eq_none (by rw[encs_length];omega)]
  rw[←this]
  exact ho
theorem C_of_reads {α:Type} {enc:α→Value} {d:α} {h1:∀x,(enc x).oneCell'=true} {w:World} {A:Option Addr} {n:Nat} {xs:List α} (h:ReadsOf enc d w A n xs):(scalar enc h1).C w A n xs:=by
  refine⟨h.1,h.2.1,fun hn=>?_⟩
  obtain⟨ad,e,hc⟩:=h.2.2 hn
  refine⟨ad,e,fun j p hj=>⟨[enc p],rfl,rfl,fun i u hu=>?_⟩⟩
  obtain⟨hl,hp⟩:=List.getElem?_eq_some_iff.1 hj
  have h2:=hc j (by have:=h.1;omega)
  rw[List.getD_eq_getElem?_getD,hj] at h2
  cases i with
  | zero =>
    have:enc p=u:=by simpa using hu
    subst this
    simpa[scalar] using h2
  | succ i=>simp at hu
theorem reads_of_C {α:Type} {enc:α→Value} {d:α} {h1:∀x,(enc x).oneCell'=true} {w:World} {A:Option Addr} {n:Nat} {xs:List α} (h:(scalar enc h1).C w A n xs):ReadsOf enc d w A n xs:=by
  refine⟨h.1,h.2.1,fun hn=>?_⟩
  obtain⟨ad,e,hc⟩:=h.2.2 hn
  refine⟨ad,e,fun j hj=>?_⟩
  have hl:j<xs.length:=by have:=h.1;omega
  obtain⟨c,_,hK,hcell⟩:=hc j _ (List.getElem?_eq_getElem hl)
  have hK':c=[enc xs[j]]:=hK
  subst hK'
  have:=hcell 0 _ rfl
  simpa[scalar,List.getD_eq_getElem?_getD,List.getElem?_eq_getElem hl] using this
end Kd
namespace Kd
section
variable {α:Type} {F:Kd α→Kd α} {sz:Nat} {E:List Nat} {hs:∀n,(upto F sz E n).sz=sz} {hE:∀n q,q∈(upto F sz E n).E→q∈E}
end
end Kd
namespace Kd
theorem R_after {α:Type} {d:Kd α} {e base:Nat} {ok:Nat→Prop} {W w1:World} {u v v1:Value} {xs:List α} (h:d.R e W base (fun k=>ok k∧some k≠v.ownBlock) u xs) (hg:W.grownBy w1 v.ownBlock) (hat:v1.ownBlock=v.ownBlock∨∃b,v1.ownBlock=some b∧W.heap.size≤b):d.R e w1 base (fun k=>ok k∧some k≠v1.ownBlock) u xs:=by
  refine aM_ (R_move (R_bound h) (fun k hk=>hg.block k hk.2.2.1 hk.1.2)) (fun k hk=>⟨hk.1.1,?_⟩)
  rcases hat with hat|⟨b,hb,hle⟩
  · rw[hat];exact hk.1.2
  · rw[hb]
    intro he
    injection he with he
    have:=hk.2.2.1
    omega
theorem R_apart_nil {α:Type} {d:Kd α} {e base:Nat} {ok:Nat→Prop} {w:World} {u:Value} {xs:List α} (h:d.R e w base ok u xs):d.R e w base (fun k=>ok k∧some k≠(Value.slice none 0 0).ownBlock) u xs:=aM_ h (fun k hk=>⟨hk,by simp[Value.ownBlock]⟩)
end Kd
namespace Kd
section
variable {α β:Type} {d:Kd α} {d':Kd β} {e e':Nat} {w w1 W:World} {base b b':Nat} {ok ok' okv oku:Nat→Prop} {v u:Value} {xs:List α} {ys:List β}
theorem bC_ (h:d.R e w base ok v xs):d.R e w.drew base ok v xs:=cn_ h (below_drew (Below.refl _ _))
theorem ag_ {A:Option Addr} {n c:Nat} (h:d.R e w base ok (.slice A n c) xs):n=xs.length∧n≤c∧d.C w A xs.length xs:=by
  obtain⟨A',c',he,hl,hr⟩:=R_reads h
  injection he with h1 h2 h3
  subst h1
  exact⟨h2,by omega,hr⟩
theorem R_lt (h:d.R e w base ok v xs):∀k,v.ownBlock=some k→k<w.heap.size:=by
  obtain⟨inner,ho⟩:=R_own h
  exact own_lt ho
theorem cD_ (h:d.R e w base ok v xs):∀k,v.ownBlock=some k→base≤k:=by
  obtain⟨inner,ho⟩:=R_own h
  exact own_base ho
theorem R_away (h:d.R e w base ok v xs) {g:Nat} (hok:∀k,ok k→k≠g):some g≠v.ownBlock:=fun e=>hok g (h.1 g e.symm) rfl
theorem R_form (h:d.R e w base ok v xs) (hp:0<xs.length):∃g cap,v=.slice (some ⟨g,0,none⟩) xs.length cap∧base≤g∧g<w.heap.size∧∃cells,w.heap[g]? = some (.cells cells e (0,0)):=by
  obtain⟨inner,ho⟩:=R_own h
  obtain⟨g,cap,he,hb,hl⟩:=ho.form hp
  obtain⟨cells,hc⟩:=own_typed ho g (by rw[he];simp[Value.ownBlock])
  exact⟨g,cap,he,hb,hl,cells,hc⟩
end
section
variable {w W:World} {A:Option Addr} {n:Nat}
theorem at_int {k:IntKind} {xs:List Int} (h:(Kd.int k).C w A n xs) (i:Int) (h0:0≤i) (h1:i<n):∃ad,A=some ad∧w.cell? (ad.add i.toNat)=some (.int k (rd xs i)) :=
  ReadsOf.at_ (reads_of_C (enc:=Value.int k) (d:=(0:Int)) (h1:=fun _=>rfl) h) i h0 h1
theorem bB_ {xs:List ByteArray} (h:Kd.string.C w A n xs) (i:Int) (h0:0≤i) (h1:i<n):∃ad,A=some ad∧w.cell? (ad.add i.toNat)=some (.string (rdOf ByteArray.empty xs i)) :=
  ReadsOf.at_ (reads_of_C (enc:=Value.string) (d:=ByteArray.empty) (h1:=fun _=>rfl) h) i h0 h1
variable {α:Type} {enc:α→Value} {h1:∀x,(enc x).oneCell'=true} {e base g cap:Nat} {ok:Nat→Prop} {xs:List α}
theorem R_cell (d:α) (h:(scalar enc h1).R e W base ok (.slice (some ⟨g,0,none⟩) xs.length cap) xs) (i:Int) (h0:0≤i) (hi:i<xs.length):W.cell? ⟨g,i.toNat,none⟩=some (enc (rdOf d xs i))∧W.frozen? ⟨g,i.toNat,none⟩=false:=own_at_of (own_of_R h) i h0 hi
theorem R_put (h:(scalar enc h1).R e W base ok (.slice (some ⟨g,0,none⟩) xs.length cap) xs) (i:Int) (x:α):(scalar enc h1).R e (W.setCell ⟨g,i.toNat,none⟩ (enc x)) base ok (.slice (some ⟨g,0,none⟩) xs.length cap) (xs.set i.toNat x)∧W.grownBy (W.setCell ⟨g,i.toNat,none⟩ (enc x)) (some g):=by
  obtain⟨ho,hg⟩:=own_store_of (own_of_R h) i x
  exact⟨R_of_own (by rw[List.length_set];exact ho) h.1,hg⟩
end
section
variable {P:Program} {ops:Array Oper} {rest:List Oper} {o:Oper} {a:Act} {Q:Exit→Act→World→Prop}
theorem event_run {W w1:World} {v:Value} (hgd:o.guard=none) (hrun:(execOp a.eval o).run P W=.ok (.value v) w1) (h:wpList P ops Q rest (a.put o.dst v) w1):wpList P ops Q (o::rest) a W:=by
  refine wpList_plain hgd fun K hK=>?_
  unfold Oper.wp
  rw[hrun]
  exact hK _ _ h
variable {α:Type}
theorem R_lit (d:Kd α) {w0 W:World} (base e:Nat) (hgd:o.guard=none) {N:Tmp} (_hd:o.dst=some N) {xs:List α} {inner:List Value} {ok okp:Nat→Prop}
    (hrun:(execOp a.eval o).run P W=.ok (.value (.slice (some ⟨W.heap.size,0,none⟩) xs.length xs.length)) (W.alloc (.cells inner.toArray e)))
    (hrep:Reps (d.M W base okp) d.sz xs inner) (hok:∀k,okp k→ok k) (hfresh:ok W.heap.size) (HB:Below base w0 W) (hbase:base≤W.heap.size) (hm:xs.length≤9223372036854775807)
    (h:∀v1 w1,d.R e w1 base ok v1 xs→Below base w0 w1→W.grownBy w1 none→(∃b,v1.ownBlock=some b∧W.heap.size≤b)→wpList P ops Q rest (a.put o.dst v1) w1):wpList P ops Q (o::rest) a W:=by
  refine event_run hgd hrun (h _ _ ⟨fun k hk=>?_,inner,?_,?_⟩ (HB.alloc hbase _) (World.grownBy_alloc W _ none) ⟨W.heap.size,by simp[Value.ownBlock],Nat.le_refl _⟩)
  · have:W.heap.size=k:=by simpa[Value.ownBlock] using hk
    subst this
    exact hfresh
  · have h2:=World.ownsRow_lit (base:=base) (e:=e) (size:=d.sz) W inner.toArray xs.length hbase (by simpa[maxLen] using hm) (by simpa using hrep.1)
    simpa using h2
  · refine hrep.imp_ (fun p c hp=>d.M_mono (fun k hk=>⟨hok k hk.1,fun he=>?_⟩) (M_below (d.M_bound hp) (bb_ (Below.refl _ _) _)))
    have h3:k=W.heap.size:=by simpa[Value.ownBlock] using he
    have:=hk.2.2.1
    omega
theorem reps_made {α:Type} {R:α→List Value→Prop} {z:Value} {size:Nat} {z0:α} (hz:z.cells.size=size) (hs:0<size) (h0:R z0 z.cells.toList) (m:Nat):Reps R size (List.replicate m z0) (madeCells z.cells (m * size)).toList:=by
  refine⟨by simp[size_madeCells],fun j p hj=>?_⟩
  obtain⟨hjl,hp⟩:=List.getElem?_eq_some_iff.1 hj
  have hjm:j<m:=by simpa using hjl
  have hp':z0=p:=by simpa using hp
  subst hp'
  have hle:j * size+size≤m * size:=by rw[←Nat.succ_mul];exact Nat.mul_le_mul_right _ hjm
  have:((madeCells z.cells (m * size)).toList.drop (j * size)).take size=z.cells.toList:=by
    apply List.ext_getElem
    · simp[size_madeCells,hz]
      omega
    · intro i h1 h2
      have hi:i<size:=by rw[Array.length_toList,hz] at h2;exact h2
      have hmod:(j * size+i) % size=i:=by
        rw[Nat.mul_comm,Nat.mul_add_mod]
        exact Nat.mod_eq_of_lt hi
      simp[madeCells,hz,hmod]
      rw[getElem!_pos z.cells i (by omega)]
  rw[this]
  exact h0
theorem R_make (d:Kd α) {w0 W:World} (base e:Nat) (hgd:o.guard=none) {N:Tmp} (hd:o.dst=some N) (t:TypeId) (x y:Operand) (ho:o.op=.makeSlice t x y) (n:Int) (hx:a.eval x=.int .i64 n) (hy:a.eval y=.int .i64 n)
    (ht:P.underlying t=some (.slice e)) (z:Value) (bytes:Nat) (hinfo:(P.info? e).map (fun i=>(i.zero,i.size,i.bytes))=some (some z,d.sz,bytes)) (hz:z.cells.size=d.sz) (hs0:0<d.sz) (hb0:0<bytes)
    (z0:α) {ok okp:Nat→Prop} (hzero:d.M W base okp z0 z.cells.toList) (hok:∀k,okp k→ok k) (hfresh:ok W.heap.size) (h0:0≤n) (hl:n.toNat * bytes≤281474976710656) (HB:Below base w0 W) (hbase:base≤W.heap.size)
    (h:∀v1 w1,d.R e w1 base ok v1 (List.replicate n.toNat z0)→Below base w0 w1→W.grownBy w1 none→(∃b,v1.ownBlock=some b∧W.heap.size≤b)→wpList P ops Q rest (a.put o.dst v1) w1):wpList P ops Q (o::rest) a W:=by
  obtain⟨m,rfl⟩:=Int.eq_ofNat_of_zero_le h0
  simp only[Int.toNat_natCast] at hl h
  obtain⟨i0,hi,hzz⟩:=Option.map_eq_some_iff.1 hinfo
  simp only[Prod.mk.injEq] at hzz
  obtain⟨hz0,hz1,hz2⟩:=hzz
  have hm:m≤281474976710656:=Nat.le_trans (Nat.le_mul_of_pos_right _ hb0) hl
  have hr:=run_make (P:=P) W t e i0 z ht hi hz0 .i64 .i64 (m:Int) (m:Int) (by omega) (by omega)
    (by
      have h3:((i0.bytes * m:Nat):Int)≤281474976710656:=by rw[hz2,Nat.mul_comm];omega
      rwa [Int.natCast_mul] at h3) (by omega)
  simp only[Int.toNat_natCast] at hr
  rw[hz1] at hr
  refine R_lit d base e hgd hd (xs:=List.replicate m z0) (inner:=(madeCells z.cells (m * d.sz)).toList) (okp:=okp) (ok:=ok) ?_ (reps_made hz hs0 hzero m) hok hfresh HB hbase (by simp;omega) h
  simp[execOp,ho,hx,hy,hr]
end
end Kd
theorem own_take {w:World} {base n m c size:Nat} {e:TypeId} {A:Option Addr} {xs:List Value} (h:w.ownsRow base e size (.slice A n c) n xs) (hm:m≤n):w.ownsRow base e size (.slice A m c) m (xs.take (m * size)):=by
  obtain⟨h1,h2⟩:=h
  refine⟨by rw[List.length_take,h1];exact Nat.min_eq_left (Nat.mul_le_mul_right _ hm),?_⟩
  rcases h2 with ⟨he,h0⟩|⟨g,cap,cur,he,hb,hh,hnc,hcm,hcs,ht⟩
  · injection he with ha _ hc
    subst ha;subst hc
    exact .inl ⟨by rw[show m=0 by omega],by omega⟩
  · injection he with ha _ hc
    subst ha;subst hc
    refine .inr ⟨g,c,cur,rfl,hb,hh,by omega,hcm,hcs,?_⟩
    rw[←ht,List.take_take,Nat.min_eq_left (Nat.mul_le_mul_right _ hm)]
section
variable {P:Program}
theorem cut_to (t e:TypeId) (kh:IntKind) {i:TypeInfo} (ht:P.underlying t=some (.slice e)) (hi:P.info? e=some i) (A:Option Addr) (n c:Nat) (j:Int) (h0:0≤j) (hm:j≤n) (hc:n≤c) :
    ∀W:World,(Instr.slice t (.slice A n c) none (some (.int kh j)) none).run P W=.ok (.slice A j.toNat c) W:=by
  intro W
  have hel:P.elem t=e:=by simp[Program.elem,ht]
  have hu:P.underlying t=some (.slice (P.elem t)):=by rw[hel];exact ht
  have ha:(A.map fun x=>x.add 0)=A:=by cases A<;>simp[Addr.add]
  rw[run_slice_h W t A n c hu kh j h0 (by omega),hel]
  simp[sizeOf,typeInfo,hi,sliced,Result.andThen,ha]
theorem cut_from (t e:TypeId) (kl:IntKind) {i:TypeInfo} (ht:P.underlying t=some (.slice e)) (hi:P.info? e=some i) (size:Nat) (hsz:i.size=size) (A:Option Addr) (n c:Nat) (j:Int) (h0:0≤j) (hm:j≤n) :
    ∀W:World,(Instr.slice t (.slice A n c) (some (.int kl j)) none none).run P W=.ok (.slice (if c=j.toNat then A else A.map (·.add (j.toNat * size))) (n - j.toNat) (c - j.toNat)) W:=by
  intro W
  have hel:P.elem t=e:=by simp[Program.elem,ht]
  have hu:P.underlying t=some (.slice (P.elem t)):=by rw[hel];exact ht
  rw[run_slice_l W t A n c hu kl j h0 hm,hel]
  simp[sizeOf,typeInfo,hi,hsz,sliced,Result.andThen]
end
def QRow (w:World) (base:Nat) (e:TypeId) (size:Nat) (v:Value) (n:Nat) (xs:List Value):Prop :=
  xs.length=n * size ∧
  ((n=0∧∃A,v=.slice A 0 0∧∀a,A=some a→base≤a.block∧∃cur,w.heap[a.block]? = some (.cells cur e (0,0))) ∨
   ∃g off cap cur,v=.slice (some ⟨g,off * size,none⟩) n cap∧base≤g∧w.heap[g]? = some (.cells cur e (0,0))∧n≤cap∧off+cap≤maxLen∧cur.size=(off+cap) * size∧(cur.toList.drop (off * size)).take (n * size)=xs)
section
variable {w w1:World} {base n size:Nat} {e:TypeId} {v:Value} {xs:List Value}
theorem add_at (g o j:Nat):(⟨g,o,none⟩:Addr).add j=⟨g,o+j,none⟩:=by unfold Addr.add;split<;>simp_all
theorem setCells_far {g:Nat}:∀(vs:List Value) (o:Nat) {w:World} (k:Nat),k≠g→(w.setCells g o vs).heap[k]? = w.heap[k]?
  | [],_,_,_,_=>rfl
  | v::r,o,w,k,hk=>by
    rw[World.setCells,setCells_far r (o+1) k hk]
    exact Below.heap_setCell w ⟨g,o,none⟩ v k hk
theorem setCells_same (g:Nat):∀(vs:List Value) (o:Nat) (w:World),(w.setCells g o vs).os=w.os∧(w.setCells g o vs).tape=w.tape∧(w.setCells g o vs).output=w.output∧(w.setCells g o vs).heap.size=w.heap.size
  | [],_,_=>⟨rfl,rfl,rfl,rfl⟩
  | v::r,o,w=>by
    obtain⟨h1,h2,h3,h4⟩:=setCells_same g r (o+1) (w.setCell ⟨g,o,none⟩ v)
    rw[World.setCells]
    exact⟨h1,h2,h3,by rw[h4];simp[World.setCell]⟩
theorem setCells_row {g:Nat} {e:TypeId}:∀(vs:List Value) (o:Nat) (w:World) (cur:Array Value),w.heap[g]? = some (.cells cur e (0,0))→o+vs.length≤cur.size →
    ∃cur',(w.setCells g o vs).heap[g]? = some (.cells cur' e (0,0))∧cur'.size=cur.size∧cur'.toList=cur.toList.take o++vs++cur.toList.drop (o+vs.length)
  | [],o,w,cur,h,_=>⟨cur,h,rfl,by simp⟩
  | v::r,o,w,cur,h,hl=>by
    have h2:=blk_set h o v
    simp only[List.length_cons] at hl
    obtain⟨cur',h3,h4,h5⟩:=setCells_row r (o+1) (w.setCell ⟨g,o,none⟩ v) _ h2 (by simp;omega)
    refine⟨cur',h3,by rw[h4];simp,?_⟩
    rw[h5,Array.toList_setIfInBounds]
    have ho:o<cur.toList.length:=by rw[Array.length_toList];omega
    rw[List.take_set,List.drop_set_of_lt (by omega)]
    simp only[List.length_cons]
    rw[show o+1+r.length=o+(r.length+1) by omega]
    congr 1
    rw[List.take_succ_eq_append_getElem ho,List.set_append_right _ _ (by rw[List.length_take];omega)]
    have ho':o<cur.size:=by omega
    simp[Nat.min_eq_left (Nat.le_of_lt ho')]
end
section
variable {P:Program}
end
namespace Kd
theorem reps_take {α:Type} {R:α→List Value→Prop} {size m:Nat} {ps:List α} {cs:List Value} (h:Reps R size ps cs) (hm:m≤ps.length):Reps R size (ps.take m) (cs.take (m * size)):=by
  refine⟨by rw[List.length_take,List.length_take,h.1,Nat.min_eq_left hm,Nat.min_eq_left (Nat.mul_le_mul_right _ hm)],fun j p hj=>?_⟩
  rw[List.getElem?_take] at hj
  split at hj
  · rename_i hjm
    have:=h.2 j p hj
    have hle:j * size+size≤m * size:=by rw[←Nat.succ_mul];exact Nat.mul_le_mul_right _ hjm
    rw[List.drop_take,List.take_take,Nat.min_eq_left (by omega)]
    exact this
  · cases hj
theorem reps_drop {α:Type} {R:α→List Value→Prop} {size m:Nat} {ps:List α} {cs:List Value} (h:Reps R size ps cs):Reps R size (ps.drop m) (cs.drop (m * size)):=by
  refine⟨by rw[List.length_drop,List.length_drop,h.1,Nat.sub_mul],fun j p hj=>?_⟩
  rw[List.getElem?_drop] at hj
  have:=h.2 (m+j) p hj
  rw[List.drop_drop,←Nat.add_mul]
  exact this
theorem R_take {α:Type} {d:Kd α} {e m n c:Nat} {w:World} {base:Nat} {ok:Nat→Prop} {A:Option Addr} {xs:List α} (h:d.R e w base ok (.slice A n c) xs) (hm:m≤xs.length):d.R e w base ok (.slice A m c) (xs.take m):=by
  obtain⟨h0,inner,ho,hr⟩:=h
  have hn:n=xs.length:=by
    obtain⟨A',c',he⟩:=own_slice ho
    injection he
  subst hn
  have hb:∀x y:Nat,(Value.slice A x c).ownBlock=(Value.slice A y c).ownBlock:=by
    intro x y
    cases A<;>rfl
  refine⟨fun k hk=>h0 k (by rw[hb _ m];exact hk),inner.take (m * d.sz),?_,?_⟩
  · rw[List.length_take,Nat.min_eq_left hm]
    exact own_take ho hm
  · rw[hb m xs.length]
    exact reps_take hr hm
def Q {α:Type} (d:Kd α) (e:Nat) (w:World) (base:Nat) (ok:Nat→Prop) (v:Value) (xs:List α):Prop :=
  (∀k,v.ownBlock=some k→ok k)∧∃inner,QRow w base e d.sz v xs.length inner∧Reps (d.M w base (fun k=>ok k∧some k≠v.ownBlock)) d.sz xs inner
section
variable {α:Type} {d:Kd α} {e:Nat} {w w1 W:World} {base:Nat} {ok ok':Nat→Prop} {v:Value} {xs:List α}
end
section
variable {P:Program} {ops:Array Oper} {rest:List Oper} {o:Oper} {a:Act} {Q':Exit→Act→World→Prop} {Kc:Act→World→Prop} {α:Type}
end
end Kd
namespace Kd
section
variable {α:Type} {d:Kd α} {e e':Nat} {w w1 W:World} {base:Nat} {ok:Nat→Prop} {u v:Value} {xs:List α}
theorem R_typed (h:d.R e w base ok v xs):∀k,v.ownBlock=some k→∃cells,w.heap[k]? = some (.cells cells e (0,0)):=by
  obtain⟨inner,ho⟩:=R_own h
  exact fun k hk=>own_typed ho k hk
theorem R_apart' (h:d.R e W base ok u xs) (hty:∀k,v.ownBlock=some k→∃cells,W.heap[k]? = some (.cells cells e' (0,0))) (ht:∀q,q∈e::d.E→q≠e'):d.R e W base (fun k=>ok k∧some k≠v.ownBlock) u xs:=by
  refine aM_ (R_bound h) (fun k hk=>⟨hk.1,fun he=>?_⟩)
  obtain⟨_,_,_,q,hq,cells,hc⟩:=hk
  obtain⟨cells',hc'⟩:=hty k he.symm
  rw[hc] at hc'
  injection hc' with hc'
  injection hc' with _ hc'
  exact ht q hq hc'
theorem R_elder' (hu:d.R e W base ok u xs) (hbase:∀k,v.ownBlock=some k→W.heap.size≤k) (hb:Below W.heap.size W w1):d.R e w1 base (fun k=>ok k∧some k≠v.ownBlock) u xs :=
  aM_ (R_move (R_bound hu) (fun k hk=>hb.block k hk.2.2.1)) (fun k hk=>⟨hk.1,fun he=>by have:=hbase k he.symm;have:=hk.2.2.1;omega⟩)
theorem R_new' (h:d.R e w1 W.heap.size ok v xs) (hlt:∀k,u.ownBlock=some k→k<W.heap.size):d.R e w1 W.heap.size (fun k=>ok k∧some k≠u.ownBlock) v xs :=
  aM_ (R_bound h) (fun k hk=>⟨hk.1,fun he=>by have:=hlt k he.symm;have:=hk.2.1;omega⟩)
theorem fresh' (hlt:∀k,u.ownBlock=some k→k<W.heap.size):∀k,W.heap.size≤k→some k≠u.ownBlock:=fun k hk he=>by have:=hlt k he.symm;omega
end
end Kd
theorem seg_get {α:Type} (a seg:List α) (o:Nat) (h:o+seg.length≤a.length) (q:Nat) :
    (a.take o++seg++a.drop (o+seg.length))[q]? = if q<o then a[q]? else if q<o+seg.length then seg[q - o]? else a[q]?:=by
  have hl:(a.take o).length=o:=by rw[List.length_take];omega
  rw[List.append_assoc]
  by_cases h1:q<o
  · rw[if_pos h1,List.getElem?_append_left (by omega),List.getElem?_take,if_pos h1]
  · rw[if_neg h1,List.getElem?_append_right (by omega),hl]
    by_cases h2:q<o+seg.length
    · rw[if_pos h2,List.getElem?_append_left (by omega)]
    · rw[if_neg h2,List.getElem?_append_right (by omega),List.getElem?_drop]
      congr 1
      omega
namespace Kd
section
variable {α:Type} {d:Kd α} {e base g n cap:Nat} {ok okp:Nat→Prop} {W:World} {xs:List α}
theorem R_elem (h:d.R e W base ok (.slice (some ⟨g,0,none⟩) n cap) xs) (z:α) (i:Int) (h0:0≤i) (h1:i<n) :
    ∃c,c.length=d.sz∧d.M W base (fun k=>ok k∧k≠g) (xs.getD i.toNat z) c∧(∀j u,c[j]? = some u→W.cell? ⟨g,i.toNat * d.sz+j,none⟩=some u)∧∀j,W.frozen? ⟨g,i.toNat * d.sz+j,none⟩=false:=by
  obtain⟨hn,hnc,hC⟩:=ag_ h
  obtain⟨_,inner,ho,hr⟩:=h
  have hil:i.toNat<xs.length:=by omega
  have hseg:i.toNat * d.sz+d.sz≤inner.length:=by rw[hr.1,←Nat.succ_mul];exact Nat.mul_le_mul_right _ hil
  have hM:=hr.2 i.toNat _ (List.getElem?_eq_getElem hil)
  refine⟨(inner.drop (i.toNat * d.sz)).take d.sz,by rw[List.length_take,List.length_drop];omega,?_,fun j u hu=>?_,fun j=>?_⟩
  · rw[List.getD_eq_getElem?_getD,List.getElem?_eq_getElem hil]
    exact d.M_mono (fun k hk=>⟨hk.1,fun he=>hk.2 (by rw[he];simp[Value.ownBlock])⟩) hM
  · rw[List.getElem?_take] at hu
    split at hu
    · rw[List.getElem?_drop] at hu
      have:=ho.cells (g:=g) (by simp[Value.ownBlock]) _ u hu
      rwa [add_plain] at this
    · cases hu
  · obtain⟨cells,hc⟩:=own_typed ho g (by simp[Value.ownBlock])
    exact cu_ hc _
theorem R_seg (h:d.R e W base ok (.slice (some ⟨g,0,none⟩) n cap) xs) (i:Int) (h0:0≤i) (h1:i<n) {c seg:List Value} {j:Nat} (hcl:c.length=d.sz) (hcc:∀j u,c[j]? = some u→W.cell? ⟨g,i.toNat * d.sz+j,none⟩=some u)
    (hj:j+seg.length≤d.sz) {x':α} (hM:d.M W base okp x' (c.take j++seg++c.drop (j+seg.length))) (hokp:∀k,okp k→ok k∧k≠g) :
    d.R e (W.setCells g (i.toNat * d.sz+j) seg) base ok (.slice (some ⟨g,0,none⟩) n cap) (xs.set i.toNat x')∧W.grownBy (W.setCells g (i.toNat * d.sz+j) seg) (some g):=by
  obtain⟨hn,hnc,_⟩:=ag_ h
  obtain⟨hok,inner,ho,hr⟩:=h
  have hil:i.toNat<xs.length:=by omega
  have hseg:i.toNat * d.sz+d.sz≤inner.length:=by rw[hr.1,←Nat.succ_mul];exact Nat.mul_le_mul_right _ hil
  have hin:inner.length=n * d.sz:=by rw[hr.1,hn]
  obtain⟨ho1,ho2⟩:=ho
  rcases ho2 with ⟨hv,_⟩|⟨g',cap',cur,hv,hb,hh,hnc',hcm,hcs,ht⟩
  · cases hv
  injection hv with ha _ hc
  injection ha with ha
  injection ha with hg
  subst hg;subst hc
  have hfit:i.toNat * d.sz+j+seg.length≤cur.size:=by
    have:n * d.sz≤cap * d.sz:=Nat.mul_le_mul_right _ hnc
    omega
  obtain⟨cur',h3,h4,h5⟩:=setCells_row seg (i.toNat * d.sz+j) W cur hh hfit
  obtain⟨s1,s2,s3,s4⟩:=setCells_same g seg (i.toNat * d.sz+j) W
  have hfar:∀k,k≠g→(W.setCells g (i.toNat * d.sz+j) seg).heap[k]? = W.heap[k]?:=fun k hk=>setCells_far seg _ k hk
  have hcin:∀q,q<d.sz→c[q]? = inner[i.toNat * d.sz+q]?:=by
    intro q hq
    have hq':q<c.length:=by omega
    have h6:=hcc q _ (List.getElem?_eq_getElem hq')
    rw[cell_of_row W g _ cur e (0,0) hh] at h6
    rw[List.getElem?_eq_getElem hq',←h6,←ht,List.getElem?_take,if_pos (by rw[←hn];omega),Array.getElem?_toList]
  refine⟨⟨hok,inner.take (i.toNat * d.sz+j)++seg++inner.drop (i.toNat * d.sz+j+seg.length),⟨?_,.inr ⟨g,cap,cur',by rw[List.length_set,hn],hb,h3,by rw[List.length_set,←hn];exact hnc,hcm,by rw[h4,hcs],?_⟩⟩,?_⟩,
    ⟨s1,s2,s3,by rw[s4];exact Nat.le_refl _,fun k _ hk=>hfar k (fun he=>hk (by rw[he]))⟩⟩
  · rw[List.length_set]
    simp only[List.length_append,List.length_take,List.length_drop]
    rw[hr.1] at hseg ⊢
    omega
  · rw[List.length_set,←hn]
    apply List.ext_getElem?
    intro q
    rw[List.getElem?_take,h5]
    rw[seg_get cur.toList seg (i.toNat * d.sz+j) (by rw[Array.length_toList];omega) q,seg_get inner seg (i.toNat * d.sz+j) (by omega) q]
    have hcur:∀q,q<n * d.sz→cur.toList[q]? = inner[q]?:=by
      intro q hq
      rw[←ht,List.getElem?_take,if_pos (by rw[←hn];exact hq)]
    by_cases hq:q<n * d.sz
    · rw[if_pos hq,hcur q hq]
    · rw[if_neg hq,if_neg (by omega),if_neg (by omega),List.getElem?_eq_none (by omega)]
  · refine⟨?_,fun m p hm=>?_⟩
    · rw[List.length_set]
      simp only[List.length_append,List.length_take,List.length_drop]
      rw[hr.1] at hseg ⊢
      omega
    · have hml:m<xs.length:=by
        have:=(List.getElem?_eq_some_iff.1 hm).1
        rwa [List.length_set] at this
      have hmfit:m * d.sz+d.sz≤inner.length:=by rw[hr.1,←Nat.succ_mul];exact Nat.mul_le_mul_right _ hml
      have hgo:some g=(Value.slice (some ⟨g,0,none⟩) n cap).ownBlock:=by simp[Value.ownBlock]
      by_cases hmi:m=i.toNat
      · subst hmi
        rw[List.getElem?_set_self (by omega)] at hm
        injection hm with hm
        subst hm
        have hcells:((inner.take (i.toNat * d.sz+j)++seg++inner.drop (i.toNat * d.sz+j+seg.length)).drop (i.toNat * d.sz)).take d.sz=c.take j++seg++c.drop (j+seg.length):=by
          apply List.ext_getElem?
          intro q
          rw[List.getElem?_take,List.getElem?_drop,seg_get inner seg _ (by omega),seg_get c seg j (by omega) q]
          by_cases hq:q<d.sz
          · rw[if_pos hq,hcin q hq]
            by_cases hq1:q<j
            · rw[if_pos (by omega),if_pos hq1]
            · rw[if_neg (by omega),if_neg hq1]
              by_cases hq2:q<j+seg.length
              · rw[if_pos (by omega),if_pos hq2]
                congr 1
                omega
              · rw[if_neg (by omega),if_neg hq2]
          · rw[if_neg hq,if_neg (by omega),if_neg (by omega),List.getElem?_eq_none (by omega)]
        rw[hcells]
        refine d.M_mono (fun k hk=>?_) (d.M_move (w1:=W.setCells g (i.toNat * d.sz+j) seg) (fun k hk=>hfar k (hokp k hk).2) hM)
        exact⟨(hokp k hk).1,fun he=>(hokp k hk).2 (by rw[←hgo] at he;injection he)⟩
      · rw[List.getElem?_set_ne (by omega)] at hm
        have hold:=hr.2 m p hm
        have hcells:((inner.take (i.toNat * d.sz+j)++seg++inner.drop (i.toNat * d.sz+j+seg.length)).drop (m * d.sz)).take d.sz=(inner.drop (m * d.sz)).take d.sz:=by
          apply List.ext_getElem?
          intro q
          rw[List.getElem?_take,List.getElem?_take,List.getElem?_drop,List.getElem?_drop,seg_get inner seg _ (by omega)]
          by_cases hq:q<d.sz
          · rw[if_pos hq,if_pos hq]
            rcases Nat.lt_or_gt_of_ne hmi with hlt|hgt
            · have:m * d.sz+d.sz≤i.toNat * d.sz:=by rw[←Nat.succ_mul];exact Nat.mul_le_mul_right _ hlt
              rw[if_pos (by omega)]
            · have:i.toNat * d.sz+d.sz≤m * d.sz:=by rw[←Nat.succ_mul];exact Nat.mul_le_mul_right _ hgt
              rw[if_neg (by omega),if_neg (by omega)]
          · rw[if_neg hq,if_neg hq]
        rw[hcells]
        refine d.M_move (fun k hk=>hfar k (fun he=>hk.2 (by rw[he];exact hgo))) hold
end
end Kd
namespace Kd
section
variable {α:Type} {F:Kd α→Kd α} {sz:Nat} {E:List Nat} {hs:∀n,(upto F sz E n).sz=sz} {hE:∀n q,q∈(upto F sz E n).E→q∈E}
end
end Kd
namespace Kd
theorem reps_append {α:Type} {R:α→List Value→Prop} {size:Nat} {ps qs:List α} {cs ds:List Value} (h:Reps R size ps cs) (h':Reps R size qs ds):Reps R size (ps++qs) (cs++ds):=by
  refine⟨by rw[List.length_append,List.length_append,h.1,h'.1,Nat.add_mul],fun j p hj=>?_⟩
  rcases Nat.lt_or_ge j ps.length with hlt|hge
  · rw[List.getElem?_append_left hlt] at hj
    have hle:j * size+size≤cs.length:=by rw[h.1,←Nat.succ_mul];exact Nat.mul_le_mul_right _ hlt
    rw[List.drop_append_of_le_length (by omega),List.take_append_of_le_length (by rw[List.length_drop];omega)]
    exact h.2 j p hj
  · rw[List.getElem?_append_right hge] at hj
    have h2:=h'.2 (j - ps.length) p hj
    have hle:ps.length * size≤j * size:=Nat.mul_le_mul_right _ hge
    rw[List.drop_append,List.drop_eq_nil_of_le (by rw[h.1];exact hle),List.nil_append,h.1,←Nat.sub_mul]
    exact h2
section
variable {P:Program} {ops:Array Oper} {rest:List Oper} {o:Oper} {a:Act} {Q:Exit→Act→World→Prop} {α:Type}
theorem cK_ (d:Kd α) {Rr:α→List Value→Prop} {w0 W:World} (base:Nat) (hgd:o.guard=none) (s x:Operand) (t e:TypeId) (z:Value) (bytes:Nat)
    (ho:o.op=.call { callee:=.builtin .append,args:=#[s,x],argTypes:=#[t,t] })
    (ht:P.underlying t=some (.slice e)) (hinfo:(P.info? e).map (fun i=>(i.zero,i.size,i.bytes))=some (some z,d.sz,bytes)) (hz:z.cells.size=d.sz) (hs0:0<d.sz) (hb0:0<bytes)
    (v:Value) (xs ys:List α) (A:Option Addr) (m c:Nat) (ok okp:Nat→Prop) (hs:a.eval s=v) (hx:a.eval x=.slice A m c)
    (HO:d.R e W base ok v xs) (HR:ReadsRow Rr d.sz W A m ys) (hKM:∀x cs,Rr x cs→d.M W base okp x cs) (hokp:∀k,okp k→ok k∧some k≠v.ownBlock) (hfresh:∀k,W.heap.size≤k→ok k)
    (HB:Below base w0 W) (hbase:base≤W.heap.size) (hl:(xs.length+m) * bytes≤140737488355328)
    (h:∀v1 w1,d.R e w1 base ok v1 (xs++ys)→Below base w0 w1→W.grownBy w1 v.ownBlock→(v1.ownBlock=v.ownBlock∨∃b,v1.ownBlock=some b∧W.heap.size≤b)→wpList P ops Q rest (a.put o.dst v1) w1) :
    wpList P ops Q (o::rest) a W:=by
  obtain⟨i0,hi,hzz⟩:=Option.map_eq_some_iff.1 hinfo
  simp only[Prod.mk.injEq] at hzz
  obtain⟨hz0,hz1,hz2⟩:=hzz
  have hm:ys.length=m:=HR.1
  have hlen:xs.length+m≤140737488355328:=Nat.le_trans (Nat.le_mul_of_pos_right _ hb0) hl
  obtain⟨hok,inner,hown,hr⟩:=HO
  have hrun:∃v1 w1,(Builtin.append_ #[t,t] o.type #[v,.slice A m c]).run P W=.ok v1 w1∧d.R e w1 base ok v1 (xs++ys)∧W.grownBy w1 v.ownBlock∧(v1.ownBlock=v.ownBlock∨∃b,v1.ownBlock=some b∧W.heap.size≤b):=by
    rcases A with _|ad
    · have h0:m=0:=by
        rcases Nat.eq_zero_or_pos m with h0|h0
        · exact h0
        · obtain⟨ad,h,_⟩:=HR.2.2 h0
          cases h
      subst h0
      obtain rfl:ys=[]:=List.eq_nil_of_length_eq_zero hm
      refine⟨v,W,?_,by rw[List.append_nil];exact⟨hok,inner,hown,hr⟩,World.grownBy.refl W _,.inl rfl⟩
      rcases hown.2 with ⟨rfl,hn⟩|⟨g,cap,cur,rfl,_,_,hnc,_⟩
      · simp[Builtin.append_,run_underlying ht,sizeOf,typeInfo,hi,Builtin.lenOf,Builtin.firstCells]
      · simp[Builtin.append_,run_underlying ht,sizeOf,typeInfo,hi,Builtin.lenOf,Builtin.firstCells,hnc,storeCells]
    · obtain⟨news,hnr,hnc⟩:=ReadsRow.inner_ HR
      have hnM:Reps (d.M W base okp) d.sz ys news:=hnr.imp_ (fun p c hp=>hKM p c hp)
      have hone:∀u∈news,u.oneCell'=true:=by
        intro u hu
        obtain⟨q,hq,rfl⟩:=List.mem_iff_getElem.1 hu
        have hql:q / d.sz<ys.length:=by
          rw[Nat.div_lt_iff_lt_mul hs0]
          rw[←hnM.1]
          exact hq
        have hc:=hnM.2 (q / d.sz) _ (List.getElem?_eq_getElem hql)
        refine d.K_one (d.K_of_M hc) _ ?_
        rw[List.mem_iff_getElem?]
        refine⟨q % d.sz,?_⟩
        rw[List.getElem?_take,if_pos (Nat.mod_lt _ hs0),List.getElem?_drop,Nat.mul_comm,Nat.div_add_mod,List.getElem?_eq_getElem hq]
      obtain⟨v1,w1,hrun,h2,hg,_,hat⟩:=run_append_own_at (P:=P) W base t o.type e i0 z d.sz bytes ht hi hz0 hz1 hz2 hz hs0 v xs.length inner hown ad m c news (by rw[hnM.1,hm]) hnc hone (by simp only[maxLen];omega) hl hbase
      have hat':v1.ownBlock=v.ownBlock∨∃b,v1.ownBlock=some b∧W.heap.size≤b:=by
        rcases hat with hat|hat
        · exact .inl hat
        · exact .inr ⟨_,hat,Nat.le_refl _⟩
      have hne:∀k,some k≠v.ownBlock→k<W.heap.size→some k≠v1.ownBlock:=by
        intro k hk hlt
        rcases hat' with hat|⟨b,hb,hle⟩
        · rw[hat];exact hk
        · rw[hb]
          intro he
          injection he with he
          omega
      have step:∀{q:α} {c:List Value} {o:Nat→Prop},d.M W base o q c→(∀k,o k→ok k∧some k≠v.ownBlock)→d.M w1 base (fun k=>ok k∧some k≠v1.ownBlock) q c:=by
        intro q c o hq ho
        have h1:=d.M_move (w1:=w1) (fun k hk=>hg.block k hk.2.2.1 (ho k hk.1).2) (d.M_bound hq)
        exact d.M_mono (fun k hk=>⟨(ho k hk.1).1,hne k (ho k hk.1).2 hk.2.2.1⟩) h1
      refine⟨v1,w1,hrun,⟨fun k hk=>?_,inner++news,by rw[List.length_append,hm];exact h2,reps_append (hr.imp_ (fun _ _ hq=>step hq (fun _ hk=>hk))) (hnM.imp_ (fun _ _ hq=>step hq hokp))⟩,hg,hat'⟩
      rcases hat' with hat|⟨b,hb,hle⟩
      · exact hok k (hat ▸ hk)
      · rw[hb] at hk
        injection hk with hk
        exact hfresh k (by omega)
  obtain⟨v1,w1,hr1,h1,hg,hat⟩:=hrun
  refine wpList_plain hgd fun K hK=>?_
  unfold Oper.wp execOp
  simp only[ho,resolve,invoke,builtin,Sem.run_bind,Sem.run_pure,Result.andThen_ok,List.map_toArray,List.map_cons,List.map_nil,hs,hx,hr1]
  exact hK _ _ (h v1 w1 h1 (HB.grown hg hbase (own_base hown)) hg hat)
end
end Kd
namespace Kd
section
variable {P:Program} {ops:Array Oper} {rest:List Oper} {o:Oper} {a:Act} {Q:Exit→Act→World→Prop} {α:Type}
end
end Kd
theorem add_add (a:Addr) (i j:Nat):(a.add i).add j=a.add (i+j):=by
  unfold Addr.add
  by_cases h1:i=0<;>by_cases h2:j=0<;>simp[h1,h2,Nat.add_assoc]
namespace Kd
section
variable {α:Type} {k:Kd α} {w:World} {A:Option Addr} {xs:List α} {m c:Nat}
theorem C_take (h:k.C w A xs.length xs) (hm:m≤xs.length):k.C w A (xs.take m).length (xs.take m):=by
  have hl:(xs.take m).length=m:=by rw[List.length_take];omega
  refine⟨rfl,by rw[hl];have:=h.2.1;omega,fun hp=>?_⟩
  obtain⟨ad,e,hc⟩:=h.2.2 (by omega)
  refine⟨ad,e,fun j p hj=>hc j p ?_⟩
  rw[List.getElem?_take] at hj
  split at hj
  · exact hj
  · cases hj
theorem C_drop (h:k.C w A xs.length xs) (hm:m≤xs.length) (hc:xs.length≤c):k.C w (if c=m then A else A.map (·.add (m * k.sz))) (xs.drop m).length (xs.drop m):=by
  have hl:(xs.drop m).length=xs.length - m:=List.length_drop
  refine⟨rfl,by rw[hl];have:=h.2.1;omega,fun hp=>?_⟩
  rw[hl] at hp
  obtain⟨ad,rfl,hcell⟩:=h.2.2 (by omega)
  rw[if_neg (by omega)]
  refine⟨ad.add (m * k.sz),rfl,fun j p hj=>?_⟩
  rw[List.getElem?_drop] at hj
  obtain⟨cs,h1,h2,h3⟩:=hcell (m+j) p hj
  refine⟨cs,h1,h2,fun i u hu=>?_⟩
  rw[add_add,show m * k.sz+(j * k.sz+i)=(m+j) * k.sz+i by rw[Nat.add_mul];omega]
  exact h3 i u hu
end
end Kd
section
variable {P:Program}
end
theorem bh_ {w W:World} (h:Below w.heap.size w W):w.heap.size≤W.heap.size:=h.size
theorem below_step {w W w2:World} (h:Below w.heap.size w W) (k:Below W.heap.size W w2):Below w.heap.size w w2:=below_then h h.size k
theorem ReadsInt.nil (W:World) (k:IntKind):ReadsInt W k none ([]:List Int).length []:=⟨rfl,by simp,fun h=>absurd h (Nat.lt_irrefl 0)⟩
theorem bW_ {w W:World} {g j:Nat} {v:Value} (h:Below w.heap.size w W) (hg:w.heap.size≤g):Below w.heap.size w (W.setCell ⟨g,j,none⟩ v):=h.setCell hg _
theorem add_block (a:Addr) (i:Nat):(a.add i).block=a.block:=by unfold Addr.add;split<;>rfl
theorem ReadsOf.nil {α:Type} (enc:α→Value) (d:α) (W:World):ReadsOf enc d W none ([]:List α).length []:=⟨rfl,by simp,fun h=>absurd h (Nat.lt_irrefl 0)⟩
theorem aB_ {W:World} {p a:Addr} (h:a.block≠p.block) (u:Value):(W.setCell p u).cell? a=W.cell? a:=by
  have:=Below.heap_setCell W p u a.block h
  simp[World.cell?,this]
theorem blk_put {w:World} {g:Nat} {t:TypeId} {cs cs':Array Value} (h:w.heap[g]? = some (.cells cs t (0,0))) (i:Nat) (u:Value) (e:cs.setIfInBounds i u=cs'):(w.setCell ⟨g,i,none⟩ u).heap[g]? = some (.cells cs' t (0,0)):=e ▸ blk_set h i u
theorem ar_ {base:Nat} {w W:World} (h:Below base w W):Below base w W.drew:=h.drew
namespace Kd
section
variable {α β:Type} {d:Kd α} {d':Kd β} {e e' base base' n:Nat} {ok ok':Nat→Prop} {w W w1 W1:World} {v u:Value} {xs:List α} {ys:List β} {A:Option Addr} {c:Nat}
end
section
variable {α:Type} {enc:α→Value} {h1:∀x,(enc x).oneCell'=true} {w W:World} {A:Option Addr} {n g:Nat} {xs:List α}
end
end Kd
namespace Kd
section
variable {α:Type} {d:Kd α} {e base g:Nat} {ok:Nat→Prop} {w w1:World} {v:Value} {xs:List α} {o:Obj}
theorem R_elderB (h:d.R e w base ok v xs) (a:Nat) (ha:w.heap.size≤a):d.R e w base (fun k=>ok k∧k≠a) v xs:=aM_ (R_bound h) (fun k hk=>⟨hk.1,by have:=hk.2.2.1;omega⟩)
theorem R_newB (h:d.R e w1 w.heap.size ok v xs) (hb:w.heap[g]? = some o):d.R e w1 w.heap.size (fun k=>ok k∧k≠g) v xs:=aM_ (R_bound h) (fun k hk=>⟨hk.1,by have:=blk_lt hb;have:=hk.2.1;omega⟩)
theorem freshB (hb:w.heap[g]? = some o):∀k,w.heap.size≤k→k≠g:=fun k hk=>by have:=blk_lt hb;omega
end
end Kd
section
variable {P:Program} {ops:Array Oper} {rest:List Oper} {o:Oper} {a:Act} {Q:Exit→Act→World→Prop}
theorem box_event {W:World} (hgd:o.guard=none) {N:Tmp} (_hd:o.dst=some N) {cs:Array Value} {t:TypeId}
    (hrun:(execOp a.eval o).run P W=.ok (.value (.pointer (some ⟨W.heap.size,0,none⟩))) (W.alloc (.cells cs t (0,0))))
    (h:∀g,g=W.heap.size→∀w1,w1.heap[g]? = some (.cells cs t (0,0))→Below W.heap.size W w1→wpList P ops Q rest (a.put o.dst (.pointer (some ⟨g,0,none⟩))) w1):wpList P ops Q (o::rest) a W :=
  Kd.event_run hgd hrun (h _ rfl _ (blk_new W _) (bb_ (Below.refl _ _) _))
end
namespace Kd
section
variable {α:Type} {enc:α→Value} {h1:∀x,(enc x).oneCell'=true} {e base g n cap:Nat} {ok:Nat→Prop} {W:World} {xs:List α}
theorem R_celln (d:α) (h:(scalar enc h1).R e W base ok (.slice (some ⟨g,0,none⟩) n cap) xs) (i:Int) (h0:0≤i) (hi:i<n):W.cell? ⟨g,i.toNat,none⟩=some (enc (rdOf d xs i))∧W.frozen? ⟨g,i.toNat,none⟩=false:=by
  obtain⟨rfl,_⟩:=ag_ h
  exact R_cell d h i h0 hi
theorem R_putn (h:(scalar enc h1).R e W base ok (.slice (some ⟨g,0,none⟩) n cap) xs) (i:Int) (x:α):(scalar enc h1).R e (W.setCell ⟨g,i.toNat,none⟩ (enc x)) base ok (.slice (some ⟨g,0,none⟩) n cap) (xs.set i.toNat x):=by
  obtain⟨rfl,_⟩:=ag_ h
  exact(R_put h i x).1
end
end Kd
section
variable {P:Program} {ops:Array Oper} {rest:List Oper} {o:Oper} {a:Act} {Q:Exit→Act→World→Prop}
theorem cb_ {W w1:World} (hgd:o.guard=none) {t:TypeId} {p:Tmp} {v:Operand} (_ho:o.op=.store t (.tmp p) v) (hN:o.dst=none)
    (hrun:(execOp a.eval o).run P W=.ok .skip w1) (h:∀w',w'=w1→wpList P ops Q rest a w'):wpList P ops Q (o::rest) a W:=by
  refine wpList_plain hgd fun K hK=>?_
  unfold Oper.wp
  rw[hrun]
  show K (a.put o.dst undef) w1
  rw[hN]
  exact hK _ _ (h _ rfl)
end
namespace Kd
section
variable {α:Type} {enc:α→Value} {h1:∀x,(enc x).oneCell'=true} {e base g n cap:Nat} {ok:Nat→Prop} {W:World} {xs:List α}
theorem R_putg (h:(scalar enc h1).R e W base ok (.slice (some ⟨g,0,none⟩) n cap) xs) (i:Int) (x:α):(scalar enc h1).R e (W.setCell ⟨g,i.toNat,none⟩ (enc x)) base ok (.slice (some ⟨g,0,none⟩) n cap) (xs.set i.toNat x)∧W.grownBy (W.setCell ⟨g,i.toNat,none⟩ (enc x)) (some g):=by
  obtain⟨rfl,_⟩:=ag_ h
  exact R_put h i x
end
end Kd
section
variable {P:Program} {ops:Array Oper} {rest:List Oper} {o:Oper} {a:Act} {Q:Exit→Act→World→Prop} {W:World}
theorem ax_ {N:Tmp} (_hN:o.dst=some N) (h:wpList P ops Q (o::rest) a W):wpList P ops Q (o::rest) a W:=h
theorem ck_ {t:TypeId} {p:Tmp} {v:Operand} (_ho:o.op=.store t (.tmp p) v) (h:wpList P ops Q (o::rest) a W):wpList P ops Q (o::rest) a W:=h
end
section
variable {P:Program} {ops:Array Oper} {o:Oper} {a:Act} {Q:Exit→Act→World→Prop} {Kc:Act→World→Prop}
theorem event_step {W w1:World} {v:Value} (hw:Region.wanted o (yielded ops a.tmps)=true) (hrun:(execOp a.eval o).run P W=.ok (.value v) w1) (h:Kc (a.put o.dst v) w1):if Region.wanted o (yielded ops a.tmps)=true then Oper.wp P o a W Kc Q else Kc (a.put o.dst undef) W:=by
  rw[if_pos hw]
  unfold Oper.wp
  rw[hrun]
  exact h
theorem cF_ {W:World} (hw:Region.wanted o (yielded ops a.tmps)=true) {N:Tmp} (_hd:o.dst=some N) {cs:Array Value} {t:TypeId}
    (hrun:(execOp a.eval o).run P W=.ok (.value (.pointer (some ⟨W.heap.size,0,none⟩))) (W.alloc (.cells cs t (0,0))))
    (h:∀g,g=W.heap.size→∀w1,w1.heap[g]? = some (.cells cs t (0,0))→Below W.heap.size W w1→Kc (a.put o.dst (.pointer (some ⟨g,0,none⟩))) w1):if Region.wanted o (yielded ops a.tmps)=true then Oper.wp P o a W Kc Q else Kc (a.put o.dst undef) W :=
  event_step hw hrun (h _ rfl _ (blk_new W _) (bb_ (Below.refl _ _) _))
namespace Kd
variable {α:Type}
theorem R_lit_step (d:Kd α) {w0 W:World} (base e:Nat) (hw:Region.wanted o (yielded ops a.tmps)=true) {N:Tmp} (_hd:o.dst=some N) {xs:List α} {inner:List Value} {ok okp:Nat→Prop}
    (hrun:(execOp a.eval o).run P W=.ok (.value (.slice (some ⟨W.heap.size,0,none⟩) xs.length xs.length)) (W.alloc (.cells inner.toArray e)))
    (hrep:Reps (d.M W base okp) d.sz xs inner) (hok:∀k,okp k→ok k) (hfresh:ok W.heap.size) (HB:Below base w0 W) (hbase:base≤W.heap.size) (hm:xs.length≤9223372036854775807)
    (h:∀v1 w1,d.R e w1 base ok v1 xs→Below base w0 w1→W.grownBy w1 none→(∃b,v1.ownBlock=some b∧W.heap.size≤b)→Kc (a.put o.dst v1) w1):if Region.wanted o (yielded ops a.tmps)=true then Oper.wp P o a W Kc Q else Kc (a.put o.dst undef) W:=by
  refine event_step hw hrun (h _ _ ⟨fun k hk=>?_,inner,?_,?_⟩ (HB.alloc hbase _) (World.grownBy_alloc W _ none) ⟨W.heap.size,by simp[Value.ownBlock],Nat.le_refl _⟩)
  · have:W.heap.size=k:=by simpa[Value.ownBlock] using hk
    subst this
    exact hfresh
  · have h2:=World.ownsRow_lit (base:=base) (e:=e) (size:=d.sz) W inner.toArray xs.length hbase (by simpa[maxLen] using hm) (by simpa using hrep.1)
    simpa using h2
  · refine hrep.imp_ (fun p c hp=>d.M_mono (fun k hk=>⟨hok k hk.1,fun he=>?_⟩) (M_below (d.M_bound hp) (bb_ (Below.refl _ _) _)))
    have h3:k=W.heap.size:=by simpa[Value.ownBlock] using he
    have:=hk.2.2.1
    omega
end Kd
end
inductive Vals (P:Program) (tmps:Array Value) (w:World):List ResultVar→List Value→Prop where
  | nil:Vals P tmps w [] []
  | tmp {u:Tmp} {rs:List ResultVar} {vs:List Value} (h:Vals P tmps w rs vs):Vals P tmps w (.tmp u::rs) (tmps.getD u undef::vs)
  | cell {p:Tmp} {ty:TypeId} {rs:List ResultVar} {vs:List Value} (g:Nat) (t:TypeId) (cs:Array Value) (fr:Nat × Nat) (d:TypeDesc)
      (hp:tmps.getD p undef=.pointer (some ⟨g,0,none⟩)) (hg:w.heap[g]? = some (.cells cs t fr))
      (hu:P.underlying ty=some d) (hd:(match d with | .struct _ | .array _ _=>true|_=>false)=true) (hi:(P.info? ty).map (·.size)=some cs.size)
      (h:Vals P tmps w rs vs):Vals P tmps w (.cell p ty::rs) (.agg cs::vs)
section
variable {P:Program} {tmps:Array Value} {w:World}
end
namespace Kd
section
variable {P:Program} {α:Type}
end
section
variable {P:Program} {ops:Array Oper} {rest:List Oper} {o:Oper} {a:Act} {Q:Exit→Act→World→Prop} {Kc:Act→World→Prop} {α:Type}
end
end Kd
end Go.Proofs.YtenpejebbeoceaaGreatDoorW.PrintWords
end
section
namespace Go.Proofs.YtenpejebbeoceaaGreatDoorW.PrintWords
open Go.RowKit
namespace Kd
section
variable {α:Type} {d:Kd α} {e base g o n cap:Nat} {ok okp:Nat→Prop} {w W:World} {v:Value} {xs:List α}
end
section
variable {α:Type} {enc:α→Value} {h1:∀x,(enc x).oneCell'=true} {e base g o n cap:Nat} {ok:Nat→Prop} {W:World} {xs:List α}
end
end Kd
end Go.Proofs.YtenpejebbeoceaaGreatDoorW.PrintWords
end
section
namespace Go.Proofs.YtenpejebbeoceaaGreatDoorW.PrintWords
open Go.RowKit
namespace Kd
def tag {α:Type} (f:Nat→Nat) (d:Kd α):Kd (α × Nat) where
  sz:=d.sz
  E:=d.E
  K:=fun w x cs=>d.K w x.1 cs
  M:=fun w base ok x cs=>d.M w base (fun k=>ok k∧f k=x.2) x.1 cs
  K_len:=fun h=>d.K_len h
  K_one:=fun h=>d.K_one h
  K_below:=fun hb h=>d.K_below hb h
  K_of_M:=fun h=>d.K_of_M h
  M_mono:=fun hok h=>d.M_mono (fun k hk=>⟨hok k hk.1,hk.2⟩) h
  M_bound:=fun h=>d.M_mono (fun _ hk=>⟨⟨hk.1.1,hk.2⟩,hk.1.2⟩) (d.M_bound h)
  M_move:=fun hm h=>d.M_move (fun k hk=>hm k hk.1) h
  M_lower:=fun hb h=>d.M_lower hb h
def bare {α:Type} (d:Kd α):Kd α where
  sz:=d.sz
  E:=d.E
  K:=d.K
  M:=fun w base _ x cs=>d.M w base (fun _=>False) x cs
  K_len:=fun h=>d.K_len h
  K_one:=fun h=>d.K_one h
  K_below:=fun hb h=>d.K_below hb h
  K_of_M:=fun h=>d.K_of_M h
  M_mono:=fun _ h=>h
  M_bound:=fun h=>h
  M_move:=fun _ h=>d.M_move (fun _ hk=>hk.elim) h
  M_lower:=fun hb h=>d.M_lower hb h
def raw (sz:Nat):Kd (List Value) where
  sz:=sz
  E:=[]
  K:=fun _ x cs=>cs=x∧cs.length=sz∧∀u∈cs,u.oneCell'=true
  M:=fun _ _ _ x cs=>cs=x∧cs.length=sz∧∀u∈cs,u.oneCell'=true
  K_len:=fun h=>h.2.1
  K_one:=fun h=>h.2.2
  K_below:=fun _ h=>h
  K_of_M:=fun h=>h
  M_mono:=fun _ h=>h
  M_bound:=fun h=>h
  M_move:=fun _ h=>h
  M_lower:=fun _ h=>h
def S {α:Type} (d:Kd α) (e:Nat) (w:World) (base:Nat) (ok:Nat→Prop) (v:Value) (xs:List α):Prop:=∃f,(tag f d).R e w base ok v xs.zipIdx
section
variable {α β:Type} {d:Kd α} {d':Kd β} {e e':Nat} {w w1 W:World} {base b:Nat} {ok ok' okv oku:Nat→Prop} {u v:Value} {xs:List α} {ys:List β}
theorem zip_at {xs:List α} {j:Nat} {p:α} (h:xs[j]? = some p):xs.zipIdx[j]? = some (p,j):=by rw[List.getElem?_zipIdx,h,Nat.zero_add];rfl
theorem S_R (h:S d e w base ok v xs):d.R e w base ok v xs:=by
  obtain⟨f,h0,inner,ho,hr⟩:=h
  rw[List.length_zipIdx] at ho
  exact⟨h0,inner,ho,by have:=hr.1;rw[List.length_zipIdx] at this;exact this,fun j p hj=>d.M_mono (fun _ hk=>hk.1) (hr.2 j (p,j) (zip_at hj))⟩
theorem R_head {ad:Addr} {n cap:Nat} (h:d.R e w base ok (.slice (some ad) n cap) xs):∃g,ad=⟨g,0,none⟩:=by
  obtain⟨_,inner,ho,hr⟩:=h
  rcases ho.2 with ⟨hv,_⟩|⟨g,cap',cur,hv,_⟩
  · cases hv
  · injection hv with ha _ _
    injection ha with ha
    exact⟨g,ha⟩
theorem R_getA {ad:Addr} {n cap:Nat} (h:d.R e W base ok (.slice (some ad) n cap) xs) (z:α) (i:Int) (h0:0≤i) (h1:i<n) :
    ∃c,c.length=d.sz∧d.M W base (fun k=>ok k∧some k≠(Value.slice (some ad) n cap).ownBlock) (xs.getD i.toNat z) c∧∀j u,c[j]? = some u→W.cell? (ad.add (i.toNat * d.sz+j))=some u:=by
  obtain⟨g,rfl⟩:=R_head h
  obtain⟨c,hcl,hM,hcc,_⟩:=R_elem h z i h0 h1
  refine⟨c,hcl,d.M_mono (fun k hk=>⟨hk.1,fun he=>hk.2 (by simpa[Value.ownBlock] using he)⟩) hM,fun j u hu=>?_⟩
  rw[add_at,Nat.zero_add]
  exact hcc j u hu
theorem R_tight (hE:d.E=[]) (h:d.R e w base ok v xs):d.R e w base (fun k=>some k=v.ownBlock) v xs:=by
  obtain⟨h0,inner,ho,hr⟩:=h
  refine⟨fun k hk=>hk.symm,inner,ho,hr.imp_ (fun p c hp=>d.M_mono (fun k hk=>?_) (d.M_bound hp))⟩
  obtain⟨_,_,_,q,hq,_⟩:=hk
  rw[hE] at hq
  cases hq
theorem S_nil (d:Kd α) (e:Nat) (w:World) (base:Nat) (ok:Nat→Prop):S d e w base ok (.slice none 0 0) []:=⟨fun _=>0,R_nil _ _ _ _ _⟩
theorem bK_ (h:S d e w base ok v xs) (hok:∀k,ok k→ok' k):S d e w base ok' v xs:=by
  obtain⟨f,h⟩:=h
  exact⟨f,aM_ h hok⟩
theorem S_bound (h:S d e w base ok v xs):S d e w base (fun k=>ok k∧base≤k∧k<w.heap.size∧∃q,q∈e::d.E∧∃cells,w.heap[k]? = some (.cells cells q (0,0))) v xs:=by
  obtain⟨f,h⟩:=h
  exact⟨f,R_bound h⟩
theorem S_move (h:S d e w base ok v xs) (hm:∀k,ok k→w1.heap[k]? = w.heap[k]?):S d e w1 base ok v xs:=by
  obtain⟨f,h⟩:=h
  exact⟨f,R_move h hm⟩
theorem S_lower {base':Nat} (h:S d e w base ok v xs) (hb:base'≤base):S d e w base' ok v xs:=by
  obtain⟨f,h⟩:=h
  exact⟨f,R_lower h hb⟩
theorem S_step (h:S d e w base ok v xs) (hm:∀k,ok k→k<w.heap.size→w1.heap[k]? = w.heap[k]?):S d e w1 base ok v xs :=
  bK_ (S_move (S_bound h) (fun k hk=>hm k hk.1 hk.2.2.1)) (fun _ hk=>hk.1)
theorem cy_ (h:S d e w base ok v xs) (hb:Below w.heap.size w w1):S d e w1 base ok v xs:=S_step h (fun k _ hk=>hb.block k hk)
theorem bn_ (h:S d e w base ok v xs):S d e w.drew base ok v xs:=cy_ h (below_drew (Below.refl _ _))
theorem bk_ (h:S d e w base ok v xs) {p:Addr} (hok:∀k,ok k→k≠p.block) (u:Value):S d e (w.setCell p u) base ok v xs:=S_step h (fun k ho _=>Below.heap_setCell w p u k (hok k ho))
theorem S_types (h:S d e w base ok v xs) {g t:Nat} {cells:Array Value} (hb:w.heap[g]? = some (.cells cells t (0,0))) (ht:∀q,q∈e::d.E→q≠t):S d e w base (fun k=>ok k∧k≠g) v xs:=by
  obtain⟨f,h⟩:=h
  exact⟨f,bS_ h hb ht⟩
theorem S_typed (h:S d e w base ok v xs):∀k,v.ownBlock=some k→∃cells,w.heap[k]? = some (.cells cells e (0,0)):=R_typed (S_R h)
theorem S_elder' (h:S d e W base ok u xs) (hbase:∀k,v.ownBlock=some k→W.heap.size≤k) (hb:Below W.heap.size W w1):S d e w1 base (fun k=>ok k∧some k≠v.ownBlock) u xs:=by
  obtain⟨f,h⟩:=h
  exact⟨f,R_elder' h hbase hb⟩
theorem S_old (h:S d e W base ok u xs) (hb:Below W.heap.size W w1):S d e w1 base (fun k=>ok k∧k<W.heap.size) u xs :=
  bK_ (cy_ (S_bound h) hb) (fun _ hk=>⟨hk.1,hk.2.2.1⟩)
theorem S_bare (h:(bare d).R e w base ok v xs):S d e w base ok v xs:=by
  obtain⟨h0,inner,ho,hr⟩:=h
  refine⟨fun _=>0,h0,inner,by rw[List.length_zipIdx];exact ho,by rw[List.length_zipIdx];exact hr.1,fun j p hj=>?_⟩
  rw[List.getElem?_zipIdx,Nat.zero_add] at hj
  obtain⟨x,hx,rfl⟩:=Option.map_eq_some_iff.1 hj
  exact d.M_mono (fun _ hk=>hk.elim) (hr.2 j x hx)
theorem R_tag {f f':Nat→Nat} {zs:List (α × Nat)} (h:(tag f d).R e w base ok v zs) (hf:∀k,ok k→k<w.heap.size→f' k=f k):(tag f' d).R e w base ok v zs:=by
  obtain⟨h0,inner,ho,hr⟩:=R_bound h
  exact⟨fun k hk=>(h0 k hk).1,inner,ho,hr.1,fun j p hj=>d.M_mono (fun k hk=>⟨⟨hk.1.1.1,hk.1.2⟩,(hf k hk.1.1.1 hk.1.1.2.2.1).trans hk.2⟩) (hr.2 j p hj)⟩
end
section
variable {α β:Type} {d:Kd α} {d':Kd β} {e e' g:Nat} {w w1 W:World} {base b:Nat} {ok ok' okv oku:Nat→Prop} {u v:Value} {xs:List α} {ys:List β}
theorem S_away (h:S d e w base ok v xs) (hok:∀k,ok k→k≠g):some g≠v.ownBlock:=R_away (S_R h) hok
theorem S_form (h:S d e w base ok v xs) (hp:0<xs.length):∃g cap,v=.slice (some ⟨g,0,none⟩) xs.length cap∧base≤g∧g<w.heap.size∧∃cells,w.heap[g]? = some (.cells cells e (0,0)):=R_form (S_R h) hp
theorem S_slice (h:S d e w base ok v xs):∃A c,v=.slice A xs.length c:=ap_ (S_R h)
theorem bV_ {A:Option Addr} {n c:Nat} (h:S d e w base ok (.slice A n c) xs):n=xs.length∧n≤c∧d.C w A xs.length xs:=ag_ (S_R h)
theorem S_get {ad:Addr} {n cap:Nat} (h:S d e W base ok (.slice (some ad) n cap) xs) (z:α) (i:Int) (h0:0≤i) (h1:i<n) :
    ∃c,c.length=d.sz∧d.M W base (fun k=>ok k∧some k≠(Value.slice (some ad) n cap).ownBlock) (xs.getD i.toNat z) c∧∀j u,c[j]? = some u→W.cell? (ad.add (i.toNat * d.sz+j))=some u:=R_getA (S_R h) z i h0 h1
theorem S_elderB (h:S d e w base ok v xs) (a:Nat) (ha:w.heap.size≤a):S d e w base (fun k=>ok k∧k≠a) v xs:=bK_ (S_bound h) (fun k hk=>⟨hk.1,by have:=hk.2.2.1;omega⟩)
theorem S_newB {o:Obj} (h:S d e w1 w.heap.size ok v xs) (hb:w.heap[g]? = some o):S d e w1 w.heap.size (fun k=>ok k∧k≠g) v xs:=bK_ (S_bound h) (fun k hk=>⟨hk.1,by have:=blk_lt hb;have:=hk.2.1;omega⟩)
theorem S_told {N:Nat} (h:S d e w1 base (fun k=>ok k∧k<N) u xs) (hbase:∀k,v.ownBlock=some k→N≤k):S d e w1 base (fun k=>(ok k∧some k≠v.ownBlock)∧k<N) u xs :=
  bK_ h (fun k hk=>⟨⟨hk.1,fun e=>Nat.lt_irrefl _ (Nat.lt_of_lt_of_le hk.2 (hbase k e.symm))⟩,hk.2⟩)
theorem zip_snoc (xs:List α) (p:α):(xs++[p]).zipIdx=xs.zipIdx++[(p,xs.length)]:=by rw[List.zipIdx_append];simp
end
section
open Classical in
theorem S_tag {α:Type} {d:Kd α} {e base:Nat} {okv:Nat→Prop} {w:World} {v:Value} {xs:List α} (h:S d e w base okv v xs) (m:Nat) (okp:Nat→Prop) (hap:∀k,okp k→¬okv k):∃f,(∀k,okp k→f k=m)∧(tag f d).R e w base okv v xs.zipIdx:=by
  obtain⟨f,h⟩:=h
  exact⟨fun k=>if okp k then m else f k,fun k hk=>if_pos hk,R_tag h (fun k hk _=>if_neg (fun h2=>hap k h2 hk))⟩
variable {P:Program} {ops:Array Oper} {rest:List Oper} {o:Oper} {a:Act} {Q:Exit→Act→World→Prop} {Kc:Act→World→Prop} {α:Type}
theorem S_append (d:Kd α) {w0 W:World} (base:Nat) (hgd:o.guard=none) (s x:Operand) (t e:TypeId) (z:Value) (bytes:Nat)
    (ho:o.op=.call { callee:=.builtin .append,args:=#[s,x],argTypes:=#[t,t] })
    (ht:P.underlying t=some (.slice e)) (hinfo:(P.info? e).map (fun i=>(i.zero,i.size,i.bytes))=some (some z,d.sz,bytes)) (hz:z.cells.size=d.sz) (hs0:0<d.sz) (hb0:0<bytes)
    (v:Value) (xs:List α) (p:α) (cs:List Value) (ok okp:Nat→Prop) (hs:a.eval s=v) (hx:a.eval x=.slice (some ⟨W.heap.size,0,none⟩) 1 1) (hp:d.M W base okp p cs) (hokp:∀k,okp k→ok k∧some k≠v.ownBlock) (hfresh:∀k,W.heap.size≤k→ok k)
    (HO:S d e W base (fun k=>ok k∧¬okp k) v xs) (HB:Below base w0 W) (hbase:base≤W.heap.size) (hl:(xs.length+1) * bytes≤140737488355328)
    (h:∀v1 w1,S d e w1 base ok v1 (xs++[p])→Below base w0 w1→W.grownBy w1 v.ownBlock→(v1.ownBlock=v.ownBlock∨∃b,v1.ownBlock=some b∧W.heap.size≤b)→wpList P ops Q rest (a.put o.dst v1) w1) :
    wpList P ops Q (o::rest) a (W.alloc (.cells cs.toArray e)):=by
  obtain⟨f,hf,hR⟩:=S_tag HO xs.length okp (fun _ hk h2=>h2.2 hk)
  refine R_append (tag f d) base hgd s x t e z bytes ho ht hinfo hz hs0 hb0 v xs.zipIdx (p,xs.length) cs ok okp hs hx (d.M_mono (fun k hk=>⟨hk,hf k hk⟩) hp) hokp hfresh (aM_ hR (fun _ hk=>hk.1)) HB hbase (by rw[List.length_zipIdx];exact hl) ?_
  intro v1 w1 hr
  rw[←zip_snoc] at hr
  exact h v1 w1 ⟨f,hr⟩
theorem S_lit (d:Kd α) {w0 W:World} (base e:Nat) (hgd:o.guard=none) {N:Tmp} (_hd:o.dst=some N) {xs:List α} {inner:List Value} {ok okp:Nat→Prop}
    (hrun:(execOp a.eval o).run P W=.ok (.value (.slice (some ⟨W.heap.size,0,none⟩) xs.length xs.length)) (W.alloc (.cells inner.toArray e)))
    (hrep:Reps (d.M W base (fun _=>False)) d.sz xs inner) (_hok:∀k,okp k→ok k) (hfresh:ok W.heap.size) (HB:Below base w0 W) (hbase:base≤W.heap.size) (hm:xs.length≤9223372036854775807)
    (h:∀v1 w1,S d e w1 base ok v1 xs→Below base w0 w1→W.grownBy w1 none→(∃b,v1.ownBlock=some b∧W.heap.size≤b)→wpList P ops Q rest (a.put o.dst v1) w1):wpList P ops Q (o::rest) a W :=
  R_lit (bare d) base e hgd _hd (ok:=ok) (okp:=ok) hrun hrep (fun _ hk=>hk) hfresh HB hbase hm (fun v1 w1 hr=>h v1 w1 (S_bare hr))
theorem S_make (d:Kd α) {w0 W:World} (base e:Nat) (hgd:o.guard=none) {N:Tmp} (hd:o.dst=some N) (t:TypeId) (x y:Operand) (ho:o.op=.makeSlice t x y) (n:Int) (hx:a.eval x=.int .i64 n) (hy:a.eval y=.int .i64 n)
    (ht:P.underlying t=some (.slice e)) (z:Value) (bytes:Nat) (hinfo:(P.info? e).map (fun i=>(i.zero,i.size,i.bytes))=some (some z,d.sz,bytes)) (hz:z.cells.size=d.sz) (hs0:0<d.sz) (hb0:0<bytes)
    (z0:α) {ok okp:Nat→Prop} (hzero:d.M W base (fun _=>False) z0 z.cells.toList) (_hok:∀k,okp k→ok k) (hfresh:ok W.heap.size) (h0:0≤n) (hl:n.toNat * bytes≤281474976710656) (HB:Below base w0 W) (hbase:base≤W.heap.size)
    (h:∀v1 w1,S d e w1 base ok v1 (List.replicate n.toNat z0)→Below base w0 w1→W.grownBy w1 none→(∃b,v1.ownBlock=some b∧W.heap.size≤b)→wpList P ops Q rest (a.put o.dst v1) w1):wpList P ops Q (o::rest) a W :=
  R_make (bare d) base e hgd hd t x y ho n hx hy ht z bytes hinfo hz hs0 hb0 z0 (ok:=ok) (okp:=ok) hzero (fun _ hk=>hk) hfresh h0 hl HB hbase (fun v1 w1 hr=>h v1 w1 (S_bare hr))
end
def gap {α:Type} (f:Nat→Nat) (d:Kd α) (i:Nat) (c:List Value):Kd (α × Nat) where
  sz:=d.sz
  E:=d.E
  K:=fun w x cs=>(x.2=i→cs=c∧cs.length=d.sz∧∀u∈cs,u.oneCell'=true)∧(x.2≠i→d.K w x.1 cs)
  M:=fun w base ok x cs=>(x.2=i→cs=c∧cs.length=d.sz∧∀u∈cs,u.oneCell'=true)∧(x.2≠i→d.M w base (fun k=>ok k∧f k=x.2) x.1 cs)
  K_len:=fun {w x cs} h=>by
    by_cases hx:x.2=i
    · exact(h.1 hx).2.1
    · exact d.K_len (h.2 hx)
  K_one:=fun {w x cs} h=>by
    by_cases hx:x.2=i
    · exact(h.1 hx).2.2
    · exact d.K_one (h.2 hx)
  K_below:=fun hb h=>⟨h.1,fun hx=>d.K_below hb (h.2 hx)⟩
  K_of_M:=fun h=>⟨h.1,fun hx=>d.K_of_M (h.2 hx)⟩
  M_mono:=fun hok h=>⟨h.1,fun hx=>d.M_mono (fun k hk=>⟨hok k hk.1,hk.2⟩) (h.2 hx)⟩
  M_bound:=fun h=>⟨h.1,fun hx=>d.M_mono (fun _ hk=>⟨⟨hk.1.1,hk.2⟩,hk.1.2⟩) (d.M_bound (h.2 hx))⟩
  M_move:=fun hm h=>⟨h.1,fun hx=>d.M_move (fun k hk=>hm k hk.1) (h.2 hx)⟩
  M_lower:=fun hb h=>⟨h.1,fun hx=>d.M_lower hb (h.2 hx)⟩
def H {α:Type} (d:Kd α) (e:Nat) (w:World) (base:Nat) (ok:Nat→Prop) (v:Value) (xs:List α) (i:Int) (oki:Nat→Prop) (c:List Value):Prop :=
  (∀k,oki k→ok k)∧∃f,(gap f d i.toNat c).R e w base (fun k=>ok k∧¬oki k) v xs.zipIdx
section
variable {α β:Type} {d:Kd α} {e e' g n cap:Nat} {w w1 W:World} {base:Nat} {ok ok' oki okp:Nat→Prop} {u v:Value} {xs:List α} {i:Int} {c:List Value}
theorem S_lend (h:S d e W base ok (.slice (some ⟨g,0,none⟩) n cap) xs) (z:α) (i:Int) (h0:0≤i) (h1:i<n) :
    ∃(oki:Nat→Prop) (c:List Value),c.length=d.sz∧d.M W base oki (xs.getD i.toNat z) c∧(∀j u,c[j]? = some u→W.cell? ⟨g,i.toNat * d.sz+j,none⟩=some u)∧(∀k,oki k→ok k∧k≠g)∧H d e W base ok (.slice (some ⟨g,0,none⟩) n cap) xs i oki c:=by
  obtain⟨f,hR⟩:=h
  have hn:=(ag_ hR).1
  rw[List.length_zipIdx] at hn
  have hgo:some g=(Value.slice (some ⟨g,0,none⟩) n cap).ownBlock:=by simp[Value.ownBlock]
  obtain⟨hok0,inner,ho,hr⟩:=hR
  have hil:i.toNat<xs.length:=by omega
  have hlen:inner.length=xs.length * d.sz:=by have:=hr.1;rw[List.length_zipIdx] at this;exact this
  have hseg:i.toNat * d.sz+d.sz≤inner.length:=by rw[hlen,←Nat.succ_mul];exact Nat.mul_le_mul_right _ hil
  have hM:=hr.2 i.toNat _ (zip_at (List.getElem?_eq_getElem hil))
  have hkg:∀k,some k≠(Value.slice (some ⟨g,0,none⟩) n cap).ownBlock→k≠g:=fun k hk he=>hk (by rw[he];exact hgo)
  refine⟨fun k=>(ok k∧k≠g)∧f k=i.toNat,(inner.drop (i.toNat * d.sz)).take d.sz,by rw[List.length_take,List.length_drop];omega,?_,fun j u hu=>?_,fun k hk=>hk.1,fun k hk=>hk.1.1,f,fun k hk=>⟨hok0 k hk,fun h2=>h2.1.2 ?_⟩,inner,ho,hr.1,fun m p hm=>?_⟩
  · rw[List.getD_eq_getElem?_getD,List.getElem?_eq_getElem hil]
    exact d.M_mono (fun k hk=>⟨⟨hk.1.1,hkg k hk.1.2⟩,hk.2⟩) hM
  · rw[List.getElem?_take] at hu
    split at hu
    · rw[List.getElem?_drop] at hu
      have:=ho.cells (g:=g) hgo.symm _ u hu
      rwa [add_plain] at this
    · cases hu
  · rw[←hgo] at hk;injection hk with hk;exact hk.symm
  · have hold:=hr.2 m p hm
    have hp2:p.2=m:=by
      rw[List.getElem?_zipIdx,Nat.zero_add] at hm
      obtain⟨q,_,rfl⟩:=Option.map_eq_some_iff.1 hm
      rfl
    refine⟨fun hx=>?_,fun hx=>d.M_mono (fun k hk=>⟨⟨⟨hk.1.1,fun h2=>hx ?_⟩,hk.1.2⟩,hk.2⟩) hold⟩
    · have hmi:m=i.toNat:=by omega
      subst hmi
      exact⟨rfl,d.K_len (d.K_of_M hM),d.K_one (d.K_of_M hM)⟩
    · rw[←hk.2];exact h2.2
open Classical in
theorem H_back (h:H d e w base ok v xs i oki c) {x':α} (hM:d.M w base okp x' c) (hok:∀k,okp k→oki k):S d e w base ok v (xs.set i.toNat x'):=by
  obtain⟨ho,f,h0,inner,hown,hr⟩:=h
  refine⟨fun k=>if oki k then i.toNat else f k,fun k hk=>(h0 k hk).1,inner,by rw[List.length_zipIdx,List.length_set];rw[List.length_zipIdx] at hown;exact hown,by have:=hr.1;rw[List.length_zipIdx] at this;rw[List.length_zipIdx,List.length_set];exact this,fun m p hm=>?_⟩
  rw[List.getElem?_zipIdx,Nat.zero_add] at hm
  obtain⟨q,hq,rfl⟩:=Option.map_eq_some_iff.1 hm
  have hml:m<xs.length:=by
    have:=(List.getElem?_eq_some_iff.1 hq).1
    rwa [List.length_set] at this
  by_cases hmi:m=i.toNat
  · subst hmi
    rw[List.getElem?_set_self hml] at hq
    injection hq with hq
    subst hq
    have hc:=((hr.2 i.toNat _ (zip_at (List.getElem?_eq_getElem hml))).1 rfl).1
    show d.M w base _ x' ((inner.drop (i.toNat * d.sz)).take d.sz)
    rw[show(inner.drop (i.toNat * d.sz)).take d.sz=c from hc]
    exact d.M_mono (fun k hk=>⟨⟨ho k (hok k hk),fun he=>(h0 k he.symm).2 (hok k hk)⟩,if_pos (hok k hk)⟩) hM
  · rw[List.getElem?_set_ne (Ne.symm hmi)] at hq
    exact d.M_mono (fun k hk=>⟨⟨hk.1.1.1,hk.1.2⟩,(if_neg hk.1.1.2).trans hk.2⟩) ((hr.2 m (q,m) (zip_at hq)).2 hmi)
theorem H_widen (h:H d e w base ok v xs i oki c):H d e w base ok v xs i (fun k=>oki k∨ok k∧w.heap.size≤k) c:=by
  obtain⟨ho,f,h⟩:=h
  exact⟨fun k hk=>hk.elim (ho k) (fun h2=>h2.1),f,aM_ (R_bound h) (fun k hk=>⟨hk.1.1,fun h2=>h2.elim hk.1.2 (fun h3=>by have:=hk.2.2.1;omega)⟩)⟩
theorem H_step (h:H d e w base ok v xs i oki c) (hm:∀k,ok k→¬oki k→k<w.heap.size→w1.heap[k]? = w.heap[k]?):H d e w1 base ok v xs i oki c:=by
  obtain⟨ho,f,h⟩:=h
  exact⟨ho,f,R_step h (fun k hk hlt=>hm k hk.1 hk.2 hlt)⟩
theorem H_mono (h:H d e w base ok v xs i oki c) (hok:∀k,ok k→ok' k):H d e w base ok' v xs i oki c:=by
  obtain⟨ho,f,h⟩:=h
  exact⟨fun k hk=>hok k (ho k hk),f,aM_ h (fun k hk=>⟨hok k hk.1,hk.2⟩)⟩
theorem H_more {okg:Nat→Prop} (h:H d e w base (fun k=>ok k∧¬okg k) v xs i oki c) (hg:∀k,okg k→ok k):H d e w base ok v xs i (fun k=>oki k∨okg k) c:=by
  obtain⟨ho,f,h⟩:=h
  exact⟨fun k hk=>hk.elim (fun h2=>(ho k h2).1) (hg k),f,aM_ h (fun k hk=>⟨hk.1.1,fun h2=>h2.elim hk.2 hk.1.2⟩)⟩
theorem S_elem (h:S d e W base ok (.slice (some ⟨g,0,none⟩) n cap) xs) (z:α) (i:Int) (h0:0≤i) (h1:i<n) :
    ∃(oki:Nat→Prop) (c:List Value),c.length=d.sz∧d.M W base oki (xs.getD i.toNat z) c∧(∀j u,c[j]? = some u→W.cell? ⟨g,i.toNat * d.sz+j,none⟩=some u)∧(∀j,W.frozen? ⟨g,i.toNat * d.sz+j,none⟩=false)∧(∀k,oki k→ok k∧k≠g)∧H d e W base ok (.slice (some ⟨g,0,none⟩) n cap) xs i oki c:=by
  obtain⟨_,_,_,_,hfr⟩:=R_elem (S_R h) z i h0 h1
  obtain⟨oki,c,hcl,hM,hcc,hoki,hH⟩:=S_lend h z i h0 h1
  exact⟨oki,c,hcl,hM,hcc,hfr,hoki,hH⟩
theorem H_raw (h:H d e W base ok (.slice (some ⟨g,0,none⟩) n cap) xs i oki c) (h0:0≤i) (h1:i<n) :
    ∃rows:List (List Value),rows.length=xs.length∧(raw d.sz).R e W base (fun _=>True) (.slice (some ⟨g,0,none⟩) n cap) rows∧c.length=d.sz∧(∀u∈c,u.oneCell'=true)∧(∀j u,c[j]? = some u→W.cell? ⟨g,i.toNat * d.sz+j,none⟩=some u) ∧
      ∀w1 c',W.grownBy w1 (some g)→(raw d.sz).R e w1 base (fun _=>True) (.slice (some ⟨g,0,none⟩) n cap) (rows.set i.toNat c')→H d e w1 base ok (.slice (some ⟨g,0,none⟩) n cap) xs i oki c':=by
  obtain⟨hoo,f,hR⟩:=h
  have hn:=(ag_ hR).1
  rw[List.length_zipIdx] at hn
  have hgo:some g=(Value.slice (some ⟨g,0,none⟩) n cap).ownBlock:=by simp[Value.ownBlock]
  obtain⟨hok0,inner,ho,hr⟩:=hR
  have hil:i.toNat<xs.length:=by omega
  have hlen:inner.length=xs.length * d.sz:=by have:=hr.1;rw[List.length_zipIdx] at this;exact this
  have hkg:∀k,some k≠(Value.slice (some ⟨g,0,none⟩) n cap).ownBlock→k≠g:=fun k hk he=>hk (by rw[he];exact hgo)
  have hci:=(hr.2 i.toNat _ (zip_at (List.getElem?_eq_getElem hil))).1 rfl
  rw[hci.1] at hci
  have hc:=((hr.2 i.toNat _ (zip_at (List.getElem?_eq_getElem hil))).1 rfl).1
  refine⟨(List.range xs.length).map fun j=>(inner.drop (j * d.sz)).take d.sz,by rw[List.length_map,List.length_range],⟨fun _ _=>trivial,inner,?_,?_,fun j p hj=>?_⟩,hci.2.1,hci.2.2,fun j u hu=>?_,fun w1 c' hg hraw=>?_⟩
  · rw[List.length_map,List.length_range];rw[List.length_zipIdx] at ho;exact ho
  · rw[List.length_map,List.length_range];exact hlen
  · rw[List.getElem?_map] at hj
    obtain⟨j',hj',rfl⟩:=Option.map_eq_some_iff.1 hj
    obtain⟨hl,he⟩:=List.getElem?_eq_some_iff.1 hj'
    rw[List.getElem_range] at he
    subst he
    rw[List.length_range] at hl
    have hm:=(gap f d i.toNat c).K_of_M (hr.2 j _ (zip_at (List.getElem?_eq_getElem hl)))
    exact⟨rfl,(gap f d i.toNat c).K_len hm,(gap f d i.toNat c).K_one hm⟩
  · rw[←hc,List.getElem?_take] at hu
    split at hu
    · rw[List.getElem?_drop] at hu
      have:=ho.cells (g:=g) hgo.symm _ u hu
      rwa [add_plain] at this
    · cases hu
  · obtain⟨_,inner',ho',hr'⟩:=hraw
    have hl':inner'.length=xs.length * d.sz:=by have:=hr'.1;rw[List.length_set,List.length_map,List.length_range] at this;exact this
    rw[List.length_set,List.length_map,List.length_range] at ho'
    refine⟨hoo,f,hok0,inner',by rw[List.length_zipIdx];exact ho',by rw[List.length_zipIdx];exact hl',fun m p hm=>?_⟩
    rw[List.getElem?_zipIdx,Nat.zero_add] at hm
    obtain⟨q,hq,rfl⟩:=Option.map_eq_some_iff.1 hm
    have hml:m<xs.length:=(List.getElem?_eq_some_iff.1 hq).1
    have hold:=hr.2 m (q,m) (zip_at hq)
    refine⟨fun hx=>?_,fun hx=>?_⟩
    · have hx':m=i.toNat:=hx
      subst hx'
      exact hr'.2 i.toNat c' (List.getElem?_set_self (by rw[List.length_map,List.length_range];exact hml))
    · have hx':m≠i.toNat:=hx
      have hcm:=(hr'.2 m ((inner.drop (m * d.sz)).take d.sz) (by
        rw[List.getElem?_set_ne (Ne.symm hx'),List.getElem?_map,List.getElem?_eq_getElem (by rw[List.length_range];exact hml),List.getElem_range]
        rfl)).1
      show d.M w1 base _ q ((inner'.drop (m * d.sz)).take d.sz)
      rw[show(inner'.drop (m * d.sz)).take d.sz=_ from hcm]
      exact d.M_mono (fun k hk=>hk.1) (d.M_move (w1:=w1) (fun k hk=>hg.block k hk.2.2.1 (fun he=>hkg k hk.1.1.2 (by injection he))) (d.M_bound (hold.2 hx)))
theorem H_seg (h:H d e W base ok (.slice (some ⟨g,0,none⟩) n cap) xs i oki c) (h0:0≤i) (h1:i<n) {seg:List Value} {j:Nat} (hj:j+seg.length≤d.sz) (hone:∀q∈seg,q.oneCell'=true) :
    H d e (W.setCells g (i.toNat * d.sz+j) seg) base ok (.slice (some ⟨g,0,none⟩) n cap) xs i oki (c.take j++seg++c.drop (j+seg.length))∧W.grownBy (W.setCells g (i.toNat * d.sz+j) seg) (some g):=by
  obtain⟨rows,_,hraw,hcl,hco,hcc,hback⟩:=H_raw h h0 h1
  obtain⟨h2,h3⟩:=R_seg hraw i h0 h1 (c:=c) (seg:=seg) (j:=j) (x':=c.take j++seg++c.drop (j+seg.length)) (okp:=fun _=>False) hcl hcc hj
    ⟨rfl,by
      show(c.take j++seg++c.drop (j+seg.length)).length=d.sz
      simp only[List.length_append,List.length_take,List.length_drop];omega,fun u hu=>by
      rcases List.mem_append.1 hu with hu|hu
      · rcases List.mem_append.1 hu with hu|hu
        · exact hco u (List.mem_of_mem_take hu)
        · exact hone u hu
      · exact hco u (List.mem_of_mem_drop hu)⟩ (fun _ hk=>hk.elim)
  exact⟨hback _ _ h3 h2,h3⟩
theorem S_seg {okg:Nat→Prop} (hH:H d e W base (fun k=>ok k∧¬okg k) (.slice (some ⟨g,0,none⟩) n cap) xs i oki c) (h0:0≤i) (h1:i<n) {seg:List Value} {j:Nat} (hj:j+seg.length≤d.sz)
    {x':α} (hM:d.M W base okp x' (c.take j++seg++c.drop (j+seg.length))) (hokp:∀k,okp k→oki k∨okg k) (hg:∀k,okg k→ok k∧k≠g) :
    S d e (W.setCells g (i.toNat * d.sz+j) seg) base ok (.slice (some ⟨g,0,none⟩) n cap) (xs.set i.toNat x')∧W.grownBy (W.setCells g (i.toNat * d.sz+j) seg) (some g):=by
  have hne:∀k,oki k∨okg k→k≠g:=by
    intro k hk he
    subst he
    rcases hk with hk|hk
    · obtain⟨_,f,hR⟩:=hH
      exact(hR.1 k (by simp[Value.ownBlock])).2 hk
    · exact(hg k hk).2 rfl
  obtain⟨h2,h3⟩:=H_seg (H_more hH (fun k hk=>(hg k hk).1)) h0 h1 hj (fun q hq=>d.K_one (d.K_of_M hM) q (List.mem_append_left _ (List.mem_append_right _ hq)))
  exact⟨H_back h2 (M_step hM (fun k hk hlt=>h3.block k hlt (fun he=>hne k (hokp k hk) (by injection he)))) hokp,h3⟩
end
section
variable {P:Program} {ops:Array Oper} {rest:List Oper} {o:Oper} {a:Act} {Q:Exit→Act→World→Prop} {α:Type}
end
end Kd
end Go.Proofs.YtenpejebbeoceaaGreatDoorW.PrintWords
end
section
namespace Go.Proofs.YtenpejebbeoceaaGreatDoorW.PrintWords
open Go.RowKit
namespace Kd
theorem reps_one {α:Type} {R:α→List Value→Prop} {size:Nat} {ps:List α} {cs:List Value} (h:Reps R size ps cs) (hs0:0<size) (hR:∀p c,R p c→∀u∈c,u.oneCell'=true):∀u∈cs,u.oneCell'=true:=by
  intro u hu
  obtain⟨q,hq,rfl⟩:=List.mem_iff_getElem.1 hu
  have hql:q / size<ps.length:=by
    rw[Nat.div_lt_iff_lt_mul hs0,←h.1]
    exact hq
  refine hR _ _ (h.2 (q / size) _ (List.getElem?_eq_getElem hql)) _ ?_
  rw[List.mem_iff_getElem?]
  refine⟨q % size,?_⟩
  rw[List.getElem?_take,if_pos (Nat.mod_lt _ hs0),List.getElem?_drop,Nat.mul_comm,Nat.div_add_mod,List.getElem?_eq_getElem hq]
section
variable {α:Type} {n:Nat} {d:Kd α} {hs:0<d.sz} {w:World} {base:Nat} {ok:Nat→Prop} {xs:List α} {cs:List Value}
end
section
variable {α:Type} {n:Nat} {enc:α→Value} {h1:∀x,(enc x).oneCell'=true} {hs:0<(scalar enc h1).sz} {w:World} {base:Nat} {ok:Nat→Prop} {xs:List α} {cs:List Value}
end
end Kd
end Go.Proofs.YtenpejebbeoceaaGreatDoorW.PrintWords
end
section
namespace Go.Proofs.YtenpejebbeoceaaGreatDoorW.PrintWords
open Go.RowKit
section
variable {P:Program}
end
namespace Kd
section
variable {P:Program} {ops:Array Oper} {rest:List Oper} {o:Oper} {a:Act} {Q:Exit→Act→World→Prop} {Kc:Act→World→Prop} {α:Type}
end
section
variable {α:Type} {d:Kd α} {e:Nat} {w:World} {base:Nat} {ok:Nat→Prop} {v:Value} {xs:List α}
end
section
variable {P:Program} {ops:Array Oper} {rest:List Oper} {o:Oper} {a:Act} {Q:Exit→Act→World→Prop} {Kc:Act→World→Prop} {α:Type}
end
end Kd
end Go.Proofs.YtenpejebbeoceaaGreatDoorW.PrintWords
end
section
namespace Go.Proofs.YtenpejebbeoceaaGreatDoorW.PrintWords
open Go.RowKit
namespace Kd
section
variable {α:Type} {d:Kd α} {e base g n c:Nat} {ok:Nat→Prop} {w w0 W:World} {A:Option Addr} {xs:List α}
end
end Kd
end Go.Proofs.YtenpejebbeoceaaGreatDoorW.PrintWords
end
section
namespace Go.Proofs.YtenpejebbeoceaaGreatDoorW.PrintWords
open Go.RowKit
def Kept (w W:World) (S:Nat→Prop):Prop:=w.heap.size≤W.heap.size∧∀i,i<w.heap.size→¬S i→W.heap[i]? = w.heap[i]?
section
variable {w W W2:World} {S S2 S':Nat→Prop}
theorem Kept.refl (w:World) (S:Nat→Prop):Kept w w S:=⟨Nat.le_refl _,fun _ _ _=>rfl⟩
theorem Kept.of_below (h:Below w.heap.size w W) (S:Nat→Prop):Kept w W S:=⟨h.size,fun i hi _=>h.block i hi⟩
theorem Kept.mono (h:Kept w W S) (hs:∀k,S k→S' k):Kept w W S':=⟨h.1,fun i hi hn=>h.2 i hi (fun hk=>hn (hs i hk))⟩
theorem Kept.then_ (h:Kept w W S) (k:Kept W W2 S2) (hs:∀k,S2 k→S k∨w.heap.size≤k):Kept w W2 S :=
  ⟨Nat.le_trans h.1 k.1,fun i hi hn=>(k.2 i (Nat.lt_of_lt_of_le hi h.1) (fun h2=>(hs i h2).elim hn (fun h3=>by omega))).trans (h.2 i hi hn)⟩
theorem Kept.of_grown {row:Option Nat} (hg:W.grownBy W2 row) (h:Kept w W S) (hr:∀k,row=some k→S k∨w.heap.size≤k):Kept w W2 S :=
  h.then_ (S2:=fun k=>row=some k) ⟨hg.size,fun i hi hn=>hg.block i hi (fun he=>hn he.symm)⟩ hr
theorem Kept.below (h:Kept w W S) (hb:Below W.heap.size W W2):Kept w W2 S:=h.then_ (Kept.of_below hb (fun _=>False)) (fun _ hk=>hk.elim)
theorem Kept.drew (h:Kept w W S):Kept w W.drew S:=h
theorem Kept.setCell (h:Kept w W S) {p:Addr} (hp:S p.block∨w.heap.size≤p.block) (u:Value):Kept w (W.setCell p u) S :=
  h.then_ (S2:=fun k=>k=p.block) ⟨by simp[World.setCell],fun i _ hn=>Below.heap_setCell W p u i hn⟩ (fun k hk=>by rw[hk];exact hp)
theorem blk_kept {g:Nat} {o:Obj} (hb:W.heap[g]? = some o) (hk:Kept W W2 S) (hne:¬S g):W2.heap[g]? = some o:=(hk.2 g (blk_lt hb) hne).trans hb
end
namespace Kd
section
variable {α:Type} {d:Kd α} {e base n c:Nat} {ok oki S S2:Nat→Prop} {w w0 W W1 W2:World} {v:Value} {A:Option Addr} {xs:List α} {i:Int} {cs:List Value}
theorem R_kept (h:d.R e W base ok v xs) (hk:Kept W W2 S) (hne:∀k,ok k→¬S k):d.R e W2 base ok v xs:=R_step h (fun k ho hlt=>hk.2 k hlt (hne k ho))
theorem S_kept (h:Kd.S d e W base ok v xs) (hk:Kept W W2 S) (hne:∀k,ok k→¬S k):Kd.S d e W2 base ok v xs:=S_step h (fun k ho hlt=>hk.2 k hlt (hne k ho))
end
end Kd
end Go.Proofs.YtenpejebbeoceaaGreatDoorW.PrintWords
end
section
namespace Go.Proofs.YtenpejebbeoceaaGreatDoorW.PrintWords
open Go.RowKit
def Foot (P:World→Prop) (W:World) (ok:Nat→Prop):Prop:=∀W':World,(∀k,ok k→k<W.heap.size→W'.heap[k]? = W.heap[k]?)→P W'
theorem heap_lt {W W1:World} {k:Nat} (h:W1.heap[k]? = W.heap[k]?) (hlt:k<W.heap.size):k<W1.heap.size:=by
  rw[Array.getElem?_eq_getElem hlt] at h
  exact(Array.getElem?_eq_some_iff.1 h).1
namespace Foot
variable {P Q:World→Prop} {W W1:World} {ok ok':Nat→Prop}
theorem now (h:Foot P W ok):P W:=h W (fun _ _ _=>rfl)
theorem mono (h:Foot P W ok) (hok:∀k,ok k→ok' k):Foot P W ok':=fun W' hW=>h W' (fun k hk hlt=>hW k (hok k hk) hlt)
theorem step (h:Foot P W ok) (hm:∀k,ok k→k<W.heap.size→W1.heap[k]? = W.heap[k]?):Foot P W1 ok:=fun W' hW=>h W' (fun k hk hlt=>(hW k hk (heap_lt (hm k hk hlt) hlt)).trans (hm k hk hlt))
theorem imp (h:Foot P W ok) (hi:∀W',P W'→Q W'):Foot Q W ok:=fun W' hW=>hi W' (h W' hW)
end Foot
namespace Kd
def F {α:Type} (d:Kd α) (W:World) (ok:Nat→Prop) (A:Option Addr) (n:Nat) (xs:List α):Prop:=Foot (fun W=>d.C W A n xs) W ok
def FK {α:Type} (d:Kd α) (W:World) (ok:Nat→Prop) (x:α) (c:List Value):Prop:=Foot (fun W=>d.K W x c) W ok
section
variable {α β:Type} {d:Kd α} {e base n n' cc g N:Nat} {ok ok' okp S:Nat→Prop} {w w0 w1 W W1:World} {A A':Option Addr} {u v v1:Value} {xs:List α} {xs':List β} {d':Kd β} {x:α} {c:List Value}
theorem F_now (h:F d W ok A n xs):d.C W A n xs:=Foot.now h
theorem F_mono (h:F d W ok A n xs) (hok:∀k,ok k→ok' k):F d W ok' A n xs:=Foot.mono h hok
theorem F_step (h:F d W ok A n xs) (hm:∀k,ok k→k<W.heap.size→W1.heap[k]? = W.heap[k]?):F d W1 ok A n xs:=Foot.step h hm
theorem F_below (h:F d W ok A n xs) (hb:Below W.heap.size W W1):F d W1 ok A n xs:=F_step h (fun k _ hlt=>hb.block k hlt)
theorem F_drewN (h:F d W ok A n xs) (m:Nat):F d (W.drewN m) ok A n xs:=F_below h (aV_ (Below.refl _ _) m)
end
end Kd
end Go.Proofs.YtenpejebbeoceaaGreatDoorW.PrintWords
end
section
namespace Go.Proofs.YtenpejebbeoceaaGreatDoorW.PrintWords
open Go.RowKit
namespace Kd
def chunks (sz:Nat) (n:Nat) (inner:List Value):List (List Value):=(List.range n).map fun j=>(inner.drop (j * sz)).take sz
theorem chunks_length (sz n:Nat) (inner:List Value):(chunks sz n inner).length=n:=by simp[chunks]
theorem chunks_at {sz n:Nat} {inner:List Value} {j:Nat} (hj:j<n):(chunks sz n inner)[j]? = some ((inner.drop (j * sz)).take sz):=by simp[chunks,hj]
theorem chunks_get {sz n:Nat} {inner:List Value} {j:Nat} {c:List Value} (h:(chunks sz n inner)[j]? = some c):c=(inner.drop (j * sz)).take sz:=by
  have hj:j<n:=by have:=(List.getElem?_eq_some_iff.1 h).1;rwa [chunks_length] at this
  rw[chunks_at hj] at h
  injection h with h
  exact h.symm
section
variable {α:Type} {d:Kd α} {e base n cc g:Nat} {ok ok' okp S:Nat→Prop} {w w1 W W1:World} {A:Option Addr} {u v v1:Value} {xs:List α} {x:α} {c:List Value}
def N {α:Type} (d:Kd α) (e:Nat) (w:World) (base:Nat) (ok:Nat→Prop) (v:Value) (xs:List α):Prop :=
  (∀k,v.ownBlock=some k→ok k)∧∃rows:List (List Value),rows.length=xs.length∧(raw d.sz).R e w base (fun k=>some k=v.ownBlock) v rows∧∀(j:Nat) (x:α) (c:List Value),xs[j]? = some x→rows[j]? = some c→FK d w (fun k=>ok k∧some k≠v.ownBlock) x c
end
end Kd
end Go.Proofs.YtenpejebbeoceaaGreatDoorW.PrintWords
end
section
namespace Go.Proofs.YtenpejebbeoceaaGreatDoorW.PrintWords
open Go.RowKit
namespace Kd
section
variable {α:Type} {d:Kd α} {e base n cap g:Nat} {ok ok' okp:Nat→Prop} {w w1 W:World} {v v1:Value} {xs ys:List α}
end
section
variable {P:Program} {ops:Array Oper} {rest:List Oper} {o:Oper} {a:Act} {Q:Exit→Act→World→Prop} {Kc:Act→World→Prop} {α:Type}
end
end Kd
end Go.Proofs.YtenpejebbeoceaaGreatDoorW.PrintWords
end
section
namespace Go.Proofs.YtenpejebbeoceaaGreatDoorW.PrintMore
open Go.RowKit Go.Proofs.YtenpejebbeoceaaGreatDoorW.PrintWords
namespace Kd
open Go.Proofs.YtenpejebbeoceaaGreatDoorW.PrintWords.Kd
end Kd
namespace Kd
open Go.Proofs.YtenpejebbeoceaaGreatDoorW.PrintWords.Kd
section
variable {α:Type} {d:Kd α} {e base g N:Nat} {ok:Nat→Prop} {W w1:World} {u v:Value} {xs:List α}
end
end Kd
theorem max2_int (k k':IntKind) (x y:Int):Builtin.max2 (.int k x) (.int k' y)=pure (.int k (if x<y then y else x)):=by simp only[Builtin.max2,gt_iff_lt]
theorem min2_int (k k':IntKind) (x y:Int):Builtin.min2 (.int k x) (.int k' y)=pure (.int k (if y<x then y else x)):=by simp only[Builtin.min2]
theorem max_two (ats:Array TypeId) (ty:TypeId) (a b:Value):Builtin.max_ ats ty #[a,b]=(Builtin.max2 a b >>= fun s=>pure s):=by simp only[Builtin.max_,List.foldlM_cons,List.foldlM_nil]
theorem min_two (ats:Array TypeId) (ty:TypeId) (a b:Value):Builtin.min_ ats ty #[a,b]=(Builtin.min2 a b >>= fun s=>pure s):=by simp only[Builtin.min_,List.foldlM_cons,List.foldlM_nil]
theorem max_three (ats:Array TypeId) (ty:TypeId) (a b c:Value):Builtin.max_ ats ty #[a,b,c]=(Builtin.max2 a b >>= fun s=>Builtin.max2 s c >>= fun s=>pure s):=by simp only[Builtin.max_,List.foldlM_cons,List.foldlM_nil]
theorem min_three (ats:Array TypeId) (ty:TypeId) (a b c:Value):Builtin.min_ ats ty #[a,b,c]=(Builtin.min2 a b >>= fun s=>Builtin.min2 s c >>= fun s=>pure s):=by simp only[Builtin.min_,List.foldlM_cons,List.foldlM_nil]
theorem max_four (ats:Array TypeId) (ty:TypeId) (a b c d:Value):Builtin.max_ ats ty #[a,b,c,d]=(Builtin.max2 a b >>= fun s=>Builtin.max2 s c >>= fun s=>Builtin.max2 s d >>= fun s=>pure s):=by simp only[Builtin.max_,List.foldlM_cons,List.foldlM_nil]
theorem min_four (ats:Array TypeId) (ty:TypeId) (a b c d:Value):Builtin.min_ ats ty #[a,b,c,d]=(Builtin.min2 a b >>= fun s=>Builtin.min2 s c >>= fun s=>Builtin.min2 s d >>= fun s=>pure s):=by simp only[Builtin.min_,List.foldlM_cons,List.foldlM_nil]
end Go.Proofs.YtenpejebbeoceaaGreatDoorW.PrintMore
namespace Go.Proofs.YtenpejebbeoceaaGreatDoorW.PrintWords
open Go.RowKit
section
variable {P:Program} {ops:Array Oper} {rest:List Oper} {o:Oper} {a:Act} {Q:Exit→Act→World→Prop} {W:World}
theorem bH_ {f:FuncId} {ars:Array Operand} {ts:Array TypeId} (_ho:o.op=.call { callee:=.value (.func f),args:=ars,argTypes:=ts }) (h:wpList P ops Q (o::rest) a W):wpList P ops Q (o::rest) a W:=h
theorem bN_ {b:Builtin} {xs:Array Operand} {ts:Array TypeId} (_ho:o.op=.call { callee:=.builtin b,args:=xs,argTypes:=ts }) (h:wpList P ops Q (o::rest) a W):wpList P ops Q (o::rest) a W:=h
end
def mn (a b:Int):Int:=if b<a then b else a
def shl (k:IntKind) (x y:Int):Int:=k.wrap (x * 2 ^ min y.toNat k.bits)
def shr (k:IntKind) (x y:Int):Int:=x / 2 ^ min y.toNat k.bits
theorem shr_small {k:IntKind} {x y j:Int} (h:shr k x y=j) (hy:y≤k.bits):x / 2 ^ y.toNat=j:=by rw[←h];unfold shr;rw[Nat.min_eq_left (by omega)]
theorem drewN_self (w:World) (n:Nat):w.drewN n=w.drewN n:=rfl
namespace Kd
section
variable {α:Type} {d:Kd α} {e base:Nat} {ok:Nat→Prop} {W w1:World} {v:Value} {xs:List α}
end
section
variable {α:Type} {d:Kd α} {e base g n cap:Nat} {ok oki okp:Nat→Prop} {W:World} {xs:List α} {i:Int} {c:List Value}
end
section
variable {α:Type} {d:Kd α} {e base b b' g N:Nat} {ok ok1:Nat→Prop} {W W2 w1:World} {u v:Value} {xs ys:List α} {S:Nat→Prop}
theorem R_reok (hE:d.E=[]) (h:d.R e W base ok1 v xs) (hok:∀k,v.ownBlock=some k→ok k):d.R e W base ok v xs:=aM_ (R_tight hE h) (fun k hk=>hok k hk.symm)
theorem R_keptB (h:d.R e W base ok v xs) (hk:Kept W W2 S) (hne:∀k,ok k→¬S k):d.R e W2 base (fun k=>ok k∧(¬S k∧k<W.heap.size)) v xs :=
  R_kept (aM_ (R_bound h) (fun k hk=>⟨hk.1,hne k hk.1,hk.2.2.1⟩)) hk (fun _ hk=>hk.2.1)
end
end Kd
end Go.Proofs.YtenpejebbeoceaaGreatDoorW.PrintWords
namespace Go.Proofs.YtenpejebbeoceaaGreatDoorW.PrintWords
open Go.RowKit
namespace Kd
def V {α:Type} (d:Kd α) (_e:Nat) (W:World) (_base:Nat) (ok:Nat→Prop) (v:Value) (xs:List α):Prop:=∃A c,v=.slice A xs.length c∧xs.length≤c∧F d W ok A xs.length xs
section
variable {α β:Type} {d:Kd α} {e base base' n m c g N' lo hi:Nat} {ok ok' S:Nat→Prop} {w W w1:World} {A:Option Addr} {ad:Addr} {u v v1:Value} {xs:List α}
theorem V_map (h:V d e W base ok v xs) (hF:∀A,F d W ok A xs.length xs→F d w1 ok' A xs.length xs):V d e w1 base' ok' v xs:=by
  obtain⟨A,c,hv,hl,hf⟩:=h
  exact⟨A,c,hv,hl,hF A hf⟩
theorem V_mk (hl:xs.length≤c) (hf:F d W ok A xs.length xs):V d e W base ok (.slice A xs.length c) xs:=⟨A,c,rfl,hl,hf⟩
theorem V_slice (h:V d e W base ok v xs):∃A c,v=.slice A xs.length c:=by
  obtain⟨A,c,hv,_⟩:=h
  exact⟨A,c,hv⟩
theorem V_at (h:V d e W base ok (.slice A n c) xs):n=xs.length∧n≤c∧F d W ok A xs.length xs:=by
  obtain⟨A',c',hv,hl,hf⟩:=h
  injection hv with ha hn hc
  subst ha;subst hc
  exact⟨hn,by rw[hn];exact hl,hf⟩
theorem V_reads' (h:V d e W base ok (.slice A n c) xs):n=xs.length∧n≤c∧d.C W A xs.length xs:=⟨(V_at h).1,(V_at h).2.1,F_now (V_at h).2.2⟩
theorem V_mono (h:V d e W base ok v xs) (hok:∀k,ok k→ok' k):V d e W base ok' v xs:=V_map h (fun _ hf=>F_mono hf hok)
theorem V_lower (h:V d e W base ok v xs) (_:base'≤base):V d e W base' ok v xs:=h
theorem V_below (h:V d e W base ok v xs) (hb:Below W.heap.size W w1):V d e w1 base ok v xs:=V_map h (fun _ hf=>F_below hf hb)
theorem V_drewN (h:V d e W base ok v xs) (m:Nat):V d e (W.drewN m) base ok v xs:=V_map h (fun _ hf=>F_drewN hf m)
end
end Kd
end Go.Proofs.YtenpejebbeoceaaGreatDoorW.PrintWords
end
section
set_option linter.unusedVariables false
namespace Go.Proofs.YtenpejebbeoceaaGreatDoorW.PrintLast
open Go.RowKit
section
variable {P:Program} {ops:Array Oper} {Q:Exit→Act→World→Prop}
end
end Go.Proofs.YtenpejebbeoceaaGreatDoorW.PrintLast
namespace Go.Proofs.YtenpejebbeoceaaGreatDoorW.PrintLast
open Go.Proofs.YtenpejebbeoceaaGreatDoorW.PrintWords
theorem Kd.C_none_nil {α:Type} {d:Kd α} {w:World} {n:Nat} {xs:List α} (h:d.C w none n xs):xs=[]:=by
  obtain⟨h1,h2,h3⟩:=h
  cases n with
  | zero=>exact List.eq_nil_of_length_eq_zero h1
  | succ n =>
    obtain⟨ad,e,_⟩:=h3 (Nat.succ_pos n)
    cases e
end Go.Proofs.YtenpejebbeoceaaGreatDoorW.PrintLast
end
section
namespace Go.Proofs.YtenpejebbeoceaaGreatDoorW.PrintLast
open Go.Proofs.YtenpejebbeoceaaGreatDoorW.PrintWords (Aside0)
section
def needsOf (md:Region.Mode) (o:Oper):List Nat:=(o.after.toList.filter (fun e=>Region.binds md e)).map (fun e=>e.on)
def clashOf (md:Region.Mode) (ops:Array Oper) (i:Nat) (oi:Oper):List Nat:=(List.range ops.size).filter fun j => !(j==i)&&match ops[j]? with
  | some oj => !(oj.after.any (fun e=>Region.binds md e&&e.on==i)||oi.apart ops oj)
  | none=>false
def rtab (md:Region.Mode) (ops:Array Oper):Bool × List (List Nat × List Nat):=(Region.noSelect ops,(List.range ops.size).map fun i=>match ops[i]? with
  | some o=>(needsOf md o,clashOf md ops i o)
  | none=>([],[]))
def readyAt (T:List (List Nat × List Nat)) (l:List Bool) (i:Nat):Bool := !l.getD i true&&match T[i]? with
  | some r=>r.1.all (fun j=>l.getD j false)
  | none=>false
def readyT (T:List (List Nat × List Nat)) (l:List Bool):List Nat:=(List.range T.length).filter (readyAt T l)
def freeT (T:List (List Nat × List Nat)) (l:List Bool) (i:Nat):Bool:=match T[i]? with
  | some r=>r.2.all (fun j=>l.getD j true)
  | none=>false
def closedT (T:List (List Nat × List Nat)) (l:List Bool):Bool:=(List.range T.length).all fun j => !l.getD j false||match T[j]? with
  | some r=>r.1.all (fun k=>l.getD k false)
  | none=>true
def reachT (T:List (List Nat × List Nat)) (i:Nat):Nat→Nat→Bool
  | 0,_=>false
  | fuel+1,d=>match T[d]? with
    | some r=>r.1.any fun j=>j==i||reachT T i fuel j
    | none=>false
def lastT (T:List (List Nat × List Nat)) (l:List Bool) (ds:List Nat) (i:Nat):Bool:=ds.all fun d=>l.getD d true||reachT T i T.length d
section
variable {md:Region.Mode} {ops:Array Oper} {T:Bool × List (List Nat × List Nat)} {l l' li lj lk:Array Bool} {ds:List Nat} {i j k:Nat}
theorem gd (l:Array Bool) (j:Nat) (b:Bool):l.getD j b=l.toList.getD j b:=by simp[Array.getD_eq_getD_getElem?,List.getD_eq_getElem?_getD]
theorem needs_all (o:Oper) (p:Nat→Bool):o.after.all (fun e => !Region.binds md e||p e.on)=(needsOf md o).all p:=by
  unfold needsOf
  rw[←Array.all_toList]
  induction o.after.toList with
  | nil=>rfl
  | cons e r ih =>
    rw[List.all_cons,ih,List.filter_cons]
    cases h:Region.binds md e<;>simp
theorem needs_any (o:Oper) (p:Nat→Bool):o.after.any (fun e=>Region.binds md e&&p e.on)=(needsOf md o).any p:=by
  unfold needsOf
  rw[←Array.any_toList]
  induction o.after.toList with
  | nil=>rfl
  | cons e r ih =>
    rw[List.any_cons,ih,List.filter_cons]
    cases h:Region.binds md e<;>simp
theorem rtab_length:(rtab md ops).2.length=ops.size:=by simp[rtab]
theorem rtab_some {o:Oper} (h:ops[i]? = some o):(rtab md ops).2[i]? = some (needsOf md o,clashOf md ops i o):=by
  have hi:=(Array.getElem?_eq_some_iff.1 h).1
  unfold rtab
  rw[List.getElem?_map,List.getElem?_range hi,Option.map_some,h]
theorem rtab_none (h:ops[i]? = none):(rtab md ops).2[i]? = none:=by
  have hi:ops.size≤i:=Array.getElem?_eq_none_iff.1 h
  exact List.getElem?_eq_none (by rw[rtab_length];exact hi)
theorem readyAt_eq:readyAt (rtab md ops).2 l.toList i=(!l.getD i true&&((ops[i]?).map (·.after.all fun e => !Region.binds md e||l.getD e.on false)).getD false):=by
  unfold readyAt
  rw[gd]
  cases h:ops[i]? with
  | none=>rw[rtab_none h];rfl
  | some o =>
    rw[rtab_some h]
    simp only[Option.map_some,Option.getD_some]
    rw[←needs_all]
    simp only[gd]
theorem ready_eq:Region.ready md ops l=readyT (rtab md ops).2 l.toList:=by
  unfold Region.ready readyT
  rw[rtab_length]
  refine List.filter_congr (fun i _=>?_)
  rw[readyAt_eq]
theorem free_eq:Region.free md ops l i=freeT (rtab md ops).2 l.toList i:=by
  unfold Region.free freeT
  cases h:ops[i]? with
  | none=>rw[rtab_none h]
  | some oi =>
    rw[rtab_some h]
    simp only[clashOf]
    rw[List.all_filter]
    congr 1
    funext j
    rw[gd]
    cases hj:ops[j]? with
    | none=>cases(j==i)<;>cases(l.toList.getD j true)<;>simp
    | some oj =>
      cases(j==i)<;>cases(l.toList.getD j true)<;>cases(oj.after.any (fun e=>Region.binds md e&&e.on==i)||oi.apart ops oj)<;>simp_all
theorem closed_eq:Region.closedB md ops l=closedT (rtab md ops).2 l.toList:=by
  unfold Region.closedB closedT
  rw[rtab_length]
  congr 1
  funext j
  rw[gd]
  cases h:ops[j]? with
  | none=>rw[rtab_none h]
  | some o =>
    rw[rtab_some h]
    simp only
    rw[←needs_all]
    simp only[gd]
theorem reach_eq:∀(fuel d:Nat),Region.reachB md ops i fuel d=reachT (rtab md ops).2 i fuel d
  | 0,_=>rfl
  | fuel+1,d=>by
    unfold Region.reachB reachT
    cases h:ops[d]? with
    | none=>rw[rtab_none h]
    | some o =>
      rw[rtab_some h]
      simp only
      rw[←needs_any]
      congr 1
      funext e
      rw[reach_eq fuel]
theorem last_eq:Region.lastB md ops l ds i=lastT (rtab md ops).2 l.toList ds i:=by
  unfold Region.lastB lastT
  rw[rtab_length]
  congr 1
  funext d
  rw[gd,reach_eq]
theorem readyAt_mem (h:readyAt T.2 l.toList i=true) (hT:rtab md ops=T):(Region.ready md ops l).contains i=true:=by
  subst hT
  rw[ready_eq]
  unfold readyT
  rw[List.contains_iff_mem,List.mem_filter,List.mem_range]
  refine⟨?_,h⟩
  unfold readyAt at h
  rw[Bool.and_eq_true] at h
  cases hq:(rtab md ops).2[i]? with
  | none=>rw[hq] at h;simp at h
  | some r=>exact(List.getElem?_eq_some_iff.1 hq).1
theorem set_of (h:(l.toList.set i true==l'.toList)=true):(l.setIfInBounds i true==l')=true:=by
  rw[beq_iff_eq] at h ⊢
  apply Array.ext'
  rw[Array.toList_setIfInBounds]
  exact h
def anyT (T:Bool × List (List Nat × List Nat)) (l l':List Bool) (i:Nat):Bool:=T.1&&freeT T.2 l i&&readyAt T.2 l i&&(l.set i true==l')
theorem any_of (hT:rtab md ops=T) (h:anyT T l.toList l'.toList i=true):anyB md ops l l' i=true:=by
  simp only[anyT,Bool.and_eq_true] at h
  obtain⟨⟨⟨h1,h2⟩,h3⟩,h4⟩:=h
  have h5:=readyAt_mem h3 hT
  have h6:=set_of h4
  subst hT
  simp only[anyB,Bool.and_eq_true]
  exact⟨⟨⟨h1,by rw[free_eq];exact h2⟩,h5⟩,h6⟩
def takeT (T:Bool × List (List Nat × List Nat)) (ds:List Nat) (l l':List Bool) (i:Nat):Bool:=T.1&&freeT T.2 l i&&readyAt T.2 l i&&closedT T.2 l&&lastT T.2 l ds i&&(l.set i true==l')
theorem take_of (hT:rtab md ops=T) (h:takeT T ds l.toList l'.toList i=true):takeB md ops ds l l' i=true:=by
  simp only[takeT,Bool.and_eq_true] at h
  obtain⟨⟨⟨⟨⟨h1,h2⟩,h3⟩,h4⟩,h5⟩,h6⟩:=h
  have h7:=readyAt_mem h3 hT
  have h8:=set_of h6
  subst hT
  simp only[takeB,Bool.and_eq_true]
  exact⟨⟨⟨⟨⟨h1,by rw[free_eq];exact h2⟩,h7⟩,by rw[closed_eq];exact h4⟩,by rw[last_eq];exact h5⟩,h8⟩
theorem one_of (hT:rtab md ops=T) (h:(readyT T.2 l.toList==[i]&&l.toList.set i true==l'.toList)=true):readyB md ops l l' i=true:=by
  simp only[Bool.and_eq_true] at h
  obtain⟨h1,h2⟩:=h
  subst hT
  simp only[readyB,Bool.and_eq_true]
  exact⟨by rw[ready_eq];exact h1,set_of h2⟩
theorem two_of (hT:rtab md ops=T) (h:(readyT T.2 l.toList==[i,j]&&l.toList.set i true==li.toList&&l.toList.set j true==lj.toList)=true):(Region.ready md ops l==[i,j]&&l.setIfInBounds i true==li&&l.setIfInBounds j true==lj)=true:=by
  simp only[Bool.and_eq_true] at h ⊢
  obtain⟨⟨h1,h2⟩,h3⟩:=h
  subst hT
  exact⟨⟨by rw[ready_eq];exact h1,set_of h2⟩,set_of h3⟩
theorem bz_ (hT:rtab md ops=T) (h:(readyT T.2 l.toList==[])=true):(Region.ready md ops l==[])=true:=by
  subst hT
  rw[ready_eq]
  exact h
def upM (B:List Nat) (d:Nat):List Nat→Nat
  | []=>0
  | n::r=>(2 ^ n ||| (if n<d then B.getD n 0 else 0)) ||| upM B d r
def waitsOk (T:List (List Nat × List Nat)) (B:List Nat):Bool:=(List.range T.length).all fun d=>match T[d]? with
  | some r=>(B.getD d 0 ||| upM B d r.1)==upM B d r.1
  | none=>false
theorem upM_bit {B:List Nat} {d i:Nat}:∀{ns:List Nat},(upM B d ns).testBit i=true→∃n∈ns,n=i∨(n<d∧(B.getD n 0).testBit i=true)
  | [],h=>by simp[upM] at h
  | n::r,h=>by
    unfold upM at h
    rw[Nat.testBit_or,Nat.testBit_or,Bool.or_eq_true,Bool.or_eq_true] at h
    rcases h with (h|h)|h
    · rw[Nat.testBit_two_pow] at h
      exact⟨n,List.mem_cons_self,.inl (by simpa using h)⟩
    · by_cases hn:n<d
      · rw[if_pos hn] at h
        exact⟨n,List.mem_cons_self,.inr ⟨hn,h⟩⟩
      · rw[if_neg hn] at h
        simp at h
    · obtain⟨m,hm,h2⟩:=upM_bit h
      exact⟨m,List.mem_cons_of_mem _ hm,h2⟩
theorem reach_bit {T:List (List Nat × List Nat)} {B:List Nat} (hB:waitsOk T B=true):∀(fuel d:Nat),d<fuel→d<T.length→(B.getD d 0).testBit i=true→reachT T i fuel d=true
  | 0,d,h,_,_=>by omega
  | fuel+1,d,h,hd,hb=>by
    have h1:=List.all_eq_true.1 hB d (List.mem_range.2 hd)
    cases hr:T[d]? with
    | none=>rw[hr] at h1;simp at h1
    | some r =>
      rw[hr] at h1
      simp only[beq_iff_eq] at h1
      have h2:(upM B d r.1).testBit i=true:=by rw[←h1,Nat.testBit_or,hb,Bool.true_or]
      obtain⟨n,hn,h3⟩:=upM_bit h2
      unfold reachT
      rw[hr]
      simp only
      rw[List.any_eq_true]
      refine⟨n,hn,?_⟩
      rcases h3 with rfl|⟨h4,h5⟩
      · simp
      · rw[reach_bit hB fuel n (by omega) (by omega) h5,Bool.or_true]
def lastW (T:List (List Nat × List Nat)) (B:List Nat) (l:List Bool) (ds:List Nat) (i:Nat):Bool:=ds.all fun d=>l.getD d true||(decide (d<T.length)&&(B.getD d 0).testBit i)
def takeW (T:Bool × List (List Nat × List Nat)) (B:List Nat) (ds:List Nat) (l l':List Bool) (i:Nat):Bool:=T.1&&freeT T.2 l i&&readyAt T.2 l i&&closedT T.2 l&&lastW T.2 B l ds i&&(l.set i true==l')
theorem take_ofW {B:List Nat} (hT:rtab md ops=T) (hB:waitsOk T.2 B=true) (h:takeW T B ds l.toList l'.toList i=true):takeB md ops ds l l' i=true:=by
  refine take_of hT ?_
  simp only[takeW,takeT,Bool.and_eq_true] at h ⊢
  obtain⟨⟨⟨⟨⟨h1,h2⟩,h3⟩,h4⟩,h5⟩,h6⟩:=h
  refine⟨⟨⟨⟨⟨h1,h2⟩,h3⟩,h4⟩,?_⟩,h6⟩
  unfold lastW at h5
  unfold lastT
  rw[List.all_eq_true] at h5 ⊢
  intro d hd
  have h7:=h5 d hd
  rw[Bool.or_eq_true,Bool.and_eq_true,decide_eq_true_eq] at h7
  rcases h7 with h7|⟨h8,h9⟩
  · rw[h7,Bool.true_or]
  · rw[reach_bit hB _ d h8 h8 h9,Bool.or_true]
theorem bg_ {P:Program} {Q:Exit→Act→World→Prop} {S:World→Prop} {n:Nat} {a:Act} {w:World} {B:List Nat} (hT:rtab md ops=T) (hB:waitsOk T.2 B=true) (h:Aside0 (rtab md ops=T)→Aside0 (waitsOk T.2 B=true)→wpAnyLast P md ops Q S ds n l a w):wpAnyLast P md ops Q S ds n l a w:=h ⟨hT⟩ ⟨hB⟩
end
def opsIn:Code→Nat→Option (Array Oper)
  | .region id ops _,k=>if id==k then some ops else none
  | .seq a b,k=>match opsIn a k with
    | some o=>some o
    | none=>opsIn b k
  | .cond _ a b,k=>match opsIn a k with
    | some o=>some o
    | none=>opsIn b k
  | .block _ c,k=>opsIn c k
  | .loop c,k=>opsIn c k
  | .scope c,k=>opsIn c k
  | .rangeFunc _ _ a b,k=>match opsIn a k with
    | some o=>some o
    | none=>opsIn b k
  | _,_=>none
def opsOf (f:Func) (k:Nat):Array Oper:=((f.body.bind fun c=>opsIn c k)).getD #[]
end
end Go.Proofs.YtenpejebbeoceaaGreatDoorW.PrintLast
end
section
namespace Go.Proofs
open Go.Shelf
def Tryz.lays143_ren:Go.Shelf.Ren:=⟨fun|143=>133|219=>150|217=>172|225=>173|224=>174|267=>175|266=>184|314=>185|n=>n,fun|9=>9|3=>3|4=>4|5=>5|46=>126|146=>170|51=>151|n=>n,fun|1=>1|n=>n⟩
theorem Tryz.lays143:Go.Proofs.Lays.n143 Tryz.prog Tryz.lays143_ren:={
  mixed:=by kernel_rfl
  f143:=Tryz.func133.trans (congrArg some (by kernel_rfl))
  f217:=Tryz.func172.trans (congrArg some (by kernel_rfl))
  f219:=Tryz.func150.trans (congrArg some (by kernel_rfl))
  f224:=Tryz.func174.trans (congrArg some (by kernel_rfl))
  f225:=Tryz.func173.trans (congrArg some (by kernel_rfl))
  f266:=Tryz.func184.trans (congrArg some (by kernel_rfl))
  f267:=Tryz.func175.trans (congrArg some (by kernel_rfl))
  f314:=Tryz.func185.trans (congrArg some (by kernel_rfl))
  t3:=Tryz.underlying3
  a3:=Tryz.isAgg3
  z3:=Tryz.sizeOf3
  v3:=Tryz.zeroValue3
  t4:=Tryz.underlying4
  a4:=Tryz.isAgg4
  z4:=Tryz.sizeOf4
  v4:=Tryz.zeroValue4
  t5:=Tryz.underlying5
  a5:=Tryz.isAgg5
  z5:=Tryz.sizeOf5
  v5:=Tryz.zeroValue5
  t9:=Tryz.underlying9
  a9:=Tryz.isAgg9
  z9:=Tryz.sizeOf9
  v9:=Tryz.zeroValue9
  t46:=Tryz.underlying126
  a46:=Tryz.isAgg126
  z46:=Tryz.sizeOf126
  v46:=Tryz.zeroValue126
  t51:=Tryz.underlying151
  a51:=Tryz.isAgg151
  z51:=Tryz.sizeOf151
  v51:=Tryz.zeroValue151
  t146:=Tryz.underlying170
  a146:=Tryz.isAgg170
  z146:=Tryz.sizeOf170
  v146:=Tryz.zeroValue170
  g1:=by kernel_rfl }
def Tryz.lays219_ren:Go.Shelf.Ren:=⟨fun|219=>150|217=>172|225=>173|224=>174|267=>175|266=>184|314=>185|n=>n,fun|9=>9|3=>3|4=>4|5=>5|46=>126|146=>170|51=>151|n=>n,fun|1=>1|n=>n⟩
theorem Tryz.lays219:Go.Proofs.Lays.n219 Tryz.prog Tryz.lays219_ren:={
  mixed:=by kernel_rfl
  f217:=Tryz.func172.trans (congrArg some (by kernel_rfl))
  f219:=Tryz.func150.trans (congrArg some (by kernel_rfl))
  f224:=Tryz.func174.trans (congrArg some (by kernel_rfl))
  f225:=Tryz.func173.trans (congrArg some (by kernel_rfl))
  f266:=Tryz.func184.trans (congrArg some (by kernel_rfl))
  f267:=Tryz.func175.trans (congrArg some (by kernel_rfl))
  f314:=Tryz.func185.trans (congrArg some (by kernel_rfl))
  t3:=Tryz.underlying3
  a3:=Tryz.isAgg3
  z3:=Tryz.sizeOf3
  v3:=Tryz.zeroValue3
  t4:=Tryz.underlying4
  a4:=Tryz.isAgg4
  z4:=Tryz.sizeOf4
  v4:=Tryz.zeroValue4
  t5:=Tryz.underlying5
  a5:=Tryz.isAgg5
  z5:=Tryz.sizeOf5
  v5:=Tryz.zeroValue5
  t9:=Tryz.underlying9
  a9:=Tryz.isAgg9
  z9:=Tryz.sizeOf9
  v9:=Tryz.zeroValue9
  t46:=Tryz.underlying126
  a46:=Tryz.isAgg126
  z46:=Tryz.sizeOf126
  v46:=Tryz.zeroValue126
  t51:=Tryz.underlying151
  a51:=Tryz.isAgg151
  z51:=Tryz.sizeOf151
  v51:=Tryz.zeroValue151
  t146:=Tryz.underlying170
  a146:=Tryz.isAgg170
  z146:=Tryz.sizeOf170
  v146:=Tryz.zeroValue170
  g1:=by kernel_rfl }
def Tryz.lays138_ren:Go.Shelf.Ren:=⟨fun|138=>141|195=>163|218=>164|143=>133|219=>150|217=>172|225=>173|224=>174|267=>175|266=>184|314=>185|n=>n,fun|9=>9|3=>3|4=>4|5=>5|0=>0|46=>126|146=>170|51=>151|n=>n,fun|1=>1|n=>n⟩
theorem Tryz.lays138:Go.Proofs.Lays.n138 Tryz.prog Tryz.lays138_ren:={
  mixed:=by kernel_rfl
  f138:=Tryz.func141.trans (congrArg some (by kernel_rfl))
  f143:=Tryz.func133.trans (congrArg some (by kernel_rfl))
  f195:=Tryz.func163.trans (congrArg some (by kernel_rfl))
  f217:=Tryz.func172.trans (congrArg some (by kernel_rfl))
  f218:=Tryz.func164.trans (congrArg some (by kernel_rfl))
  f219:=Tryz.func150.trans (congrArg some (by kernel_rfl))
  f224:=Tryz.func174.trans (congrArg some (by kernel_rfl))
  f225:=Tryz.func173.trans (congrArg some (by kernel_rfl))
  f266:=Tryz.func184.trans (congrArg some (by kernel_rfl))
  f267:=Tryz.func175.trans (congrArg some (by kernel_rfl))
  f314:=Tryz.func185.trans (congrArg some (by kernel_rfl))
  t0:=Tryz.underlying0
  a0:=Tryz.isAgg0
  z0:=Tryz.sizeOf0
  v0:=Tryz.zeroValue0
  t3:=Tryz.underlying3
  a3:=Tryz.isAgg3
  z3:=Tryz.sizeOf3
  v3:=Tryz.zeroValue3
  t4:=Tryz.underlying4
  a4:=Tryz.isAgg4
  z4:=Tryz.sizeOf4
  v4:=Tryz.zeroValue4
  t5:=Tryz.underlying5
  a5:=Tryz.isAgg5
  z5:=Tryz.sizeOf5
  v5:=Tryz.zeroValue5
  t9:=Tryz.underlying9
  a9:=Tryz.isAgg9
  z9:=Tryz.sizeOf9
  v9:=Tryz.zeroValue9
  t46:=Tryz.underlying126
  a46:=Tryz.isAgg126
  z46:=Tryz.sizeOf126
  v46:=Tryz.zeroValue126
  t51:=Tryz.underlying151
  a51:=Tryz.isAgg151
  z51:=Tryz.sizeOf151
  v51:=Tryz.zeroValue151
  t146:=Tryz.underlying170
  a146:=Tryz.isAgg170
  z146:=Tryz.sizeOf170
  v146:=Tryz.zeroValue170
  g1:=by kernel_rfl }
def Tryz.lays160_ren:Go.Shelf.Ren:=⟨fun|160=>98|232=>116|231=>115|227=>117|234=>119|233=>118|236=>121|235=>120|228=>142|271=>145|151=>144|197=>143|120=>167|152=>166|260=>165|137=>181|119=>182|224=>174|225=>173|217=>172|266=>184|n=>n,fun|9=>9|4=>4|3=>3|5=>5|117=>122|116=>121|0=>0|124=>125|21=>21|105=>141|46=>126|119=>165|139=>168|138=>167|n=>n,fun|3=>2|4=>3|n=>n⟩
theorem Tryz.lays160:Go.Proofs.Lays.n160 Tryz.prog Tryz.lays160_ren:={
  mixed:=by kernel_rfl
  f119:=Tryz.func182.trans (congrArg some (by kernel_rfl))
  f120:=Tryz.func167.trans (congrArg some (by kernel_rfl))
  f137:=Tryz.func181.trans (congrArg some (by kernel_rfl))
  f151:=Tryz.func144.trans (congrArg some (by kernel_rfl))
  f152:=Tryz.func166.trans (congrArg some (by kernel_rfl))
  f160:=Tryz.func98.trans (congrArg some (by kernel_rfl))
  f197:=Tryz.func143.trans (congrArg some (by kernel_rfl))
  f217:=Tryz.func172.trans (congrArg some (by kernel_rfl))
  f224:=Tryz.func174.trans (congrArg some (by kernel_rfl))
  f225:=Tryz.func173.trans (congrArg some (by kernel_rfl))
  f227:=Tryz.func117.trans (congrArg some (by kernel_rfl))
  f228:=Tryz.func142.trans (congrArg some (by kernel_rfl))
  f231:=Tryz.func115.trans (congrArg some (by kernel_rfl))
  f232:=Tryz.func116.trans (congrArg some (by kernel_rfl))
  f233:=Tryz.func118.trans (congrArg some (by kernel_rfl))
  f234:=Tryz.func119.trans (congrArg some (by kernel_rfl))
  f235:=Tryz.func120.trans (congrArg some (by kernel_rfl))
  f236:=Tryz.func121.trans (congrArg some (by kernel_rfl))
  f260:=Tryz.func165.trans (congrArg some (by kernel_rfl))
  f266:=Tryz.func184.trans (congrArg some (by kernel_rfl))
  f271:=Tryz.func145.trans (congrArg some (by kernel_rfl))
  t0:=Tryz.underlying0
  a0:=Tryz.isAgg0
  z0:=Tryz.sizeOf0
  v0:=Tryz.zeroValue0
  t3:=Tryz.underlying3
  a3:=Tryz.isAgg3
  z3:=Tryz.sizeOf3
  v3:=Tryz.zeroValue3
  t4:=Tryz.underlying4
  a4:=Tryz.isAgg4
  z4:=Tryz.sizeOf4
  v4:=Tryz.zeroValue4
  t5:=Tryz.underlying5
  a5:=Tryz.isAgg5
  z5:=Tryz.sizeOf5
  v5:=Tryz.zeroValue5
  t9:=Tryz.underlying9
  a9:=Tryz.isAgg9
  z9:=Tryz.sizeOf9
  v9:=Tryz.zeroValue9
  t21:=Tryz.underlying21
  a21:=Tryz.isAgg21
  z21:=Tryz.sizeOf21
  v21:=Tryz.zeroValue21
  t46:=Tryz.underlying126
  a46:=Tryz.isAgg126
  z46:=Tryz.sizeOf126
  v46:=Tryz.zeroValue126
  t105:=Tryz.underlying141
  a105:=Tryz.isAgg141
  z105:=Tryz.sizeOf141
  v105:=Tryz.zeroValue141
  t116:=Tryz.underlying121
  a116:=Tryz.isAgg121
  z116:=Tryz.sizeOf121
  t117:=Tryz.underlying122
  a117:=Tryz.isAgg122
  z117:=Tryz.sizeOf122
  v117:=Tryz.zeroValue122
  t119:=Tryz.underlying165
  a119:=Tryz.isAgg165
  z119:=Tryz.sizeOf165
  t124:=Tryz.underlying125
  a124:=Tryz.isAgg125
  z124:=Tryz.sizeOf125
  v124:=Tryz.zeroValue125
  t138:=Tryz.underlying167
  a138:=Tryz.isAgg167
  z138:=Tryz.sizeOf167
  v138:=Tryz.zeroValue167
  t139:=Tryz.underlying168
  a139:=Tryz.isAgg168
  z139:=Tryz.sizeOf168
  v139:=Tryz.zeroValue168
  g3:=by kernel_rfl
  g4:=by kernel_rfl }
def Tryz.lays106_ren:Go.Shelf.Ren:=⟨fun|106=>124|213=>147|265=>170|n=>n,fun|9=>9|3=>3|n=>n,fun|n=>n⟩
theorem Tryz.lays106:Go.Proofs.Lays.n106 Tryz.prog Tryz.lays106_ren:={
  mixed:=by kernel_rfl
  f106:=Tryz.func124.trans (congrArg some (by kernel_rfl))
  f213:=Tryz.func147.trans (congrArg some (by kernel_rfl))
  f265:=Tryz.func170.trans (congrArg some (by kernel_rfl))
  t3:=Tryz.underlying3
  a3:=Tryz.isAgg3
  z3:=Tryz.sizeOf3
  v3:=Tryz.zeroValue3
  t9:=Tryz.underlying9
  a9:=Tryz.isAgg9
  z9:=Tryz.sizeOf9
  v9:=Tryz.zeroValue9 }
def Tryz.laysM171_ren:Go.Shelf.Ren:=⟨fun|171=>73|243=>95|246=>113|283=>136|284=>137|285=>138|286=>139|129=>159|317=>158|318=>160|319=>161|320=>162|337=>179|338=>180|n=>n,fun|3=>3|9=>9|2=>2|4=>4|171=>133|0=>0|53=>134|37=>96|5=>5|173=>137|212=>150|51=>151|20=>20|213=>152|46=>126|232=>173|233=>174|n=>n,fun|17=>0|18=>4|19=>5|n=>n⟩
theorem Tryz.laysM171:Go.Proofs.LaysM.n171 Tryz.prog Tryz.laysM171_ren:={
  mixed:=by kernel_rfl
  f129:=Tryz.func159.trans (congrArg some (by kernel_rfl))
  f171:=Tryz.func73.trans (congrArg some (by kernel_rfl))
  f243:=Tryz.func95.trans (congrArg some (by kernel_rfl))
  f246:=Tryz.func113.trans (congrArg some (by kernel_rfl))
  f283:=Tryz.func136.trans (congrArg some (by kernel_rfl))
  f284:=Tryz.func137.trans (congrArg some (by kernel_rfl))
  f285:=Tryz.func138.trans (congrArg some (by kernel_rfl))
  f286:=Tryz.func139.trans (congrArg some (by kernel_rfl))
  f317:=Tryz.func158.trans (congrArg some (by kernel_rfl))
  f318:=Tryz.func160.trans (congrArg some (by kernel_rfl))
  f319:=Tryz.func161.trans (congrArg some (by kernel_rfl))
  f320:=Tryz.func162.trans (congrArg some (by kernel_rfl))
  f337:=Tryz.func179.trans (congrArg some (by kernel_rfl))
  f338:=Tryz.func180.trans (congrArg some (by kernel_rfl))
  t0:=Tryz.underlying0
  a0:=Tryz.isAgg0
  z0:=Tryz.sizeOf0
  v0:=Tryz.zeroValue0
  t2:=Tryz.underlying2
  a2:=Tryz.isAgg2
  z2:=Tryz.sizeOf2
  v2:=Tryz.zeroValue2
  t3:=Tryz.underlying3
  a3:=Tryz.isAgg3
  z3:=Tryz.sizeOf3
  v3:=Tryz.zeroValue3
  t4:=Tryz.underlying4
  a4:=Tryz.isAgg4
  z4:=Tryz.sizeOf4
  v4:=Tryz.zeroValue4
  t5:=Tryz.underlying5
  a5:=Tryz.isAgg5
  z5:=Tryz.sizeOf5
  v5:=Tryz.zeroValue5
  t9:=Tryz.underlying9
  a9:=Tryz.isAgg9
  z9:=Tryz.sizeOf9
  v9:=Tryz.zeroValue9
  t20:=Tryz.underlying20
  a20:=Tryz.isAgg20
  z20:=Tryz.sizeOf20
  v20:=Tryz.zeroValue20
  t37:=Tryz.underlying96
  a37:=Tryz.isAgg96
  z37:=Tryz.sizeOf96
  v37:=Tryz.zeroValue96
  t46:=Tryz.underlying126
  a46:=Tryz.isAgg126
  z46:=Tryz.sizeOf126
  v46:=Tryz.zeroValue126
  t51:=Tryz.underlying151
  a51:=Tryz.isAgg151
  z51:=Tryz.sizeOf151
  v51:=Tryz.zeroValue151
  t53:=Tryz.underlying134
  a53:=Tryz.isAgg134
  z53:=Tryz.sizeOf134
  v53:=Tryz.zeroValue134
  t171:=Tryz.underlying133
  a171:=Tryz.isAgg133
  z171:=Tryz.sizeOf133
  v171:=Tryz.zeroValue133
  t173:=Tryz.underlying137
  a173:=Tryz.isAgg137
  z173:=Tryz.sizeOf137
  v173:=Tryz.zeroValue137
  t212:=Tryz.underlying150
  a212:=Tryz.isAgg150
  z212:=Tryz.sizeOf150
  v212:=Tryz.zeroValue150
  t213:=Tryz.underlying152
  a213:=Tryz.isAgg152
  z213:=Tryz.sizeOf152
  t232:=Tryz.underlying173
  a232:=Tryz.isAgg173
  z232:=Tryz.sizeOf173
  v232:=Tryz.zeroValue173
  t233:=Tryz.underlying174
  a233:=Tryz.isAgg174
  z233:=Tryz.sizeOf174
  v233:=Tryz.zeroValue174
  g17:=by kernel_rfl
  g18:=by kernel_rfl
  g19:=by kernel_rfl
  i0:=by kernel_rfl
  i2:=by kernel_rfl
  i3:=by kernel_rfl
  i4:=by kernel_rfl
  i5:=by kernel_rfl
  i9:=by kernel_rfl
  i20:=by kernel_rfl
  i37:=by kernel_rfl
  i46:=by kernel_rfl
  i51:=by kernel_rfl
  i53:=by kernel_rfl
  i171:=by kernel_rfl
  i173:=by kernel_rfl
  i212:=by kernel_rfl
  i232:=by kernel_rfl
  i233:=by kernel_rfl
  m17:=by kernel_rfl
  m18:=by kernel_rfl
  m19:=by kernel_rfl }
def Tryz.laysC172_ren:Go.Shelf.Ren:=⟨fun|172=>176|244=>186|245=>187|247=>189|279=>190|280=>191|281=>192|282=>193|287=>194|316=>195|171=>73|205=>196|321=>197|322=>198|243=>95|246=>113|283=>136|284=>137|285=>138|286=>139|129=>159|317=>158|318=>160|319=>161|320=>162|337=>179|338=>180|n=>n,fun|9=>9|3=>3|75=>160|76=>161|4=>4|5=>5|167=>175|37=>96|0=>0|85=>176|2=>2|168=>178|53=>134|175=>181|46=>126|210=>184|127=>187|145=>190|143=>188|21=>21|171=>133|173=>137|212=>150|51=>151|20=>20|213=>152|232=>173|233=>174|80=>191|n=>n,fun|15=>6|16=>7|17=>0|18=>4|19=>5|n=>n⟩
theorem Tryz.laysC172:Go.Proofs.LaysC.n172 Tryz.prog Tryz.laysC172_ren:={
  mixed:=by kernel_rfl
  f129:=Tryz.func159.trans (congrArg some (by kernel_rfl))
  f171:=Tryz.func73.trans (congrArg some (by kernel_rfl))
  f172:=Tryz.func176.trans (congrArg some (by kernel_rfl))
  f205:=Tryz.func196.trans (congrArg some (by kernel_rfl))
  f243:=Tryz.func95.trans (congrArg some (by kernel_rfl))
  f244:=Tryz.func186.trans (congrArg some (by kernel_rfl))
  f245:=Tryz.func187.trans (congrArg some (by kernel_rfl))
  f246:=Tryz.func113.trans (congrArg some (by kernel_rfl))
  f247:=Tryz.func189.trans (congrArg some (by kernel_rfl))
  f279:=Tryz.func190.trans (congrArg some (by kernel_rfl))
  f280:=Tryz.func191.trans (congrArg some (by kernel_rfl))
  f281:=Tryz.func192.trans (congrArg some (by kernel_rfl))
  f282:=Tryz.func193.trans (congrArg some (by kernel_rfl))
  f283:=Tryz.func136.trans (congrArg some (by kernel_rfl))
  f284:=Tryz.func137.trans (congrArg some (by kernel_rfl))
  f285:=Tryz.func138.trans (congrArg some (by kernel_rfl))
  f286:=Tryz.func139.trans (congrArg some (by kernel_rfl))
  f287:=Tryz.func194.trans (congrArg some (by kernel_rfl))
  f316:=Tryz.func195.trans (congrArg some (by kernel_rfl))
  f317:=Tryz.func158.trans (congrArg some (by kernel_rfl))
  f318:=Tryz.func160.trans (congrArg some (by kernel_rfl))
  f319:=Tryz.func161.trans (congrArg some (by kernel_rfl))
  f320:=Tryz.func162.trans (congrArg some (by kernel_rfl))
  f321:=Tryz.func197.trans (congrArg some (by kernel_rfl))
  f322:=Tryz.func198.trans (congrArg some (by kernel_rfl))
  f337:=Tryz.func179.trans (congrArg some (by kernel_rfl))
  f338:=Tryz.func180.trans (congrArg some (by kernel_rfl))
  t0:=Tryz.underlying0
  a0:=Tryz.isAgg0
  z0:=Tryz.sizeOf0
  v0:=Tryz.zeroValue0
  t2:=Tryz.underlying2
  a2:=Tryz.isAgg2
  z2:=Tryz.sizeOf2
  v2:=Tryz.zeroValue2
  t3:=Tryz.underlying3
  a3:=Tryz.isAgg3
  z3:=Tryz.sizeOf3
  v3:=Tryz.zeroValue3
  t4:=Tryz.underlying4
  a4:=Tryz.isAgg4
  z4:=Tryz.sizeOf4
  v4:=Tryz.zeroValue4
  t5:=Tryz.underlying5
  a5:=Tryz.isAgg5
  z5:=Tryz.sizeOf5
  v5:=Tryz.zeroValue5
  t9:=Tryz.underlying9
  a9:=Tryz.isAgg9
  z9:=Tryz.sizeOf9
  v9:=Tryz.zeroValue9
  t20:=Tryz.underlying20
  a20:=Tryz.isAgg20
  z20:=Tryz.sizeOf20
  v20:=Tryz.zeroValue20
  t21:=Tryz.underlying21
  a21:=Tryz.isAgg21
  z21:=Tryz.sizeOf21
  v21:=Tryz.zeroValue21
  t37:=Tryz.underlying96
  a37:=Tryz.isAgg96
  z37:=Tryz.sizeOf96
  v37:=Tryz.zeroValue96
  t46:=Tryz.underlying126
  a46:=Tryz.isAgg126
  z46:=Tryz.sizeOf126
  v46:=Tryz.zeroValue126
  t51:=Tryz.underlying151
  a51:=Tryz.isAgg151
  z51:=Tryz.sizeOf151
  v51:=Tryz.zeroValue151
  t53:=Tryz.underlying134
  a53:=Tryz.isAgg134
  z53:=Tryz.sizeOf134
  v53:=Tryz.zeroValue134
  t75:=Tryz.underlying160
  a75:=Tryz.isAgg160
  z75:=Tryz.sizeOf160
  v75:=Tryz.zeroValue160
  t76:=Tryz.underlying161
  a76:=Tryz.isAgg161
  z76:=Tryz.sizeOf161
  v76:=Tryz.zeroValue161
  t85:=Tryz.underlying176
  a85:=Tryz.isAgg176
  z85:=Tryz.sizeOf176
  v85:=Tryz.zeroValue176
  t127:=Tryz.underlying187
  a127:=Tryz.isAgg187
  z127:=Tryz.sizeOf187
  v127:=Tryz.zeroValue187
  t143:=Tryz.underlying188
  a143:=Tryz.isAgg188
  z143:=Tryz.sizeOf188
  v143:=Tryz.zeroValue188
  t145:=Tryz.underlying190
  a145:=Tryz.isAgg190
  z145:=Tryz.sizeOf190
  v145:=Tryz.zeroValue190
  t167:=Tryz.underlying175
  a167:=Tryz.isAgg175
  z167:=Tryz.sizeOf175
  v167:=Tryz.zeroValue175
  t168:=Tryz.underlying178
  a168:=Tryz.isAgg178
  z168:=Tryz.sizeOf178
  v168:=Tryz.zeroValue178
  t171:=Tryz.underlying133
  a171:=Tryz.isAgg133
  z171:=Tryz.sizeOf133
  v171:=Tryz.zeroValue133
  t173:=Tryz.underlying137
  a173:=Tryz.isAgg137
  z173:=Tryz.sizeOf137
  v173:=Tryz.zeroValue137
  t175:=Tryz.underlying181
  a175:=Tryz.isAgg181
  z175:=Tryz.sizeOf181
  v175:=Tryz.zeroValue181
  t210:=Tryz.underlying184
  a210:=Tryz.isAgg184
  z210:=Tryz.sizeOf184
  v210:=Tryz.zeroValue184
  t212:=Tryz.underlying150
  a212:=Tryz.isAgg150
  z212:=Tryz.sizeOf150
  v212:=Tryz.zeroValue150
  t213:=Tryz.underlying152
  a213:=Tryz.isAgg152
  z213:=Tryz.sizeOf152
  t232:=Tryz.underlying173
  a232:=Tryz.isAgg173
  z232:=Tryz.sizeOf173
  v232:=Tryz.zeroValue173
  t233:=Tryz.underlying174
  a233:=Tryz.isAgg174
  z233:=Tryz.sizeOf174
  v233:=Tryz.zeroValue174
  g15:=by kernel_rfl
  g16:=by kernel_rfl
  g17:=by kernel_rfl
  g18:=by kernel_rfl
  g19:=by kernel_rfl
  t80:=Tryz.underlying191
  a80:=Tryz.isAgg191
  z80:=Tryz.sizeOf191
  v80:=Tryz.zeroValue191
  i0:=by kernel_rfl
  i2:=by kernel_rfl
  i3:=by kernel_rfl
  i4:=by kernel_rfl
  i5:=by kernel_rfl
  i9:=by kernel_rfl
  i20:=by kernel_rfl
  i21:=by kernel_rfl
  i37:=by kernel_rfl
  i46:=by kernel_rfl
  i51:=by kernel_rfl
  i53:=by kernel_rfl
  i75:=by kernel_rfl
  i76:=by kernel_rfl
  i80:=by kernel_rfl
  i85:=by kernel_rfl
  i127:=by kernel_rfl
  i143:=by kernel_rfl
  i145:=by kernel_rfl
  i167:=by kernel_rfl
  i168:=by kernel_rfl
  i171:=by kernel_rfl
  i173:=by kernel_rfl
  i175:=by kernel_rfl
  i210:=by kernel_rfl
  i212:=by kernel_rfl
  i232:=by kernel_rfl
  i233:=by kernel_rfl
  m15:=by kernel_rfl
  m16:=by kernel_rfl
  m17:=by kernel_rfl
  m18:=by kernel_rfl
  m19:=by kernel_rfl
  c0:=by kernel_rfl
  c2:=by kernel_rfl
  c3:=by kernel_rfl
  c4:=by kernel_rfl
  c5:=by kernel_rfl
  c9:=by kernel_rfl
  c20:=by kernel_rfl
  c21:=by kernel_rfl
  c37:=by kernel_rfl
  c46:=by kernel_rfl
  c51:=by kernel_rfl
  c53:=by kernel_rfl
  c75:=by kernel_rfl
  c76:=by kernel_rfl
  c80:=by kernel_rfl
  c85:=by kernel_rfl
  c127:=by kernel_rfl
  c143:=by kernel_rfl
  c145:=by kernel_rfl
  c167:=by kernel_rfl
  c168:=by kernel_rfl
  c171:=by kernel_rfl
  c173:=by kernel_rfl
  c175:=by kernel_rfl
  c210:=by kernel_rfl
  c212:=by kernel_rfl
  c213:=by kernel_rfl
  c232:=by kernel_rfl
  c233:=by kernel_rfl }
end Go.Proofs
end
section
set_option linter.unusedVariables false
namespace Go.Proofs.YtenpejebbeoceaaGreatDoorW.PrintLast
open Go Go.RowKit
theorem var?_keep {P:Program} {w w':World} {n:String} {cs:Array Value} (h:Below w.heap.size w w') (hv:w.var? P n=some cs):w'.var? P n=some cs:=by
  unfold World.var? at hv ⊢
  cases hg:P.globalNamed n with
  | none=>rw[hg] at hv;cases hv
  | some g =>
    rw[hg] at hv
    simp only[Option.bind_some] at hv ⊢
    have hlt:g<w.heap.size:=by
      rcases Nat.lt_or_ge g w.heap.size with h1|h1
      · exact h1
      · rw[Array.getElem?_eq_none h1] at hv;cases hv
    rw[h.block g hlt]
    exact hv
structure Glob (w:World):Prop where
  tab:Lib.TabIs Go.Proofs.Tryz.prog w "internal/strconv.uint64pow10" .u64 Lib.pow10Tab
  errS:∃tp p,w.var? Go.Proofs.Tryz.prog "strconv.ErrSyntax" = some #[.iface tp p]
  errR:∃tp p,w.var? Go.Proofs.Tryz.prog "strconv.ErrRange" = some #[.iface tp p]
theorem Glob.below {w w':World} (h:Glob w) (hb:Below w.heap.size w w'):Glob w':=by
  obtain⟨h1,⟨a,b,h2⟩,⟨c,d,h3⟩⟩:=h
  exact⟨var?_keep hb h1,⟨a,b,var?_keep hb h2⟩,⟨c,d,var?_keep hb h3⟩⟩
end Go.Proofs.YtenpejebbeoceaaGreatDoorW.PrintLast
end
section
set_option linter.unusedVariables false
namespace Go.Proofs.YtenpejebbeoceaaGreatDoorW.PrintLast
open Go Go.RowKit Go.Proofs.YtenpejebbeoceaaGreatDoorW.PrintWords Go.Proofs.YtenpejebbeoceaaGreatDoorW.PrintMore
section
theorem TB {P:Prop} (h:P:=by repeat (first|(with_reducible first|exact HB.out|apply bb_|apply aV_|apply ar_|refine bW_ ?_ (Aside0.out (by assumption)))|exact HB.out)):P:=h
theorem TK {P:Prop} (h:P:=by repeat (first|(with_reducible first|exact HK.out|apply Kept.alloc|apply Kept.drewN|apply Kept.drew)|exact HK.out)):P:=h
theorem TN {P:Prop} (h:P:=by repeat (first|exact Drawn0.refl _|apply Drawn0.step)):P:=h
theorem TW {P:Prop} (h:P:=by repeat (first|exact Below.refl _ _|apply bb_|apply aV_|apply ar_)):P:=h
theorem TE {P:Prop} (h:P:=by first|rfl|(simp[av_,au_]<;>rfl)|(simp[*,av_,au_]<;>rfl)):P:=h
theorem TF {P:Prop} (h:P:=by first|rfl|(simp;done)|(simp[*];done)):P:=h
theorem TA {P:Prop} (h:P:=by(try simp only[List.map_toArray,List.map_cons,List.map_nil]);first|done|rfl|(simp only[List.length_drop,List.length_take];rfl)):P:=h
theorem TD {p:Prop} [Decidable p] (h:decide p=true:=by first|(with_reducible assumption)|assumption):p:=of_decide_eq_true h
theorem KR {P:Prop} (h:P:=by kernel_rfl):P:=h
theorem TM {P:Prop} (h:P:=by have:=HK1.out;omega):P:=h
theorem TZ {P:Prop} (h:P:=by first|exact Kd.R_nil _ _ _ _ _|exact Kd.N_nil _ _ _ _ _|exact Kd.V_nil _ _ _ _ _|exact Kd.Q_nil _ _ _ _ _|exact Kd.S_nil _ _ _ _ _):P:=h
theorem size_le {w W:World} (h:Below w.heap.size w W):w.heap.size≤W.heap.size:=h.size
theorem bG {w W:World} {g:Nat} (hg:g=W.heap.size) (h:Below w.heap.size w W:=by repeat (first|(with_reducible first|exact HB.out|apply bb_|apply aV_|apply ar_|refine bW_ ?_ (Aside0.out (by assumption)))|exact HB.out)):Aside0 (w.heap.size≤g):=⟨hg ▸ h.size⟩
theorem BZ (w:World):Aside0 (Below w.heap.size w w):=⟨Below.refl _ _⟩
theorem NL {n:Nat}:Aside0 (n≤n):=⟨Nat.le_refl _⟩
theorem hS {w W:World} {p:Addr} {v:Value} (hb:Below w.heap.size w W) (h:w.cell? p=some v):W.cell? p=some v:=(hb.cell (World.block_lt_of_cell? _ _ h)).trans h
theorem hBc {w W:World} {p:Addr} {v:Value} (HB:Aside0 (Below w.heap.size w W)) (h:w.cell? p=some v):W.cell? p=some v:=(HB.out.cell (World.block_lt_of_cell? w _ h)).trans h
theorem DR {w W:World} (n:Nat) (HB:Aside0 (Below w.heap.size w W)):Aside0 (Below w.heap.size w (W.drewN n)):=⟨aV_ HB.out n⟩
theorem far0 {w W:World} {g:Nat} (HB:Aside0 (Below w.heap.size w W)) (GW:Aside0 (w.heap.size≤g)) ⦃a:Addr⦄ ⦃u:Value⦄ (h:w.cell? a=some u):a.block≠g∧W.cell? a=some u:=⟨Nat.ne_of_lt (Nat.lt_of_lt_of_le (World.block_lt_of_cell? w _ h) GW.out),hBc HB h⟩
theorem far4 {w W:World} {g:Nat} (HB:Aside0 (Below w.heap.size w W)) (GW:Aside0 (w.heap.size≤g)) (v0 v1 v2 v3:Value) ⦃a:Addr⦄ ⦃u:Value⦄ (h:w.cell? a=some u):((((W.setCell ⟨g,0,none⟩ v0).setCell ⟨g,1,none⟩ v1).setCell ⟨g,2,none⟩ v2).setCell ⟨g,3,none⟩ v3).cell? a=some u:=(aB_ (p:=⟨g,3,none⟩) (far0 HB GW h).1 v3).trans ((aB_ (p:=⟨g,2,none⟩) (far0 HB GW h).1 v2).trans ((aB_ (p:=⟨g,1,none⟩) (far0 HB GW h).1 v1).trans ((aB_ (p:=⟨g,0,none⟩) (far0 HB GW h).1 v0).trans ((far0 HB GW h).2))))
section
variable {α:Type} {d:Kd α} {e base:Nat} {w W w1:World} {ok:Nat→Prop} {v:Value} {xs:List α} {g:Nat} {o:Obj}
theorem BS (hb:Below W.heap.size W w1) (h:Below w.heap.size w W:=by repeat (first|(with_reducible first|exact HB.out|apply bb_|apply aV_|apply ar_|refine bW_ ?_ (Aside0.out (by assumption)))|exact HB.out)):Aside0 (Below w.heap.size w w1):=⟨below_step h hb⟩
theorem RB (x:Aside0 (d.R e w base ok v xs)) (hb:Below W.heap.size W w1) (hw:Below w.heap.size w W:=by repeat (first|exact Below.refl _ _|apply bb_|apply aV_|apply ar_)):Aside0 (d.R e w1 base ok v xs):=⟨Kd.cn_ x.out (below_step hw hb)⟩
theorem RW (x:Aside0 (d.R e w base ok v xs)) (hw:Below w.heap.size w W:=by repeat (first|exact Below.refl _ _|apply bb_|apply aV_|apply ar_)):Aside0 (d.R e W base ok v xs):=⟨Kd.cn_ x.out hw⟩
theorem KB (x:Aside0 (w.heap[g]? = some o)) (hb:Below W.heap.size W w1) (hw:Below w.heap.size w W:=by repeat (first|exact Below.refl _ _|apply bb_|apply aV_|apply ar_)):Aside0 (w1.heap[g]? = some o):=⟨blk_below x.out (below_step hw hb)⟩
theorem KW (x:Aside0 (w.heap[g]? = some o)) (hw:Below w.heap.size w W:=by repeat (first|exact Below.refl _ _|apply bb_|apply aV_|apply ar_)):Aside0 (W.heap[g]? = some o):=⟨blk_below x.out hw⟩
theorem bN {g':Nat} (x:Aside0 (w.heap[g]? = some o)) (hg:g'=W.heap.size) (hw:Below w.heap.size w W:=by repeat (first|exact Below.refl _ _|apply bb_|apply aV_|apply ar_)):Aside0 (g≠g'):=⟨by rw[hg];exact Nat.ne_of_lt (Nat.lt_of_lt_of_le (blk_lt x.out) hw.size)⟩
theorem bM {g':Nat} (x:Aside0 (w.heap[g]? = some o)) (hg:g'=W.heap.size) (hw:Below w.heap.size w W:=by repeat (first|exact Below.refl _ _|apply bb_|apply aV_|apply ar_)):Aside0 (g'≠g):=⟨(bN x hg hw).out.symm⟩
theorem RL {w0:World} {b:Nat} (h:d.R e w1 b ok v xs) (hb:w0.heap.size≤b:=by exact size_le (by repeat (first|(with_reducible first|exact HB.out|apply bb_|apply aV_|apply ar_|refine bW_ ?_ (Aside0.out (by assumption)))|exact HB.out))):Aside0 (d.R e w1 w0.heap.size ok v xs):=⟨Kd.R_lower h hb⟩
theorem bc {t:TypeId} {cs:Array Value} {u:Value} (i:Nat) (x:Aside0 (w.heap[g]? = some (.cells cs t (0,0)))) (h:cs[i]? = some u:=by rfl):w.cell? ⟨g,i,none⟩=some u:=(blk_cell x.out i).trans h
theorem cz1 {t:TypeId} {v0:Value} (x:Aside0 (w.heap[g]? = some (.cells #[v0] t (0,0)))):(∀i,w.frozen? ⟨g,i,none⟩=false)∧w.cell? ⟨g,0,none⟩=some v0:=⟨cu_ x.out,(blk_cell x.out 0).trans rfl⟩
theorem cz3 {t:TypeId} {v0 v1 v2:Value} (x:Aside0 (w.heap[g]? = some (.cells #[v0,v1,v2] t (0,0)))):(∀i,w.frozen? ⟨g,i,none⟩=false)∧w.cell? ⟨g,0,none⟩=some v0∧w.cell? ⟨g,1,none⟩=some v1∧w.cell? ⟨g,2,none⟩=some v2:=⟨cu_ x.out,(blk_cell x.out 0).trans rfl,(blk_cell x.out 1).trans rfl,(blk_cell x.out 2).trans rfl⟩
theorem cz4 {t:TypeId} {v0 v1 v2 v3:Value} (x:Aside0 (w.heap[g]? = some (.cells #[v0,v1,v2,v3] t (0,0)))):(∀i,w.frozen? ⟨g,i,none⟩=false)∧w.cell? ⟨g,0,none⟩=some v0∧w.cell? ⟨g,1,none⟩=some v1∧w.cell? ⟨g,2,none⟩=some v2∧w.cell? ⟨g,3,none⟩=some v3:=⟨cu_ x.out,(blk_cell x.out 0).trans rfl,(blk_cell x.out 1).trans rfl,(blk_cell x.out 2).trans rfl,(blk_cell x.out 3).trans rfl⟩
theorem CW {n:Nat} {A:Option Addr} (h:d.C w A n xs) (hw:Below w.heap.size w W:=by repeat (first|exact Below.refl _ _|apply bb_|apply aV_|apply ar_)):d.C W A n xs:=Kd.ae_ h hw
theorem GW {w W:World} (h:Aside0 (Glob w)) (hb:Below w.heap.size w W:=by repeat (first|(with_reducible first|exact HB.out|apply bb_|apply aV_|apply ar_|refine bW_ ?_ (Aside0.out (by assumption)))|exact HB.out)):Glob W:=Glob.below h.out hb
end
section
variable {α β:Type} {r:β}
theorem bnd {x:Option α} {f:α→Option β} (h:x.bind f=some r):∃a,Aside0 (x=some a)∧f a=some r:=by
  obtain⟨a,h1,h2⟩:=Option.bind_eq_some_iff.mp h
  exact⟨a,⟨h1⟩,h2⟩
theorem ifn {p:Prop} [Decidable p] {x:Option β} (h:(if p then x else none)=some r):p∧x=some r:=by
  by_cases c:p
  · rw[if_pos c] at h;exact⟨c,h⟩
  · rw[if_neg c] at h;cases h
theorem dn {p:Prop} {hp:Decidable p} {x:Option β} (h:(if p then x else none)=some r):decide p=true∧x=some r:=by
  by_cases c:p
  · rw[if_pos c] at h;exact⟨decide_eq_true c,h⟩
  · rw[if_neg c] at h;cases h
theorem nm {γ:Type} {e:γ} {f:γ→Option β} (h:(some e).bind f=some r):∃y,Aside0 (y=e)∧f y=some r:=⟨e,⟨rfl⟩,h⟩
theorem qP {γ:Type} [BEq γ] [LawfulBEq γ] {x y:γ} {hp:Decidable (x=y)} {A B:Option β} (c:x=y) (h:(if x=y then A else B)=some r):(x==y)=true∧(x != y)=false∧A=some r:=⟨beq_iff_eq.mpr c,bne_eq_false_iff_eq.mpr c,by rw[if_pos c] at h;exact h⟩
theorem qN {γ:Type} [BEq γ] [LawfulBEq γ] {x y:γ} {hp:Decidable (x=y)} {A B:Option β} (c:¬x=y) (h:(if x=y then A else B)=some r):(x==y)=false∧(x != y)=true∧B=some r:=⟨beq_eq_false_iff_ne.mpr c,bne_iff_ne.mpr c,by rw[if_neg c] at h;exact h⟩
theorem ifm {p:Prop} [Decidable p] {x:Option β} (h:(if p then none else x)=some r):¬p∧x=some r:=by
  by_cases c:p
  · rw[if_pos c] at h;cases h
  · rw[if_neg c] at h;exact⟨c,h⟩
theorem ift {x y:Option β} (h:(if true=true then x else y)=some r):x=some r:=by simpa using h
theorem iff' {x y:Option β} (h:(if false=true then x else y)=some r):y=some r:=by simpa using h
end
def mL (n m:Nat):Array Bool:=((List.range n).map fun i=>m.testBit i).toArray
section
variable {P:Program} {md:Region.Mode} {ops:Array Oper} {Q:Exit→Act→World→Prop} {S:World→Prop} {ds:List Nat} {T:Bool × List (List Nat × List Nat)} {B:List Nat}
theorem nC {fuel:Nat} {l:Array Bool} {a a':Act} {w:World} (h:wpAnyLast P md ops Q S ds fuel l a' w) (ha:a=a':=by simp only[putAll,Act.put,List.setIfInBounds_toArray,List.set_cons_zero,List.set_cons_succ]):wpAnyLast P md ops Q S ds fuel l a w:=norm_ ha h
theorem pB (i:Nat) {n m N:Nat} {oi:Oper} {v:Value} {fuel:Nat} {a a':Act} {w:World} (hi:ops[i]? = some oi) (hN:oi.dst=some N)
    (h:wpAnyLast P md ops Q S ds fuel (mL n (m+2 ^ i)) a' w) (HT:Aside0 (rtab md ops=T):=by assumption) (hc:anyT T (mL n m).toList (mL n (m+2 ^ i)).toList i=true:=by kernel_rfl) (hQ:∀c a w,Q (.panic c) (a.put oi.dst v) w→Q (.panic c) a w:=by exact fun _ _ _ h=>h)
    (hw:Region.wanted oi (yielded ops a.tmps)=true:=by rfl) (hy:∀w',(execOp a.eval oi).run P w'=.ok (.value v) w':=by intro w';go_simp;with_reducible rfl)
    (ha:a.put (some N) v=a':=by simp only[Act.put,List.setIfInBounds_toArray,List.set_cons_zero,List.set_cons_succ,b6_,i32_w];rfl):wpAnyLast P md ops Q S ds (fuel+1) (mL n m) a w :=
  pure_ _ hi hN (any_of HT.out hc) hQ (Or.inl ⟨hw,hy⟩) ha h
theorem uB (i:Nat) {n m N:Nat} {oi:Oper} {fuel:Nat} {a a':Act} {w:World} (hi:ops[i]? = some oi) (hN:oi.dst=some N)
    (h:wpAnyLast P md ops Q S ds fuel (mL n (m+2 ^ i)) a' w) (HT:Aside0 (rtab md ops=T):=by assumption) (hc:anyT T (mL n m).toList (mL n (m+2 ^ i)).toList i=true:=by kernel_rfl) (hQ:∀c a w,Q (.panic c) (a.put oi.dst undef) w→Q (.panic c) a w:=by exact fun _ _ _ h=>h)
    (hw:Region.wanted oi (yielded ops a.tmps)=false:=by rfl)
    (ha:a.put (some N) undef=a':=by simp only[Act.put,List.setIfInBounds_toArray,List.set_cons_zero,List.set_cons_succ,b6_,i32_w];rfl):wpAnyLast P md ops Q S ds (fuel+1) (mL n m) a w :=
  pure_ _ hi hN (any_of HT.out hc) hQ (Or.inr ⟨hw,rfl⟩) ha h
theorem tB (i:Nat) {n m N:Nat} {oi:Oper} {v:Value} {fuel:Nat} {a a':Act} {w:World} (hS:S w) (hi:ops[i]? = some oi) (hN:oi.dst=some N)
    (h:wpAnyLast P md ops Q S ds fuel (mL n (m+2 ^ i)) a' w) (HT:Aside0 (rtab md ops=T):=by assumption) (HW:Aside0 (waitsOk T.2 B=true):=by assumption) (hy:∀w',S w'→(execOp a.eval oi).run P w'=.ok (.value v) w':=by intro w' hs;(try dsimp only at hs);go_simp;with_reducible rfl)
    (hc:takeW T B ds (mL n m).toList (mL n (m+2 ^ i)).toList i=true:=by kernel_rfl) (hQ:∀c a w,Q (.panic c) (a.put oi.dst v) w→Q (.panic c) a w:=by exact fun _ _ _ h=>h)
    (hw:Region.wanted oi (yielded ops a.tmps)=true:=by rfl)
    (ha:a.put (some N) v=a':=by simp only[Act.put,List.setIfInBounds_toArray,List.set_cons_zero,List.set_cons_succ,b6_,i32_w];rfl):wpAnyLast P md ops Q S ds (fuel+1) (mL n m) a w :=
  take_ _ hi hN (take_ofW HT.out HW.out hc) hQ (Or.inl ⟨hw,hy⟩) hS ha h
theorem oB (i:Nat) {n m:Nat} {N:Option Tmp} {oi:Oper} {fuel:Nat} {a:Act} {w:World} (hi:ops[i]? = some oi) (hN:oi.dst=N)
    (h:∀K:Act→World→Prop,Shut (∀a' w',S w'→(S w'→wpAnyLast P md ops Q S ds fuel (mL n (m+2 ^ i)) a' w')→K a' w')→if Region.wanted oi (yielded ops a.tmps)=true then Oper.wp P oi a w K Q else K (a.put N undef) w)
    (HT:Aside0 (rtab md ops=T):=by assumption) (hc:(readyT T.2 (mL n m).toList==[i]&&(mL n m).toList.set i true==(mL n (m+2 ^ i)).toList)=true:=by kernel_rfl) (hd:i∉ds:=by decide):wpAnyLast P md ops Q S ds (fuel+1) (mL n m) a w :=
  one_ _ hi hN (one_of HT.out hc) hd h
theorem gB {oi:Oper} {N:Option Tmp} {a:Act} {w:World} {K:Act→World→Prop} {f:FuncId} {fn:Func} {as_:Array Operand} {ts:Array TypeId} (hf:P.funcs[f]? = some fn) (args:Array Value)
    (hN:oi.dst=N) (hop:oi.op=.call { callee:=.value (.func f),args:=as_,argTypes:=ts }) (h:Calls P f args w fun e w'=>∃v,e=.returned v∧K (a.put N v) w')
    (hname:(fn.name == "runtime.NumGoroutine")=false:=by kernel_rfl) (hb:fn.body.isSome=true:=by kernel_rfl) (hw:Region.wanted oi (yielded ops a.tmps)=true:=by rfl)
    (hargs:as_.map a.eval=args:=by(try simp only[List.map_toArray,List.map_cons,List.map_nil]);first|done|rfl|(simp only[List.length_drop,List.length_take];rfl)):if Region.wanted oi (yielded ops a.tmps)=true then Oper.wp P oi a w K Q else K (a.put N undef) w :=
  goes_ hf hname hb args hw hN hop hargs h
theorem nA {fuel:Nat} {l:Array Bool} {a a':Act} {w:World} (h:wpAnyLast P md ops Q S ds fuel l a' w) (ha:a=a':=by(show Act.put _ (some _) _=_);simp only[Act.put,List.setIfInBounds_toArray,List.set_cons_zero,List.set_cons_succ,b6_,i32_w];rfl):wpAnyLast P md ops Q S ds fuel l a w:=norm_ ha h
end
section
variable {P:Program} {ops:Array Oper} {rest:List Oper} {o:Oper} {a:Act} {Q:Exit→Act→World→Prop}
theorem bE {W:World} (N:Tmp) (cs:Array Value) (t:TypeId) (h:∀g,g=W.heap.size→∀w1,w1.heap[g]? = some (.cells cs t (0,0))→Below W.heap.size W w1→wpList P ops Q rest (a.put o.dst (.pointer (some ⟨g,0,none⟩))) w1) (hd:o.dst=some N:=by rfl) (hg:o.guard=none:=by rfl)
    (hr:(execOp a.eval o).run P W=.ok (.value (.pointer (some ⟨W.heap.size,0,none⟩))) (W.alloc (.cells cs t (0,0))):=by first|(go_simp;done)|(go_simp;rfl)):wpList P ops Q (o::rest) a W:=box_event hg hd hr h
end
theorem TS {P:Prop} (h:P:=by(repeat (with_reducible first|exact Aside0.out (by assumption)|refine blk_drewN ?_ _|refine ai_ ?_|refine blk_alloc ?_ _|apply blk_put|refine blk_far ?_ (Aside0.out (by assumption)) _));all_goals rfl):P:=h
section
def St (g:Nat) (w W:World):Prop:=w.heap.size≤W.heap.size∧∀k,k<w.heap.size→k≠g→W.heap[k]? = w.heap[k]?
theorem St.refl (g:Nat) (w:World):St g w w:=⟨Nat.le_refl _,fun _ _ _=>rfl⟩
theorem St.below {g:Nat} {w W W':World} (h:St g w W) (hb:Below W.heap.size W W'):St g w W':=⟨Nat.le_trans h.1 hb.size,fun k hk hg=>(hb.block k (Nat.lt_of_lt_of_le hk h.1)).trans (h.2 k hk hg)⟩
theorem St.drew {g:Nat} {w W:World} (h:St g w W):St g w W.drew:=h.below (below_drew (Below.refl _ _))
theorem St.set {g:Nat} {w W:World} (h:St g w W) (i:Nat) (u:Value):St g w (W.setCell ⟨g,i,none⟩ u):=⟨by simpa[World.setCell] using h.1,fun k hk hg=>(Below.heap_setCell W ⟨g,i,none⟩ u k hg).trans (h.2 k hk hg)⟩
variable {α:Type} {d:Kd α} {e base:Nat} {w W w1:World} {ok ok':Nat→Prop} {v:Value} {xs:List α} {g:Nat} {t:TypeId} {cs cs':Array Value}
theorem RT (x:Aside0 (d.R e w base ok v xs)) (b:Aside0 (w.heap[g]? = some (.cells cs t (0,0)))) (h:St g w W:=by repeat (first|(with_reducible first|exact St.refl _ _|apply St.alloc|apply St.drewN|apply St.drew|apply St.set)|exact St.refl _ _)) (ht:∀q,q∈e::d.E→q≠t:=by decide):Aside0 (d.R e W base ok v xs) :=
  ⟨Kd.aM_ (Kd.R_step (Kd.bS_ x.out b.out ht) (fun k ho hk=>h.2 k hk ho.2)) (fun _ h_=>h_.1)⟩
theorem RTB (x:Aside0 (d.R e w base ok v xs)) (b:Aside0 (w.heap[g]? = some (.cells cs t (0,0)))) (hb:Below W.heap.size W w1) (h:St g w W:=by repeat (first|(with_reducible first|exact St.refl _ _|apply St.alloc|apply St.drewN|apply St.drew|apply St.set)|exact St.refl _ _)) (ht:∀q,q∈e::d.E→q≠t:=by decide):Aside0 (d.R e w1 base ok v xs):=⟨Kd.cn_ (RT x b h ht).out hb⟩
theorem RC {A:Option Addr} {n c:Nat} (x:Aside0 (d.R e w base ok (.slice A n c) xs)):d.C w A xs.length xs:=(Kd.ag_ x.out).2.2
theorem RI {A:Option Addr} {n c:Nat} (x:Aside0 (d.R e w base ok (.slice A n c) xs)):n≤c:=(Kd.ag_ x.out).2.1
theorem MO (x:Aside0 (d.R e w base ok v xs)) (hok:∀k,ok k→ok' k:=by intro k hk;first|exact hk|trivial|(simp only[hk,ne_eq,not_false_eq_true,and_self];done)|(simp_all;done)) (hw:Below w.heap.size w W:=by repeat (first|exact Below.refl _ _|apply bb_|apply aV_|apply ar_)):Aside0 (d.R e W base ok' v xs):=⟨Kd.aM_ (Kd.cn_ x.out hw) hok⟩
theorem KF (x:Aside0 (w.heap[g]? = some (.cells cs t (0,0)))) (hb:Below W.heap.size W w1) (h:W.heap[g]? = some (.cells cs t (0,0)):=by(repeat (with_reducible first|exact Aside0.out (by assumption)|refine blk_drewN ?_ _|refine ai_ ?_|refine blk_alloc ?_ _|refine blk_far ?_ (Aside0.out (by assumption)) _))):Aside0 (w1.heap[g]? = some (.cells cs t (0,0))):=⟨blk_below h hb⟩
theorem KP (x:Aside0 (w.heap[g]? = some (.cells cs t (0,0)))) (cs':Array Value) (hb:Below W.heap.size W w1) (h:W.heap[g]? = some (.cells cs' t (0,0)):=by(repeat (with_reducible first|exact Aside0.out (by assumption)|refine blk_drewN ?_ _|refine ai_ ?_|refine blk_alloc ?_ _|apply blk_put|refine blk_far ?_ (Aside0.out (by assumption)) _));all_goals rfl):Aside0 (w1.heap[g]? = some (.cells cs' t (0,0))):=⟨blk_below h hb⟩
theorem NW {β:Type} {d':Kd β} {e' b':Nat} {oku:Nat→Prop} {u:Value} {ys:List β} {w0:World} (h:d.R e w1 W.heap.size ok v xs) (x:Aside0 (d'.R e' w0 b' oku u ys)) (hw:Below w0.heap.size w0 W:=by repeat (first|exact Below.refl _ _|apply bb_|apply aV_|apply ar_)):d.R e w1 W.heap.size (fun k=>ok k∧some k≠u.ownBlock) v xs:=Kd.R_new' h (Kd.R_lt (Kd.cn_ x.out hw))
theorem NT {β:Type} {d':Kd β} {e' b':Nat} {oku:Nat→Prop} {u:Value} {ys:List β} {w0:World} (h:d.R e w1 W.heap.size ok v xs) (x:Aside0 (d'.R e' w0 b' oku u ys)) (b:Aside0 (w0.heap[g]? = some (.cells cs t (0,0)))) (hw:St g w0 W:=by repeat (first|(with_reducible first|exact St.refl _ _|apply St.alloc|apply St.drewN|apply St.drew|apply St.set)|exact St.refl _ _)) (ht:∀q,q∈e'::d'.E→q≠t:=by decide):d.R e w1 W.heap.size (fun k=>ok k∧some k≠u.ownBlock) v xs:=Kd.R_new' h (Kd.R_lt (RT x b hw ht).out)
theorem EL {β:Type} {d':Kd β} {e':Nat} {oku:Nat→Prop} {u:Value} {ys:List β} (x:Aside0 (d.R e w base ok v xs)) (h:d'.R e' w1 W.heap.size oku u ys) (hb:Below W.heap.size W w1) (hw:Below w.heap.size w W:=by repeat (first|exact Below.refl _ _|apply bb_|apply aV_|apply ar_)):Aside0 (d.R e w1 base (fun k=>ok k∧some k≠u.ownBlock) v xs):=⟨Kd.R_elder' (Kd.cn_ x.out hw) (Kd.cD_ h) hb⟩
theorem ET {β:Type} {d':Kd β} {e':Nat} {oku:Nat→Prop} {u:Value} {ys:List β} (x:Aside0 (d.R e w base ok v xs)) (b:Aside0 (w.heap[g]? = some (.cells cs t (0,0)))) (h:d'.R e' w1 W.heap.size oku u ys) (hb:Below W.heap.size W w1) (hw:St g w W:=by repeat (first|(with_reducible first|exact St.refl _ _|apply St.alloc|apply St.drewN|apply St.drew|apply St.set)|exact St.refl _ _)) (ht:∀q,q∈e::d.E→q≠t:=by decide):Aside0 (d.R e w1 base (fun k=>ok k∧some k≠u.ownBlock) v xs):=⟨Kd.R_elder' (RT x b hw ht).out (Kd.cD_ h) hb⟩
theorem RK {S:Nat→Prop} {W2:World} (ok':Nat→Prop) (x:Aside0 (d.R e w base ok v xs)) (hk:Kept w W2 S) (hne:∀k,ok k→¬S k:=by intro k hk;first|(simp only[hk,or_self,not_false_eq_true];done)|(simp_all;done)) (hok:∀k,(ok k∧(¬S k∧k<w.heap.size))→ok' k:=by intro k hk;first|trivial|(simp only[hk,ne_eq,not_false_eq_true,and_self];done)|(simp_all;done)):Aside0 (d.R e W2 base ok' v xs):=⟨Kd.aM_ (Kd.R_keptB x.out hk hne) hok⟩
theorem fr4 {g:Nat} (HB:Aside0 (Below w.heap.size w W)) (GW:Aside0 (w.heap.size≤g)) (v0 v1 v2 v3:Value):(∀⦃a:Addr⦄ ⦃u:Value⦄,w.cell? a=some u→((((W.setCell ⟨g,0,none⟩ v0).setCell ⟨g,1,none⟩ v1).setCell ⟨g,2,none⟩ v2).setCell ⟨g,3,none⟩ v3).cell? a=some u)∧∀n,∀⦃a:Addr⦄ ⦃u:Value⦄,w.cell? a=some u→(((((W.drewN n).setCell ⟨g,0,none⟩ v0).setCell ⟨g,1,none⟩ v1).setCell ⟨g,2,none⟩ v2).setCell ⟨g,3,none⟩ v3).cell? a=some u:=⟨far4 HB GW v0 v1 v2 v3,fun n=>far4 (DR n HB) GW v0 v1 v2 v3⟩
theorem nn {a b:Nat} (x:Aside0 (a≠b)):a≠b∧b≠a:=⟨x.out,x.out.symm⟩
theorem AM {P:Prop} (h:P):Aside0 P:=⟨h⟩
end
theorem goesF_ {P:Program} {ops:Array Oper} {Q:Exit→Act→World→Prop} {oi:Oper} {N:Option Tmp} {a:Act} {w:World} {K:Act→World→Prop} {t:Tmp} {f:FuncId} {fn:Func} {as_:Array Operand} {ts:Array TypeId} (hv:a.eval (.tmp t)=.func (.func f) #[] #[]) (hf:P.funcs[f]? = some fn) (hname:(fn.name == "runtime.NumGoroutine")=false) (hb:fn.body.isSome=true) (args:Array Value)
    (hw:Region.wanted oi (yielded ops a.tmps)=true) (hN:oi.dst=N) (hop:oi.op=.call { callee:=.value (.tmp t),args:=as_,argTypes:=ts }) (hargs:as_.map a.eval=args)
    (h:Calls P f args w fun e w'=>∃v,e=.returned v∧K (a.put N v) w'):if Region.wanted oi (yielded ops a.tmps)=true then Oper.wp P oi a w K Q else K (a.put N undef) w:=by
  refine call_ f args hw hN ?_ h
  have he:=enters_ hf hname hb args w
  unfold execOp
  simp[hop,resolve,Deferred.ofValue,invoke,hv,hargs,he]
theorem gD {P:Program} {ops:Array Oper} {rest:List Oper} {o:Oper} {a:Act} {Q:Exit→Act→World→Prop} {W:World} (N:Tmp) (_hN:o.dst=some N) (h:wpList P ops Q (o::rest) a W):wpList P ops Q (o::rest) a W:=h
theorem gL {P:Program} {ops:Array Oper} {rest:List Oper} {oi:Oper} {a:Act} {Q:Exit→Act→World→Prop} {w:World} (N:Tmp) (hd:oi.dst=some N) {f:FuncId} {fn:Func} {as_:Array Operand} {ts:Array TypeId} (hf:P.funcs[f]? = some fn) (args:Array Value)
    (hop:oi.op=.call { callee:=.value (.func f),args:=as_,argTypes:=ts }) (hargs:as_.map a.eval=args) (h:Calls P f args w fun e w'=>∃v,e=.returned v∧wpList P ops Q rest (a.put (some N) v) w')
    (hg:oi.guard=none:=by rfl) (hname:(fn.name == "runtime.NumGoroutine")=false:=by kernel_rfl) (hb:fn.body.isSome=true:=by rfl):wpList P ops Q (oi::rest) a w:=goesL_ (some N) hd hg hf hname hb args hop hargs h
theorem gQ {P:Program} {i:Nat} {ops:Array Oper} {b:Bool} {Q:Exit→Act→World→Prop} {a:Act} {w:World} (h:(Code.region i ops b).wp P Q a w):(Code.region i ops b).wp P Q a w:=h
theorem RF {α:Type} {d:Kd α} {e base:Nat} {w W:World} {ok ok':Nat→Prop} {v:Value} {xs:List α} (x:Aside0 (d.R e w base ok v xs)) (g:Nat) (hg:∀k,ok k→k≠g) (hok:∀k,ok k→ok' k)
    (h:St g w W:=by repeat (first|(with_reducible first|exact St.refl _ _|apply St.alloc|apply St.drewN|apply St.drew|apply St.set)|exact St.refl _ _)):d.R e W base ok' v xs:=Kd.aM_ (Kd.R_step x.out (fun k ho hk=>h.2 k hk (hg k ho))) hok
theorem FF1 {w:World} {g g' i0:Nat} {t:TypeId} {cs:Array Value} {v0:Value} (x:w.heap[g]? = some (.cells cs t (0,0))) (hn:g≠g'):(w.setCell ⟨g',i0,none⟩ v0).heap[g]? = some (.cells cs t (0,0)):=blk_far x hn v0
theorem FF2 {w:World} {g g' i0 i1:Nat} {t:TypeId} {cs:Array Value} {v0 v1:Value} (x:w.heap[g]? = some (.cells cs t (0,0))) (hn:g≠g'):((w.setCell ⟨g',i0,none⟩ v0).setCell ⟨g',i1,none⟩ v1).heap[g]? = some (.cells cs t (0,0)):=blk_far (blk_far x hn v0) hn v1
theorem PF3 {w:World} {g:Nat} {t:TypeId} {q0 q1 q2:Value} {v0 v1 v2:Value} (x:w.heap[g]? = some (.cells #[q0,q1,q2] t (0,0))):(((w.setCell ⟨g,0,none⟩ v0).setCell ⟨g,1,none⟩ v1).setCell ⟨g,2,none⟩ v2).heap[g]? = some (.cells #[v0,v1,v2] t (0,0)):=blk_put (blk_put (blk_put x 0 v0 rfl) 1 v1 rfl) 2 v2 rfl
theorem FF3 {w:World} {g g' i0 i1 i2:Nat} {t:TypeId} {cs:Array Value} {v0 v1 v2:Value} (x:w.heap[g]? = some (.cells cs t (0,0))) (hn:g≠g'):(((w.setCell ⟨g',i0,none⟩ v0).setCell ⟨g',i1,none⟩ v1).setCell ⟨g',i2,none⟩ v2).heap[g]? = some (.cells cs t (0,0)):=blk_far (blk_far (blk_far x hn v0) hn v1) hn v2
theorem PF4 {w:World} {g:Nat} {t:TypeId} {q0 q1 q2 q3:Value} {v0 v1 v2 v3:Value} (x:w.heap[g]? = some (.cells #[q0,q1,q2,q3] t (0,0))):((((w.setCell ⟨g,0,none⟩ v0).setCell ⟨g,1,none⟩ v1).setCell ⟨g,2,none⟩ v2).setCell ⟨g,3,none⟩ v3).heap[g]? = some (.cells #[v0,v1,v2,v3] t (0,0)):=blk_put (blk_put (blk_put (blk_put x 0 v0 rfl) 1 v1 rfl) 2 v2 rfl) 3 v3 rfl
theorem FF4 {w:World} {g g' i0 i1 i2 i3:Nat} {t:TypeId} {cs:Array Value} {v0 v1 v2 v3:Value} (x:w.heap[g]? = some (.cells cs t (0,0))) (hn:g≠g'):((((w.setCell ⟨g',i0,none⟩ v0).setCell ⟨g',i1,none⟩ v1).setCell ⟨g',i2,none⟩ v2).setCell ⟨g',i3,none⟩ v3).heap[g]? = some (.cells cs t (0,0)):=blk_far (blk_far (blk_far (blk_far x hn v0) hn v1) hn v2) hn v3
end
end Go.Proofs.YtenpejebbeoceaaGreatDoorW.PrintLast
end
section
namespace Go.Proofs.YtenpejebbeoceaaGreatDoorW.PrintLast
open Go Go.Proofs Go.RowKit Go.Proofs.YtenpejebbeoceaaGreatDoorW.PrintWords
set_option linter.unusedVariables false
theorem num_atoi_ok (s:ByteArray) (hs:s.size≤281474976710656) (v:Int) (h:Go.Lib.atoiAll s.data.toList=.ok v) (w:World) :
    Calls Tryz.prog 176 #[.string s] w fun e w'=>e=.returned (.tuple #[.int .i64 v,.nilIface])∧Below w.heap.size w w' :=
  (Go.Proofs.Any.strconv_Atoi_ok Go.Proofs.Tryz.laysC172 s (by omega) v h w).mono fun e w' hh=>⟨hh.1,by
    rcases hh.2 with rfl|⟨t,rfl⟩
    · exact Below.refl _ _
    · exact bytes_below (Below.refl _ _) (Nat.le_refl _) _ _⟩
def noNum:Go.Lib.NumEnd Int→Prop
  | .ok _=>False
  | .range=>False
  | _=>True
theorem num_atoi_syntax (s:ByteArray) (hs:s.size≤281474976710656) (hn:noNum (Go.Lib.atoiAll s.data.toList)) (w:World) (hG:Glob w) :
    Calls Tryz.prog 176 #[.string s] w fun e w'=>∃t p,e=.returned (.tuple #[.int .i64 0,.iface t p])∧Below w.heap.size w w':=by
  obtain⟨tp,p,hv⟩:=hG.errS
  cases h:Go.Lib.atoiAll s.data.toList with
  | ok v=>rw[h] at hn;exact hn.elim
  | range=>rw[h] at hn;exact hn.elim
  | _ =>
  exact(Go.Proofs.Any.strconv_Atoi_syntax_var Go.Proofs.Tryz.laysC172 s hs h tp p w hv).mono fun e w' ⟨N,h1,_,_,h4⟩=>⟨_,_,h1,h4⟩
theorem num_atoi_range (s:ByteArray) (hs:s.size≤281474976710656) (h:Go.Lib.atoiAll s.data.toList=.range) (w:World) (hG:Glob w) :
    Calls Tryz.prog 176 #[.string s] w fun e w'=>∃t p,e=.returned (.tuple #[.int .i64 (Go.Lib.atoiSat s.data.toList),.iface t p])∧Below w.heap.size w w':=by
  obtain⟨tp,p,hv⟩:=hG.errR
  exact(Go.Proofs.Any.strconv_Atoi_range_var Go.Proofs.Tryz.laysC172 s hs h tp p w hv).mono fun e w' ⟨N,h1,_,_,h4⟩=>⟨_,_,h1,h4⟩
theorem num_itoa (n:Int) (h0 : -9223372036854775808≤n) (h1:n≤9223372036854775807) (w:World) (hG:Glob w) :
    Calls Tryz.prog 73 #[.int .i64 n] w fun e w'=>e=.returned (.string ⟨(Go.Lib.itoa n).toArray⟩)∧Below w.heap.size w w' :=
  (Go.Proofs.Any.strconv_Itoa Go.Proofs.Tryz.laysM171 n h0 h1 w hG.tab).mono fun e w' ⟨h2,k,os,h3⟩=>⟨h2,h3 ▸ Go.Lib.below_grow _ _ (Nat.le_refl _) _ _⟩
end Go.Proofs.YtenpejebbeoceaaGreatDoorW.PrintLast
end
section
set_option linter.unusedVariables false
namespace Go.Proofs.YtenpejebbeoceaaGreatDoorW.PrintLast
open Go Go.RowKit Go.Proofs.YtenpejebbeoceaaGreatDoorW.PrintWords Go.Proofs.YtenpejebbeoceaaGreatDoorW.PrintMore
section
theorem bytes_F (W:World) (e:TypeId) (s:ByteArray) (hs:s.size≤9223372036854775807) {ok:Nat→Prop} (hok:ok W.heap.size) :
    Kd.F (Kd.int .u8) (Lib.bytesWorld W e s) ok (some ⟨W.heap.size,0,none⟩) (bytesOf s).length (bytesOf s):=fun W' hW'=>by
  have hh:=hW' W.heap.size hok (by rw[Lib.bytesWorld_size];omega)
  have hr:ReadsInt W' .u8 (some ⟨W.heap.size,0,none⟩) (bytesOf s).length (bytesOf s):=by
    refine⟨rfl,by rw[bytesOf_length];exact hs,fun hp=>⟨_,rfl,fun j hj=>?_⟩⟩
    rw[bytesOf_length] at hp hj
    obtain⟨ad,e1,hc⟩:=(bytes_reads W e s hs).2.2 hp
    obtain rfl:=Option.some.inj e1
    rw[←hc j hj]
    rw[add_plain]
    unfold World.cell?
    rw[hh]
  exact Kd.C_of_reads (d:=(0:Int)) (h1:=fun _=>rfl) hr
section
variable {P:Program} {ops:Array Oper} {rest:List Oper} {o:Oper} {a:Act} {Q:Exit→Act→World→Prop}
theorem Kd.V_bytes {w0 W:World} (base e:Nat) (hgd:o.guard=none) {N:Tmp} (hd:o.dst=some N) (src t:TypeId) (x:Operand) (ho:o.op=.convert src t x) (s:ByteArray) (hx:a.eval x=.string s) {u:TypeDesc}
    (hs:P.underlying src=some u) (ht:P.underlying t=some (.slice e)) (he:P.underlying e=some (.int .u8)) (hz:s.size≤9223372036854775807) {ok:Nat→Prop} (hok:ok W.heap.size) (HB:Below base w0 W) (hbase:base≤W.heap.size)
    (h:∀v1 w1,Kd.V (Kd.int .u8) e w1 base ok v1 (bytesOf s)→Below base w0 w1→Below W.heap.size W w1→(∃b,v1.ownBlock=some b∧W.heap.size≤b)→wpList P ops Q rest (a.put o.dst v1) w1):wpList P ops Q (o::rest) a W:=by
  have hrun:=print_bytes (P:=P) src t e hs ht he s W
  have hc:s.size≤grownCap W s.size 0 e:=grownCap_ge W s.size 0 e
  refine Kd.event_run (w1:=Lib.bytesWorld W e s) (v:=.slice (some ⟨W.heap.size,0,none⟩) s.size (grownCap W s.size 0 e)) hgd (by simp[execOp,ho,hx,hrun]) (h _ _ ?_ (bytes_below HB hbase e s) (bytes_below (Below.refl _ _) (Nat.le_refl _) e s) ⟨_,rfl,Nat.le_refl _⟩)
  have hv:=bytes_F W e s hz (ok:=ok) hok
  have:=Kd.V_mk (d:=Kd.int .u8) (e:=e) (base:=base) (c:=grownCap W s.size 0 e) (by rw[bytesOf_length];exact hc) hv
  rw[bytesOf_length] at this
  exact this
end
end
end Go.Proofs.YtenpejebbeoceaaGreatDoorW.PrintLast
end
section
namespace Go.Proofs.YtenpejebbeoceaaGreatDoorW.PrintLast
section
section
variable {P:Program} {ops:Array Oper} {Q:Exit→Act→World→Prop} {md:Region.Mode} {S:World→Prop} {ds:List Nat} {T:Bool × List (List Nat × List Nat)}
end
end
end Go.Proofs.YtenpejebbeoceaaGreatDoorW.PrintLast
end
section
namespace Go.Proofs.YtenpejebbeoceaaGreatDoorW.PrintWords
open Go.RowKit
namespace Kd
section
variable {α:Type} {d:Kd α} {W:World} {g n:Nat} {S ok:Nat→Prop} {A:Option Addr} {ad:Addr} {xs:List α}
end
end Kd
end Go.Proofs.YtenpejebbeoceaaGreatDoorW.PrintWords
end
section
namespace Go.Proofs.YtenpejebbeoceaaGreatDoorW.PrintWords
open Go.RowKit
section
variable {w w' u:World} {m B g:Nat} {o:Obj} {row:Option Nat} {S:Nat→Prop} {a:Addr} {v:Value}
end
namespace Kd
section
variable {α:Type} {d:Kd α} {e base n m:Nat} {ok:Nat→Prop} {w w':World} {v:Value} {A:Option Addr} {xs:List α}
end
end Kd
end Go.Proofs.YtenpejebbeoceaaGreatDoorW.PrintWords
end
section
namespace Go.Proofs.YtenpejebbeoceaaGreatDoorW.PrintWords
open Go.RowKit
section
section
variable {P:Program} {d:Nat} {xs ys:Array Value} {f:Field} {fs:List Field} {a b:Value} {r s:Bool} {w:World}
theorem eqf_last (hn:(f.name == "_")=false) (ha:(part f.type xs f.offset).run P w=.ok a w) (hb:(part f.type ys f.offset).run P w=.ok b w) (he:(Op.equalIn d f.type a b).run P w=.ok r w):(Op.eqFields d xs ys [f]).run P w=.ok r w:=by
  have hn':f.name ≠ "_" := by simpa using hn
  simp only[Op.eqFields,if_pos hn',Sem.run_bind,ha,hb,he,Result.andThen_ok]
  cases r<;>simp
theorem eqf_cons (hn:(f.name == "_")=false) (ha:(part f.type xs f.offset).run P w=.ok a w) (hb:(part f.type ys f.offset).run P w=.ok b w) (he:(Op.equalIn d f.type a b).run P w=.ok r w) (hr:(Op.eqFields d xs ys fs).run P w=.ok s w):(Op.eqFields d xs ys (f::fs)).run P w=.ok (r&&s) w:=by
  have hn':f.name ≠ "_" := by simpa using hn
  rw[Op.eqFields]
  simp only[if_pos hn',Sem.run_bind,ha,hb,he,Result.andThen_ok]
  cases r
  · simp
  · simpa using hr
theorem eqA_of {t:TypeId} {fs:Array Field} (hu:P.underlying t=some (.struct fs)) (hp:P.stoodInHeld t=false) (h:(Op.eqFields d xs ys fs.toList).run P w=.ok r w):(Op.equalIn (d+1) t (.agg xs) (.agg ys)).run P w=.ok r w:=by
  have hf:P.fieldsOf t=fs:=by simp[Program.fieldsOf,hu]
  rw[run_equalIn_struct (P:=P) w d t xs ys (by rw[hf];exact hu) hp,hf]
  exact h
end
end
end Go.Proofs.YtenpejebbeoceaaGreatDoorW.PrintWords
end
section
namespace Go.Proofs.YtenpejebbeoceaaGreatDoorW.PrintWords
theorem Reps.one {α:Type} {R:α→List Value→Prop} {ps:List α} {cs:List Value} {p:α} {v:Value} (hp:R p [v]) (h:Reps R 1 ps cs):Reps R 1 (p::ps) (v::cs):=by
  refine⟨by simp[h.1],fun j q hq=>?_⟩
  cases j with
  | zero =>
    simp only[List.getElem?_cons_zero,Option.some.injEq] at hq
    subst hq
    simpa using hp
  | succ j =>
    simp only[List.getElem?_cons_succ] at hq
    have h1:=h.2 j q hq
    simpa[Nat.mul_one] using h1
theorem Reps.front {α:Type} {R:α→List Value→Prop} {size:Nat} {ps:List α} {cs c all:List Value} {p:α} (hp:R p c) (hc:c.length=size) (h:Reps R size ps cs) (ha:c++cs=all):Reps R size (p::ps) all:=by
  subst ha
  refine⟨by rw[List.length_append,hc,h.1,List.length_cons,Nat.succ_mul,Nat.add_comm],fun j q hq=>?_⟩
  cases j with
  | zero =>
    simp only[List.getElem?_cons_zero,Option.some.injEq] at hq
    subst hq
    rw[Nat.zero_mul,List.drop_zero,List.take_append_of_le_length (by omega),List.take_of_length_le (by omega)]
    exact hp
  | succ j =>
    simp only[List.getElem?_cons_succ] at hq
    have h1:=h.2 j q hq
    rw[Nat.succ_mul,List.drop_append,List.drop_of_length_le (by rw[hc];exact Nat.le_add_left _ _),List.nil_append,hc,Nat.add_sub_cancel]
    exact h1
theorem Reps.c2 {α:Type} {R:α→List Value→Prop} {ps:List α} {cs:List Value} {p:α} {va vb:Value} (hp:R p [va,vb]) (h:Reps R 2 ps cs):Reps R 2 (p::ps) (va::vb::cs):=Reps.front hp rfl h rfl
theorem Reps.c3 {α:Type} {R:α→List Value→Prop} {ps:List α} {cs:List Value} {p:α} {va vb vc:Value} (hp:R p [va,vb,vc]) (h:Reps R 3 ps cs):Reps R 3 (p::ps) (va::vb::vc::cs):=Reps.front hp rfl h rfl
theorem Reps.c4 {α:Type} {R:α→List Value→Prop} {ps:List α} {cs:List Value} {p:α} {va vb vc vd:Value} (hp:R p [va,vb,vc,vd]) (h:Reps R 4 ps cs):Reps R 4 (p::ps) (va::vb::vc::vd::cs):=Reps.front hp rfl h rfl
theorem Reps.c5 {α:Type} {R:α→List Value→Prop} {ps:List α} {cs:List Value} {p:α} {va vb vc vd ve:Value} (hp:R p [va,vb,vc,vd,ve]) (h:Reps R 5 ps cs):Reps R 5 (p::ps) (va::vb::vc::vd::ve::cs):=Reps.front hp rfl h rfl
theorem Reps.c6 {α:Type} {R:α→List Value→Prop} {ps:List α} {cs:List Value} {p:α} {va vb vc vd ve vf:Value} (hp:R p [va,vb,vc,vd,ve,vf]) (h:Reps R 6 ps cs):Reps R 6 (p::ps) (va::vb::vc::vd::ve::vf::cs):=Reps.front hp rfl h rfl
theorem Reps.c7 {α:Type} {R:α→List Value→Prop} {ps:List α} {cs:List Value} {p:α} {va vb vc vd ve vf vg:Value} (hp:R p [va,vb,vc,vd,ve,vf,vg]) (h:Reps R 7 ps cs):Reps R 7 (p::ps) (va::vb::vc::vd::ve::vf::vg::cs):=Reps.front hp rfl h rfl
theorem Reps.c8 {α:Type} {R:α→List Value→Prop} {ps:List α} {cs:List Value} {p:α} {va vb vc vd ve vf vg vh:Value} (hp:R p [va,vb,vc,vd,ve,vf,vg,vh]) (h:Reps R 8 ps cs):Reps R 8 (p::ps) (va::vb::vc::vd::ve::vf::vg::vh::cs):=Reps.front hp rfl h rfl
theorem Reps.c9 {α:Type} {R:α→List Value→Prop} {ps:List α} {cs:List Value} {p:α} {va vb vc vd ve vf vg vh vi:Value} (hp:R p [va,vb,vc,vd,ve,vf,vg,vh,vi]) (h:Reps R 9 ps cs):Reps R 9 (p::ps) (va::vb::vc::vd::ve::vf::vg::vh::vi::cs):=Reps.front hp rfl h rfl
theorem Reps.c10 {α:Type} {R:α→List Value→Prop} {ps:List α} {cs:List Value} {p:α} {va vb vc vd ve vf vg vh vi vj:Value} (hp:R p [va,vb,vc,vd,ve,vf,vg,vh,vi,vj]) (h:Reps R 10 ps cs):Reps R 10 (p::ps) (va::vb::vc::vd::ve::vf::vg::vh::vi::vj::cs):=Reps.front hp rfl h rfl
end Go.Proofs.YtenpejebbeoceaaGreatDoorW.PrintWords
end
section
namespace Go.Proofs.YtenpejebbeoceaaGreatDoorW.PrintLast
section
def up (b:Nat→Bool) (i:Nat):Nat→Bool:=fun j=>if j=i then true else b j
section
variable {P:Program} {ops:Array Oper} {Q:Exit→Act→World→Prop} {md:Region.Mode} {T:Bool × List (List Nat × List Nat)} {B:List Nat} {O:List Nat} {b:Nat→Bool} {i j n:Nat}
end
end
end Go.Proofs.YtenpejebbeoceaaGreatDoorW.PrintLast
end
section
namespace Go.Proofs.YtenpejebbeoceaaGreatDoorW.PrintWords
open Go.RowKit
end Go.Proofs.YtenpejebbeoceaaGreatDoorW.PrintWords
namespace Go.Proofs.YtenpejebbeoceaaGreatDoorW.PrintLast
section
variable {ops:Array Oper} {a:Act} {o og:Oper} {g:Nat} {t:Tmp} {u:Bool}
end
end Go.Proofs.YtenpejebbeoceaaGreatDoorW.PrintLast
end
section
namespace Go.Proofs.YtenpejebbeoceaaGreatDoorW.PrintWords
open Go.RowKit
section
section
variable {P:Program} {ops:Array Oper} {rest:List Oper} {o:Oper} {a:Act} {Q:Exit→Act→World→Prop} {W:World}
theorem aQ_ (hw:Region.wanted o (yielded ops a.tmps)=true) (h:wpList P ops Q ({ o with guard:=none }::rest) a W):wpList P ops Q (o::rest) a W:=by
  have h1:Region.wanted { o with guard:=none } (yielded ops a.tmps)=true:=rfl
  unfold wpList at h ⊢
  rw[if_pos h1] at h
  rw[if_pos hw]
  exact h
end
end
end Go.Proofs.YtenpejebbeoceaaGreatDoorW.PrintWords
end
section
set_option linter.unusedVariables false
namespace Go.Proofs.YtenpejebbeoceaaGreatDoorW.PrintLast
open Go Go.RowKit Go.Proofs.YtenpejebbeoceaaGreatDoorW.PrintWords
section
section
variable {P:Program} {md:Region.Mode} {ops:Array Oper} {Q:Exit→Act→World→Prop} {S S':World→Prop}
theorem more_all (hSS:∀w,S' w→S w):∀(fuel:Nat) (l:Array Bool) (a:Act) (w:World),S' w→wpAnyLast P md ops Q S' [] fuel l a w→wpAnyLast P md ops Q S [] fuel l a w
  | 0,_,_,_,_,h=>h
  | fuel+1,l,a,w,hS,h=>⟨h.1,fun i hi=>wpOp_mono (fun a' w' h'=>⟨fun _ _=>hSS w' (h'.1 (by simp) hS),more_all hSS fuel _ a' w' (h'.1 (by simp) hS) h'.2⟩) (h.2 i hi)⟩
theorem more_ {fuel:Nat} {l:Array Bool} {a:Act} {w:World} (S':World→Prop) (hSS:∀w,S' w→S w) (hS:S' w) (h:S' w→wpAnyLast P md ops Q S' [] fuel l a w):wpAnyLast P md ops Q S [] fuel l a w:=more_all hSS fuel l a w hS (h hS)
end
end
end Go.Proofs.YtenpejebbeoceaaGreatDoorW.PrintLast
end
section
set_option linter.unusedVariables false
set_option linter.unusedSimpArgs false
namespace Go.Proofs.YtenpejebbeoceaaGreatDoor.PB
open Go.RowKit Go.Proofs.YtenpejebbeoceaaGreatDoorW.PrintWords Go.Proofs.YtenpejebbeoceaaGreatDoorW.PrintLast
theorem w64 {i:Int} (h0 : -9223372036854775808≤i) (h1:i≤9223372036854775807):wrap64 i=i:=by
  unfold wrap64
  omega
theorem Ev.succ {α:Type} {g:Nat→Option α} {r:α} (h:Ev (fun k=>g (k+1)) r):Ev g r:=by
  obtain⟨K,hK⟩:=h
  refine⟨K+1,fun k hk=>?_⟩
  obtain⟨m,rfl⟩:∃m,k=m+1:=⟨k - 1,by omega⟩
  exact hK m (by omega)
theorem Ev.const {α:Type} {o:Option α} {r:α} (h:o=some r):Ev (fun _=>o) r:=⟨0,fun _ _=>h⟩
theorem Ev.pos {α:Type} {c:Prop} [Decidable c] {a b:Nat→Option α} {r:α} (hc:c) (h:Ev a r):Ev (fun k=>if c then a k else b k) r:=by
  simpa only[if_pos hc] using h
theorem Ev.neg {α:Type} {c:Prop} [Decidable c] {a b:Nat→Option α} {r:α} (hc:¬c) (h:Ev b r):Ev (fun k=>if c then a k else b k) r:=by
  simpa only[if_neg hc] using h
theorem Ev.bind' {α β:Type} {g:Nat→Option α} {f:Nat→α→Option β} (a:α) {r:β} (h:Ev g a) (k:Ev (fun n=>f n a) r):Ev (fun n=>(g n).bind (f n)) r:=Ev.bind h k
theorem Ev.cbind {α β:Type} {o:Option α} {f:Nat→α→Option β} (a:α) {r:β} (h:o=some a) (k:Ev (fun n=>f n a) r):Ev (fun n=>o.bind (f n)) r:=by
  subst h
  exact k
theorem Ev.eq_ {α:Type} {g:Nat→Option α} {r q:α} (h:Ev g r) (e:r=q):Ev g q:=e ▸ h
theorem Ev.get {α:Type} {g:Nat→Option α} {r:α} (h:Ev g r):∃k,g k=some r:=h.rounds
end Go.Proofs.YtenpejebbeoceaaGreatDoor.PB
namespace Go.Proofs.YtenpejebbeoceaaGreatDoor.PB
open Go.RowKit Go.Proofs.YtenpejebbeoceaaGreatDoorW.PrintWords Go.Proofs.YtenpejebbeoceaaGreatDoorW.PrintLast
theorem a4_ {α σ ρ:Type} (l:List α) (F:Nat→σ→Int→Option ρ) (spec:σ→List α→ρ) (I:List α→σ→Prop)
    (hnil:∀s,I l s→Ev (fun k=>F k s (l.length:Int)) (spec s []))
    (hcons:∀p x t s,l=p++x::t→I p s→(∀s',I (p++[x]) s'→Ev (fun k=>F k s' ((p.length:Int)+1)) (spec s' t))→Ev (fun k=>F k s (p.length:Int)) (spec s (x::t))) :
    ∀s,I [] s→Ev (fun k=>F k s 0) (spec s l):=by
  have main:∀(t p:List α) (s:σ),l=p++t→I p s→Ev (fun k=>F k s (p.length:Int)) (spec s t):=by
    intro t
    induction t with
    | nil =>
      intro p s e hi
      have:p=l:=by rw[e];simp
      subst this
      exact hnil s hi
    | cons x t ih =>
      intro p s e hi
      refine hcons p x t s e hi (fun s' hs'=>?_)
      have:=ih (p++[x]) s' (by rw[e];simp) hs'
      simpa using this
  intro s hs
  simpa using main l [] s rfl hs
theorem bc_ {α:Type} {l p t:List α} {x:α} (e:l=p++x::t):(p.length:Int)<(l.length:Int)∧p.length<l.length∧l.length=p.length+(t.length+1):=by
  have:l.length=p.length+(t.length+1):=by rw[e];simp
  omega
theorem bt_ {α:Type} {l p t:List α} {x d:α} (e:l=p++x::t):l.getD ((p.length:Int)).toNat d=x:=by
  rw[e]
  simp[List.getD_eq_getElem?_getD]
theorem rd_mid' {l p t:List Int} {x:Int} (e:l=p++x::t):rd l (p.length:Int)=x:=bt_ e
theorem rdOf_mid {α:Type} {l p t:List α} {x d:α} (e:l=p++x::t):rdOf d l (p.length:Int)=x:=by
  unfold rdOf
  exact bt_ e
theorem b5_ {α:Type} {l p t:List α} {x:α} (e:l=p++x::t):x∈l:=by rw[e];simp
theorem set_mid {α:Type} (p q:List α) (x y:α):(p++y::q).set ((p.length:Int)).toNat x=(p++[x])++q:=by
  simp
theorem Ev.aK_ {α:Type} {a b:Nat→Option α} {r:α} (h:Ev a r):Ev (fun k=>if (true=true) then a k else b k) r:=Ev.pos rfl h
theorem Ev.aG_ {α:Type} {a b:Nat→Option α} {r:α} (h:Ev b r):Ev (fun k=>if (false=true) then a k else b k) r:=Ev.neg (by simp) h
def idxP {α:Type} (p:α→Bool):List α→Int
  | [] => -1
  | x::t=>if p x then 0 else if 0≤idxP p t then idxP p t+1 else -1
theorem idxP_iff {α:Type} (p:α→Bool) (l:List α):0≤idxP p l↔l.any p=true:=by
  induction l with
  | nil=>simp[idxP]
  | cons x t ih =>
    rw[List.any_cons,Bool.or_eq_true,←ih]
    rw[show idxP p (x::t)=(if p x then 0 else if 0≤idxP p t then idxP p t+1 else -1) from rfl]
    by_cases h:p x=true
    · rw[if_pos h];simp[h]
    · rw[if_neg h]
      by_cases h2:0≤idxP p t
      · rw[if_pos h2];simp only[h2,or_true,iff_true];omega
      · rw[if_neg h2];simp[h,h2]
theorem idxP_nonneg {α:Type} (p:α→Bool) (l:List α):decide (idxP p l≥0)=l.any p:=by
  have h:=idxP_iff p l
  cases hb:l.any p with
  | true=>exact decide_eq_true (h.2 hb)
  | false =>
    refine decide_eq_false (fun h2=>?_)
    have:=h.1 h2
    rw[hb] at this
    cases this
theorem idxP_ge {α:Type} (p:α→Bool) (l:List α) : -1≤idxP p l:=by
  induction l with
  | nil=>simp[idxP]
  | cons x t ih =>
    rw[show idxP p (x::t)=(if p x then 0 else if 0≤idxP p t then idxP p t+1 else -1) from rfl]
    split
    · omega
    · split<;>omega
theorem idxP_neg {α:Type} (p:α→Bool) (l:List α) (h:¬0≤idxP p l):idxP p l = -1:=by
  have:=idxP_ge p l
  omega
theorem any_not {α:Type} (p:α→Bool) (l:List α):(l.any fun c => !p c) = !l.all p:=by
  induction l with
  | nil=>rfl
  | cons x t ih=>simp only[List.any_cons,List.all_cons,ih,Bool.not_and]
end Go.Proofs.YtenpejebbeoceaaGreatDoor.PB
end
section
set_option linter.unusedVariables false
set_option linter.unusedSimpArgs false
namespace Go.Proofs.YtenpejebbeoceaaGreatDoor.PL
open Go.RowKit Go.Proofs.YtenpejebbeoceaaGreatDoor.PB Go.Proofs.YtenpejebbeoceaaGreatDoorW.PrintWords Go.Proofs.YtenpejebbeoceaaGreatDoorW.PrintLast
def bts (s:ByteArray):List UInt8:=s.data.toList
theorem bq_ (s:ByteArray):s.size=(bts s).length:=Go.Lib.size_eq s
theorem bs_ (s:ByteArray):s.toList=bts s:=Go.Lib.toList_data s
theorem bts_inj {a b:ByteArray} (h:bts a=bts b):a=b:=by
  rw[←Go.Lib.mk_data a,←Go.Lib.mk_data b]
  exact congrArg (fun l:List UInt8=>(⟨l.toArray⟩:ByteArray)) h
theorem ci_ (l:List UInt8):bts ⟨l.toArray⟩=l:=by simp[bts]
theorem extract_bts (s:ByteArray) (a b:Nat):s.extract a b=⟨(((bts s).drop a).take (b - a)).toArray⟩:=Go.Lib.extract_eq s a b
theorem mk_bts (s:ByteArray):(⟨(bts s).toArray⟩:ByteArray)=s:=Go.Lib.mk_data s
theorem bt_mid {s:ByteArray} {p t:List UInt8} {b:UInt8} (e:bts s=p++b::t):bt s (p.length:Int)=(b.toNat:Int):=by
  have hl:p.length<s.size:=by rw[bq_,e];simp
  have hd:s.data.size=s.size:=rfl
  unfold bt
  rw[dif_pos (by simpa using hl)]
  have h2:s.data[p.length]? = some b:=by
    rw[←Array.getElem?_toList]
    have e':s.data.toList=p++b::t:=e
    rw[e']
    simp
  have h3:s[p.length]'hl=b:=by
    have:s.data[p.length]'hl=b:=by
      rw[Array.getElem?_eq_getElem hl] at h2
      exact Option.some.inj h2
    exact this
  simp only[Int.toNat_natCast]
  rw[h3]
def splitC (c:UInt8) (cur:List UInt8):List UInt8→List ByteArray
  | []=>[⟨cur.toArray⟩]
  | b::t=>if b=c then⟨cur.toArray⟩::splitC c [] t else splitC c (cur++[b]) t
theorem splitC_pre (c:UInt8) (post:List UInt8):∀(pre cur:List UInt8),c∉pre→splitC c cur (pre++c::post)=⟨(cur++pre).toArray⟩::splitC c [] post
  | [],cur,_=>by simp[splitC]
  | b::pre,cur,h=>by
    have hb:b≠c:=fun e=>h (by simp[e])
    rw[List.cons_append,show splitC c cur (b::(pre++c::post))=if b=c then⟨cur.toArray⟩::splitC c [] (pre++c::post) else splitC c (cur++[b]) (pre++c::post) from rfl,if_neg hb,splitC_pre c post pre (cur++[b]) (fun hm=>h (by simp[hm]))]
    simp
theorem splitC_none (c:UInt8):∀(l cur:List UInt8),c∉l→splitC c cur l=[⟨(cur++l).toArray⟩]
  | [],cur,_=>by simp[splitC]
  | b::l,cur,h=>by
    have hb:b≠c:=fun e=>h (by simp[e])
    unfold splitC
    rw[if_neg hb,splitC_none c l (cur++[b]) (fun hm=>h (by simp[hm]))]
    simp
theorem splitC_len (c:UInt8):∀(l cur:List UInt8),(splitC c cur l).length≤l.length+1
  | [],cur=>by simp[splitC]
  | b::l,cur=>by
    unfold splitC
    split
    · simp only[List.length_cons];have:=splitC_len c l [];omega
    · have:=splitC_len c l (cur++[b]);simp only[List.length_cons];omega
theorem index_none:∀(l:List UInt8) (c:UInt8),Go.Lib.countByte l c=0→c∉l∧Go.Lib.indexByte l c = -1
  | [],c,_=>⟨by simp,rfl⟩
  | b::l,c,h=>by
    have hb:¬b=c:=by
      intro e
      subst e
      simp[Go.Lib.countByte] at h
    have h2:Go.Lib.countByte l c=0:=by
      simp only[Go.Lib.countByte,List.count_cons] at h ⊢
      omega
    obtain⟨i1,i2⟩:=index_none l c h2
    refine⟨?_,?_⟩
    · intro hm
      rcases List.mem_cons.mp hm with e|e
      · exact hb e.symm
      · exact i1 e
    · unfold Go.Lib.indexByte
      rw[if_neg (by simpa using hb),i2]
      simp
theorem index_some:∀(l:List UInt8) (c:UInt8),0<Go.Lib.countByte l c→∃pre post,l=pre++c::post∧c∉pre∧Go.Lib.indexByte l c=(pre.length:Int)∧Go.Lib.countByte l c=Go.Lib.countByte post c+1
  | [],c,h=>by simp[Go.Lib.countByte] at h
  | b::l,c,h=>by
    by_cases hb:b=c
    · subst hb
      refine⟨[],l,rfl,by simp,?_,?_⟩
      · unfold Go.Lib.indexByte;simp
      · simp[Go.Lib.countByte]
    · have h2:Go.Lib.countByte (b::l) c=Go.Lib.countByte l c:=by
        simp[Go.Lib.countByte,List.count_cons,hb]
      rw[h2] at h
      obtain⟨pre,post,e,hm,hi,hc⟩:=index_some l c h
      refine⟨b::pre,post,by rw[e];rfl,?_,?_,by rw[h2,hc]⟩
      · intro hm2
        rcases List.mem_cons.mp hm2 with e2|e2
        · exact hb e2.symm
        · exact hm e2
      · unfold Go.Lib.indexByte
        rw[if_neg (by simpa using hb),hi]
        have:((pre.length:Int) == -1)=false:=by
          simp<;>omega
        rw[this]
        simp
theorem count_le (l:List UInt8) (c:UInt8):Go.Lib.countByte l c≤l.length:=List.count_le_length
theorem trimS_nil (l cs:List UInt8):(Go.Lib.trimS l cs==[])=l.all (cs.contains ·):=by
  have dropNil:∀(q:UInt8→Bool) (x:List UInt8),x.dropWhile q=[]↔∀y∈x,q y=true:=by
    intro q x
    induction x with
    | nil=>simp
    | cons a x ih =>
      by_cases h:q a=true
      · rw[List.dropWhile_cons_of_pos h,ih]
        simp[h]
      · rw[List.dropWhile_cons_of_neg h]
        simp[h]
  rw[Bool.eq_iff_iff,beq_iff_eq,List.all_eq_true]
  unfold Go.Lib.trimS Go.Lib.trimLeftS Go.Lib.trimRightS
  constructor
  · intro h x hx
    rw[dropNil] at h
    by_cases hc:cs.contains x=true
    · exact hc
    · exfalso
      cases hr:l.reverse.dropWhile (cs.contains ·) with
      | nil =>
        rw[dropNil] at hr
        exact hc (hr x (by simpa using hx))
      | cons y r =>
        have hy:cs.contains y=true:=h y (by rw[hr];simp)
        have hn:∀(q:UInt8→Bool) (z:List UInt8) y r,z.dropWhile q=y::r→q y=false:=by
          intro q z
          induction z with
          | nil=>intro y r h;simp at h
          | cons a z ih =>
            intro y r h
            by_cases hq:q a=true
            · rw[List.dropWhile_cons_of_pos hq] at h
              exact ih y r h
            · rw[List.dropWhile_cons_of_neg hq] at h
              obtain⟨rfl,rfl⟩:=List.cons.inj h
              simpa using hq
        rw[hn _ _ y r hr] at hy
        cases hy
  · intro h
    rw[dropNil]
    intro y hy
    refine h y ?_
    rw[List.mem_reverse] at hy
    have:y∈l.reverse:=(List.dropWhile_sublist _).subset hy
    simpa using this
theorem all8 (f g:UInt8→Bool) (h:∀n:Fin 256,f (UInt8.ofNat n.1)=g (UInt8.ofNat n.1)) (b:UInt8):f b=g b:=by
  have:=h ⟨b.toNat,b.toNat_lt⟩
  simpa using this
end Go.Proofs.YtenpejebbeoceaaGreatDoor.PL
end
section
set_option linter.unusedVariables false
set_option linter.unusedSimpArgs false
namespace Go.Proofs.YtenpejebbeoceaaGreatDoor.PL
def isDg (b:UInt8):Bool:=decide (48≤b.toNat)&&decide (b.toNat≤57)
def dgv (b:UInt8):Nat:=b.toNat - 48
def valF (acc:Nat) (l:List UInt8):Nat:=l.foldl (fun n b=>10 * n+dgv b) acc
theorem valF_nil (acc:Nat):valF acc []=acc:=List.foldl_nil
theorem valF_cons0 (acc:Nat) (b:UInt8) (t:List UInt8):valF acc (b::t)=valF (10 * acc+dgv b) t:=by
  unfold valF
  rw[List.foldl_cons]
theorem cT_ (acc:Nat) (b:UInt8) (t:List UInt8):valF acc (b::t)=valF (10 * acc+(b.toNat - 48)) t:=by
  rw[valF_cons0,dgv]
def isNumeral (l:List UInt8):Bool := !l.isEmpty&&l.all isDg&&(decide (l.length=1) || !decide (l.head? = some 48))
theorem valF_append (l m:List UInt8):∀acc,valF acc (l++m)=valF (valF acc l) m:=by
  induction l with
  | nil=>intro acc;rw[List.nil_append,valF_nil]
  | cons b t ih =>
    intro acc
    rw[List.cons_append,cT_,cT_]
    exact ih (10 * acc+(b.toNat - 48))
theorem valF_lt (l:List UInt8) (h:l.all isDg=true):∀acc,valF acc l<(acc+1) * 10 ^ l.length:=by
  induction l with
  | nil=>intro acc;simp[cT_,valF_nil]
  | cons b t ih =>
    intro acc
    simp only[List.all_cons,Bool.and_eq_true,isDg,decide_eq_true_eq] at h
    have:=ih h.2 (10 * acc+(b.toNat - 48))
    simp only[cT_,List.length_cons,Nat.pow_succ]
    refine Nat.lt_of_lt_of_le this ?_
    have h1:10 * acc+(b.toNat - 48)+1≤(acc+1) * 10:=by omega
    have h2:=Nat.mul_le_mul_right (10 ^ t.length) h1
    have e:(acc+1) * (10 ^ t.length * 10)=(acc+1) * 10 * 10 ^ t.length:=by simp only[Nat.mul_assoc,Nat.mul_comm,Nat.mul_left_comm]
    rw[e]
    exact h2
theorem valF_ge (l:List UInt8):∀acc,acc * 10 ^ l.length≤valF acc l:=by
  induction l with
  | nil=>intro acc;simp[cT_,valF_nil]
  | cons b t ih =>
    intro acc
    have:=ih (10 * acc+(b.toNat - 48))
    simp only[cT_,List.length_cons,Nat.pow_succ]
    refine Nat.le_trans ?_ this
    have h1:acc * 10≤10 * acc+(b.toNat - 48):=by omega
    have h2:=Nat.mul_le_mul_right (10 ^ t.length) h1
    have e:acc * (10 ^ t.length * 10)=acc * 10 * 10 ^ t.length:=by simp only[Nat.mul_assoc,Nat.mul_comm,Nat.mul_left_comm]
    rw[e]
    exact h2
theorem numeral_great (l:List UInt8) (h:isNumeral l=true) (hl:2≤l.length):10 ^ (l.length - 1)≤valF 0 l:=by
  cases l with
  | nil=>simp at hl
  | cons b t =>
    unfold isNumeral at h
    simp only[List.isEmpty_cons,Bool.not_false,Bool.true_and,List.all_cons,Bool.and_eq_true,Bool.or_eq_true,decide_eq_true_eq,List.length_cons,List.head?_cons,Option.some.injEq,Bool.not_eq_true',decide_eq_false_iff_not,isDg] at h
    simp only[List.length_cons] at hl ⊢
    have h1:b≠48:=by
      rcases h.2 with h2|h2
      · omega
      · exact h2
    have h2:b.toNat≠48:=fun e=>h1 (by apply UInt8.toNat_inj.mp;rw[e];rfl)
    have:=valF_ge t (10 * 0+(b.toNat - 48))
    simp only[cT_,valF_nil]
    refine Nat.le_trans ?_ this
    have h3:1≤10 * 0+(b.toNat - 48):=by omega
    have:=Nat.mul_le_mul_right (10 ^ t.length) h3
    simpa using this
theorem dg_ofNat (b:UInt8) (h:isDg b=true):UInt8.ofNat (48+(b.toNat - 48))=b:=by
  simp only[isDg,Bool.and_eq_true,decide_eq_true_eq] at h
  apply UInt8.toNat_inj.mp
  rw[show 48+(b.toNat - 48)=b.toNat by omega]
  simp
theorem dg_of (d:Nat) (h:d<10):isDg (UInt8.ofNat (48+d))=true∧(UInt8.ofNat (48+d)).toNat=48+d:=by
  have:(UInt8.ofNat (48+d)).toNat=48+d:=by
    rw[UInt8.toNat_ofNat']
    omega
  refine⟨?_,this⟩
  unfold isDg
  rw[this]
  simp
  omega
theorem dec_spells (u:Nat):isNumeral (Go.Lib.decDigits u)=true∧valF 0 (Go.Lib.decDigits u)=u:=by
  induction u using Nat.strongRecOn with
  | _ u ih =>
    by_cases h:u<10
    · rw[Go.Lib.decDigits_one h]
      obtain⟨h1,h2⟩:=dg_of u h
      refine⟨?_,?_⟩
      · unfold isNumeral
        simp only[List.all_cons,h1,List.all_nil,List.isEmpty_cons,List.length_cons,List.length_nil]
        rfl
      simp only[cT_,valF_nil,h2]
      omega
    · rw[Go.Lib.decDigits,dif_neg h]
      obtain⟨h1,h2⟩:=ih (u / 10) (by omega)
      obtain⟨h3,h4⟩:=dg_of (u % 10) (by omega)
      refine⟨?_,?_⟩
      · have hz:10≤u:=by omega
        have hp:1≤u / 10:=by omega
        generalize hL:Go.Lib.decDigits (u / 10)=L at h1 h2
        unfold isNumeral at h1 ⊢
        cases L with
        | nil=>simp at h1
        | cons b t =>
          simp only[List.isEmpty_cons,Bool.not_false,Bool.true_and,Bool.and_eq_true,Bool.or_eq_true,decide_eq_true_eq,List.head?_cons,Option.some.injEq,Bool.not_eq_true',decide_eq_false_iff_not] at h1
          have hb:b≠48:=by
            rcases h1.2 with h5|h5
            · intro e
              subst e
              have ht:t=[]:=by
                simp only[List.length_cons] at h5
                exact List.eq_nil_of_length_eq_zero (by omega)
              subst ht
              have h48:(48:UInt8).toNat=48:=rfl
              simp only[cT_,valF_nil,h48] at h2
              omega
            · exact h5
          simp only[List.cons_append,List.isEmpty_cons,Bool.not_false,Bool.true_and,List.all_cons,List.all_append,List.all_nil,Bool.and_true,Bool.and_eq_true,Bool.or_eq_true,decide_eq_true_eq,List.head?_cons,Option.some.injEq,Bool.not_eq_true',decide_eq_false_iff_not]
          have:=h1.1
          simp only[List.all_cons,Bool.and_eq_true] at this
          exact⟨⟨this.1,this.2,h3⟩,Or.inr hb⟩
      · rw[valF_append,h2]
        simp only[cT_,valF_nil,h4]
        omega
theorem dec_valF (l:List UInt8) (h:isNumeral l=true):Go.Lib.decDigits (valF 0 l)=l:=by
  have main:∀(n:Nat) (l:List UInt8),l.length=n→isNumeral l=true→Go.Lib.decDigits (valF 0 l)=l:=by
    intro n
    induction n with
    | zero=>intro l hl h;have:=List.eq_nil_of_length_eq_zero hl;subst this;simp[isNumeral] at h
    | succ n ih =>
      intro l hl h
      obtain⟨m,b,rfl⟩:∃m b,l=m++[b]:=⟨l.dropLast,l.getLast (by intro e;subst e;simp at hl),(List.dropLast_concat_getLast _).symm⟩
      have hm:m.length=n:=by simpa using hl
      have hb:isDg b=true:=by
        simp only[isNumeral,List.all_append,List.all_cons,Bool.and_eq_true] at h
        exact h.1.2.2.1
      have hb':=hb
      simp only[isDg,Bool.and_eq_true,decide_eq_true_eq] at hb'
      cases m with
      | nil =>
        have e:valF 0 ([]++[b])=b.toNat - 48:=by simp[cT_,valF_nil]
        rw[e,Go.Lib.decDigits_one (by omega),dg_ofNat b hb]
        rfl
      | cons c t =>
        have hnum:isNumeral (c::t)=true:=by
          simp only[isNumeral,List.cons_append,List.isEmpty_cons,Bool.not_false,Bool.true_and,List.all_cons,List.all_append,Bool.and_eq_true,Bool.or_eq_true,decide_eq_true_eq,List.length_cons,List.length_append,List.length_nil,List.head?_cons,Option.some.injEq,Bool.not_eq_true',decide_eq_false_iff_not] at h ⊢
          refine⟨⟨h.1.1,h.1.2.1⟩,?_⟩
          rcases h.2 with h2|h2
          · omega
          · exact Or.inr h2
        have hge:1≤valF 0 (c::t):=by
          by_cases ht:t=[]
          · subst ht
            simp only[isNumeral,List.cons_append,List.nil_append,List.isEmpty_cons,Bool.not_false,Bool.true_and,List.all_cons,List.all_nil,Bool.and_eq_true,Bool.or_eq_true,decide_eq_true_eq,List.length_cons,List.length_nil,List.head?_cons,Option.some.injEq,Bool.not_eq_true',decide_eq_false_iff_not,isDg] at h
            have hc:c≠48:=by
              rcases h.2 with h2|h2
              · omega
              · exact h2
            have hc2:c.toNat≠48:=fun e=>hc (by apply UInt8.toNat_inj.mp;rw[e];rfl)
            simp only[cT_,valF_nil]
            omega
          · have hl2:2≤(c::t).length:=by
              have:1≤t.length:=by
                rcases Nat.eq_zero_or_pos t.length with h0|h0
                · exact absurd (List.eq_nil_of_length_eq_zero h0) ht
                · exact h0
              simp only[List.length_cons]
              omega
            have:=numeral_great _ hnum hl2
            have:=Nat.one_le_pow ((c::t).length - 1) 10 (by decide)
            omega
        have e:valF 0 ((c::t)++[b])=10 * valF 0 (c::t)+(b.toNat - 48):=by rw[valF_append,cT_,valF_nil]
        rw[e,Go.Lib.decDigits,dif_neg (by omega)]
        rw[show(10 * valF 0 (c::t)+(b.toNat - 48)) / 10=valF 0 (c::t) by omega,show(10 * valF 0 (c::t)+(b.toNat - 48)) % 10=b.toNat - 48 by omega,ih (c::t) hm hnum,dg_ofNat b hb]
  exact main _ l rfl h
theorem parse_digits (l:List UInt8) (h:l.all isDg=true):∀acc,valF acc l<18446744073709551616→Go.Lib.parseUint10 acc l=.ok (valF acc l):=by
  induction l with
  | nil=>intro acc _;rw[valF_nil];rfl
  | cons b t ih =>
    intro acc hv
    simp only[List.all_cons,Bool.and_eq_true,isDg,decide_eq_true_eq] at h
    have hge:=valF_ge t (10 * acc+(b.toNat - 48))
    simp only[cT_,valF_nil] at hv ⊢
    have h1:10 * acc+(b.toNat - 48)≤(10 * acc+(b.toNat - 48)) * 10 ^ t.length:=Nat.le_mul_of_pos_right _ (Nat.one_le_pow _ _ (by decide))
    have h2:10 * acc+(b.toNat - 48)<18446744073709551616:=by omega
    simp only[Go.Lib.parseUint10]
    rw[if_pos h.1,if_neg (by omega),if_neg (by omega),Nat.mul_comm acc 10]
    exact ih h.2 _ hv
def numOf (l:List UInt8):Int:=if isNumeral l=true∧l.length≤10 then(valF 0 l:Int) else -1
def numOk (l:List UInt8) (most:Int):Bool:=decide (0≤numOf l∧numOf l≤most)
theorem number_in (l:List UInt8) (most:Int) (hm:most≤9999999999) :
    match Go.Lib.atoiAll l with
    | .ok v=>(decide (0≤v∧v≤most)&&(Go.Lib.itoa v==l))=numOk l most∧(numOk l most=true→v=numOf l)
    | _=>numOk l most=false:=by
  by_cases hn:isNumeral l=true∧l.length≤10
  · obtain⟨h1,h2⟩:=hn
    have hd:l.all isDg=true:=by
      simp only[isNumeral,Bool.and_eq_true] at h1
      exact h1.1.2
    have hlt:=valF_lt l hd 0
    have hpow:10 ^ l.length≤10 ^ 10:=Nat.pow_le_pow_right (by decide) h2
    have hlt2:valF 0 l<10000000000:=by omega
    have hno:numOf l=(valF 0 l:Int):=by unfold numOf;rw[if_pos ⟨h1,h2⟩]
    have ha:Go.Lib.atoiAll l=.ok (valF 0 l:Int):=by
      cases l with
      | nil=>simp[isNumeral] at h1
      | cons c r =>
        have hc:=hd
        simp only[List.all_cons,Bool.and_eq_true,isDg,decide_eq_true_eq] at hc
        simp only[Go.Lib.atoiAll]
        rw[if_neg (by omega),show Go.Lib.parseMag (c::r)=Go.Lib.parseUint10 0 (c::r) from by simp[Go.Lib.parseMag],parse_digits _ hd 0 (by omega)]
        have h45:¬(c.toNat=45):=by omega
        simp only[h45,not_false_eq_true,true_and,false_and,if_false]
        rw[if_neg (by omega)]
    rw[ha]
    simp only
    have hi:Go.Lib.itoa (valF 0 l:Int)=l:=by
      unfold Go.Lib.itoa
      rw[if_neg (by omega)]
      simp only[Int.toNat_natCast]
      exact dec_valF l h1
    refine⟨?_,fun _=>hno.symm⟩
    rw[hi]
    unfold numOk
    rw[hno]
    simp
  · have hno:numOf l = -1:=by unfold numOf;rw[if_neg hn]
    have hf:numOk l most=false:=by
      unfold numOk
      rw[hno]
      simp
    cases ha:Go.Lib.atoiAll l with
    | ok v =>
      simp only
      rw[hf]
      refine⟨?_,fun h=>by cases h⟩
      by_cases hv:0≤v∧v≤most
      · have:¬(Go.Lib.itoa v=l):=by
          intro e
          apply hn
          have e2:Go.Lib.itoa v=Go.Lib.decDigits v.toNat:=by
            unfold Go.Lib.itoa
            rw[if_neg (by omega)]
          rw[e2] at e
          obtain⟨h3,h4⟩:=dec_spells v.toNat
          rw[e] at h3 h4
          refine⟨h3,?_⟩
          rcases Nat.lt_or_ge 10 l.length with h5|h5
          · have:=numeral_great l h3 (by omega)
            have h6:10 ^ 10≤10 ^ (l.length - 1):=Nat.pow_le_pow_right (by decide) (by omega)
            omega
          · exact h5
        simp[this]
      · simp[hv]
    | _=>exact hf
end Go.Proofs.YtenpejebbeoceaaGreatDoor.PL
end
section
set_option linter.unusedVariables false
set_option linter.unusedSimpArgs false
namespace Go.Proofs.YtenpejebbeoceaaGreatDoor.PL
open Go.RowKit Go.Proofs.YtenpejebbeoceaaGreatDoor.PB Go.Proofs.YtenpejebbeoceaaGreatDoorW.PrintWords Go.Proofs.YtenpejebbeoceaaGreatDoorW.PrintLast
def Szd (g:Nat→Option Int) (a:Int) (B:Prop):Prop:=∃r,Ev g r∧(r<0∨(0≤r∧r≤a∧B))
theorem Szd.end_ {a:Int} (h:0≤a):Szd (fun _=>some a) a True:=⟨a,Ev.const rfl,Or.inr ⟨h,Int.le_refl _,trivial⟩⟩
theorem Szd.size {g:Nat→Option Int} {a:Int} {B:Prop} (n:Nat) (hn:n≤9223372036854775807) (h0:0≤a) (h1:a≤1048576)
    (h:∀a',wrap64 (a - (n:Int))=a'→0≤a'→a'≤1048576→Szd g a' B):Szd (fun k=>if wrap64 (a - (n:Int))<0 then some (-1) else g k) a (n≤1048576∧B):=by
  have hw:wrap64 (a - (n:Int))=a - n:=w64 (by omega) (by omega)
  by_cases hc:wrap64 (a - (n:Int))<0
  · exact⟨-1,Ev.pos hc (Ev.const rfl),Or.inl (by omega)⟩
  · obtain⟨r,hr,h3⟩:=h _ rfl (by omega) (by omega)
    refine⟨r,Ev.neg hc hr,?_⟩
    rcases h3 with h3|⟨h3,h4,h5⟩
    · exact Or.inl h3
    · exact Or.inr ⟨h3,by omega,by omega,h5⟩
theorem Szd.bind {f:Nat→Option Int} {g:Nat→Int→Option Int} {a:Int} {B1 B2:Prop} (h1:Szd f a B1) (ha:a≤1048576)
    (h2:∀r,0≤r→r≤1048576→Szd (fun k=>g k r) r B2):Szd (fun k=>(f k).bind fun t=>if t<0 then some (-1) else g k t) a (B1∧B2):=by
  obtain⟨r,hr,h⟩:=h1
  rcases h with h|⟨h,h',hb⟩
  · exact⟨-1,Ev.bind' _ hr (Ev.pos h (Ev.const rfl)),Or.inl (by omega)⟩
  · obtain⟨q,hq,h3⟩:=h2 r h (by omega)
    refine⟨q,Ev.bind' _ hr (Ev.neg (by omega) hq),?_⟩
    rcases h3 with h3|⟨h3,h4,h5⟩
    · exact Or.inl h3
    · exact Or.inr ⟨h3,by omega,hb,h5⟩
theorem Szd.cbind {o:Option Int} {g:Nat→Int→Option Int} {a:Int} {B1 B2:Prop} (h1:Szd (fun _=>o) a B1) (ha:a≤1048576)
    (h2:∀r,0≤r→r≤1048576→Szd (fun k=>g k r) r B2):Szd (fun k=>o.bind fun t=>if t<0 then some (-1) else g k t) a (B1∧B2):=Szd.bind h1 ha h2
theorem Szd.mono {g:Nat→Option Int} {a:Int} {B C:Prop} (h:Szd g a B) (hc:B→C):Szd g a C:=by
  obtain⟨r,hr,h⟩:=h
  exact⟨r,hr,h.imp id fun⟨x,y,z⟩=>⟨x,y,hc z⟩⟩
theorem Szd.list {α:Type} (l:List α) (hl:l.length≤1048576) (F:Nat→Int→Int→Option Int) (B:α→Prop)
    (h0:∀a,0≤a→a≤1048576→Szd (fun k=>F k a (l.length:Int)) a True)
    (h1:∀p x t a,l=p++x::t→0≤a→a≤1048576→(∀a' C,0≤a'→a'≤1048576→Szd (fun k=>F k a' ((p.length:Int)+1)) a' C→Szd (fun k=>F k a' ((p.length:Int)+1)) a' C)→∀C,(∀a',0≤a'→a'≤1048576→Szd (fun k=>F k a' ((p.length:Int)+1)) a' C)→Szd (fun k=>F k a (p.length:Int)) a (B x∧C)) :
    ∀a,0≤a→a≤1048576→Szd (fun k=>F k a 0) a (∀x∈l,B x):=by
  have main:∀(t p:List α),l=p++t→∀a,0≤a→a≤1048576→Szd (fun k=>F k a (p.length:Int)) a (∀x∈t,B x):=by
    intro t
    induction t with
    | nil =>
      intro p e a ha hb
      have:p=l:=by rw[e];simp
      subst this
      exact(h0 a ha hb).mono (fun _ x hx=>by simp at hx)
    | cons x t ih =>
      intro p e a ha hb
      refine(h1 p x t a e ha hb (fun _ _ _ _ h=>h) (∀x∈t,B x) (fun a' ha' hb'=>?_)).mono (fun h y hy=>?_)
      · have:=ih (p++[x]) (by rw[e];simp) a' ha' hb'
        simpa using this
      · rcases List.mem_cons.mp hy with rfl|h2
        · exact h.1
        · exact h.2 y h2
  intro a ha hb
  simpa using main l [] rfl a ha hb
theorem to_list {α β:Type} (l:List α) (conv:α→β) (F:Nat→List β→Int→Option (List β))
    (h0:∀s,Ev (fun k=>F k s (l.length:Int)) s)
    (h1:∀p x t s r,l=p++x::t→p.length<s.length→Ev (fun k=>F k (s.set ((p.length:Int)).toNat (conv x)) ((p.length:Int)+1)) r→Ev (fun k=>F k s (p.length:Int)) r)
    (s:List β) (hs:s.length=l.length):Ev (fun k=>F k s 0) (l.map conv):=by
  refine a4_ l (fun k s i=>F k s i) (fun _ _=>l.map conv) (fun p s=>∃q,s=p.map conv++q∧s.length=l.length) ?_ ?_ s ⟨_,rfl,hs⟩
  · rintro s ⟨q,rfl,hq⟩
    have:q=[]:=List.eq_nil_of_length_eq_zero (by simpa using hq)
    refine Ev.eq_ (h0 _) (by simp[this])
  · rintro p x t s e ⟨q,rfl,hq⟩ ih
    have hm:=bc_ e
    cases q with
    | nil=>simp at hq;omega
    | cons y q =>
      refine h1 p x t _ _ e (by simp) ?_
      have e2:=set_mid (p.map conv) q (conv x) y
      rw[List.length_map] at e2
      rw[e2]
      exact ih _ ⟨q,by simp,by simpa using hq⟩
theorem eq_list {α:Type} (l:List α) (F:Nat→Int→Option Bool) (h0:Ev (fun k=>F k (l.length:Int)) true)
    (h1:∀p x t,l=p++x::t→Ev (fun k=>F k ((p.length:Int)+1)) true→Ev (fun k=>F k (p.length:Int)) true):Ev (fun k=>F k 0) true:=by
  refine a4_ l (fun k (_:Unit) i=>F k i) (fun _ _=>true) (fun _ _=>True) (fun _ _=>h0) ?_ () trivial
  intro p x t s e _ ih
  exact h1 p x t e (ih () trivial)
theorem mark_list {α:Type} (c:Int) (hc:0≤c) (F:Nat→List α→Int→Int→Option (Int × List α)) (H:Nat→List α→Int→Int→Option Int) (M:Int)
    (hF0:∀l a,Ev (fun k=>F k l a (l.length:Int)) (a,l)) (hH0:∀l a,Ev (fun k=>H k l a (l.length:Int)) a)
    (h1:∀p x t a,(p++x::t).length≤1048576→0≤a→a≤M→∃x' a',a≤a'∧a'≤a+c ∧
      (∀r,Ev (fun k=>F k (p++x'::t) a' ((p.length:Int)+1)) r→Ev (fun k=>F k (p++x::t) a (p.length:Int)) r) ∧
      (∀s r,(p++x'::s).length≤1048576→Ev (fun k=>H k (p++x'::s) a' ((p.length:Int)+1)) r→Ev (fun k=>H k (p++x'::s) a (p.length:Int)) r))
    (l:List α) (hl:l.length≤1048576) (a:Int) (ha:0≤a) (hM:a+c * l.length≤M) :
    ∃r l',Ev (fun k=>F k l a 0) (r,l')∧Ev (fun k=>H k l' a 0) r∧l'.length=l.length∧a≤r∧r≤a+c * l.length:=by
  have main:∀(t p:List α) (a:Int),(p++t).length≤1048576→0≤a→a+c * t.length≤M→∃r t',Ev (fun k=>F k (p++t) a (p.length:Int)) (r,p++t')∧Ev (fun k=>H k (p++t') a (p.length:Int)) r∧t'.length=t.length∧a≤r∧r≤a+c * t.length:=by
    intro t
    induction t with
    | nil =>
      intro p a hp ha hM
      refine⟨a,[],?_,?_,rfl,Int.le_refl _,by simp⟩
      · simpa using hF0 p a
      · simpa using hH0 p a
    | cons x t ih =>
      intro p a hp ha hM
      have e1:c * (((x::t).length:Nat):Int)=c * (t.length:Int)+c:=by
        simp only[List.length_cons]
        rw[show(((t.length+1:Nat)):Int)=(t.length:Int)+1 from by omega,Int.mul_add]
        omega
      have e0:0≤c * (t.length:Int):=Int.mul_nonneg hc (by omega)
      rw[e1] at hM ⊢
      obtain⟨x',a',b1,b2,b3,b4⟩:=h1 p x t a hp ha (by omega)
      obtain⟨r,t',c1,c2,c3,c4,c5⟩:=ih (p++[x']) a' (by simpa using hp) (by omega) (by omega)
      refine⟨r,x'::t',b3 _ (by simpa using c1),b4 _ _ (by simp at hp ⊢;omega) (by simpa using c2),by simp[c3],by omega,by omega⟩
  simpa using main l [] a (by simpa using hl) ha (by simpa using hM)
end Go.Proofs.YtenpejebbeoceaaGreatDoor.PL
end
section
set_option linter.unusedVariables false
set_option linter.unusedSimpArgs false
namespace Go.Proofs.YtenpejebbeoceaaGreatDoor.PR
open Go.RowKit Go.Proofs.YtenpejebbeoceaaGreatDoorW.PrintWords Go.Proofs.YtenpejebbeoceaaGreatDoorW.PrintLast
section
structure Opn (P:Program) (t:TypeId) {α:Type} (d:Kd α) (wf:α→Prop):Prop where
  sz:P.cellsOf t=d.sz
  out:∀{H:Type} {enc:TypeId × Value→H} {w:World} {base:Nat} {held:Bool} {fuel:Nat} {cs:List Value} {x:DataW H × List MemPlace},DataW.trod enc P w base (fun _=>true) held fuel t cs=some x→∃a:α,d.K w a cs∧wf a
section
variable {P:Program}
theorem Opn.int {t:TypeId} {k:IntKind} (hu:P.underlying t=some (.int k)) (hc:P.cellsOf t=1):Opn P t (Kd.int k) (fun n=>(Lit.int k n).wf=true):=by
  refine⟨hc,fun h=>?_⟩
  obtain⟨n,rfl,_,hw⟩:=DataW.trod_int hu h
  exact⟨n,rfl,hw⟩
theorem Opn.bool {t:TypeId} (hu:P.underlying t=some .bool) (hc:P.cellsOf t=1):Opn P t Kd.bool (fun _=>True):=by
  refine⟨hc,fun h=>?_⟩
  obtain⟨n,rfl,_⟩:=DataW.trod_bool hu h
  exact⟨n,rfl,trivial⟩
theorem Opn.string {t:TypeId} (hu:P.underlying t=some .string) (hc:P.cellsOf t=1):Opn P t Kd.string (fun s=>s.size≤maxLen):=by
  refine⟨hc,fun h=>?_⟩
  obtain⟨s,rfl,_,hs⟩:=DataW.trod_string hu h
  exact⟨s,rfl,hs⟩
theorem Opn.slice {t e:TypeId} {α:Type} {d:Kd α} {wf:α→Prop} (hu:P.underlying t=some (.slice e)) (hc:P.cellsOf t=1) (he:Opn P e d wf):Opn P t (Kd.slice e d) (fun xs=>xs.length≤maxLen∧∀x∈xs,wf x):=by
  refine⟨hc,fun {H enc w base held fuel cs x} h=>?_⟩
  rcases DataW.trod_slice hu h with ⟨rfl,_⟩|⟨a,len,cap,elems,rest,n,_,rfl,_,hb,hl,hm,hlen,hel,_,_⟩
  · refine⟨[],⟨none,0,rfl,Nat.le_refl _,?_⟩,Nat.zero_le _,fun x hx=>by cases hx⟩
    exact⟨rfl,by simp,fun hn=>absurd hn (by simp)⟩
  · have each:∀i:Fin len,∃z:α,wf z∧∃cs',w.cells? base (a.add (i.1 * P.cellsOf e)) (P.cellsOf e)=some cs'∧d.K w z cs':=by
      intro i
      have h1:=hel i.1 i.2
      rw[List.getElem?_eq_getElem (by omega),Option.bind_eq_some_iff] at h1
      obtain⟨cs',hcs,ht⟩:=h1
      obtain⟨z,hz,hw⟩:=he.out ht
      exact⟨z,hw,cs',hcs,hz⟩
    refine⟨List.ofFn fun i:Fin len=>Classical.choose (each i),⟨some a,cap,by simp,by simpa using hl,?_⟩,?_,?_⟩
    · refine⟨by simp,?_,?_⟩
      · have:maxLen=9223372036854775807:=rfl
        simp;omega
      · intro hn
        refine⟨a,rfl,fun j p hp=>?_⟩
        rw[List.getElem?_ofFn] at hp
        split at hp
        · rename_i hj'
          have hp:=Option.some.inj hp
          subst hp
          obtain⟨_,cs',hcs,hK⟩:=Classical.choose_spec (each ⟨j,hj'⟩)
          refine⟨cs',d.K_len hK,hK,?_⟩
          intro i v hv
          have h3:=(World.cells?_some hcs).2
          have hi:i<cs'.length:=(List.getElem?_eq_some_iff.1 hv).1
          rw[←hv,←h3.2 i (by omega),Addr.add_add,he.sz]
        · cases hp
    · simp;omega
    · intro z hz
      obtain⟨i,rfl⟩:=(List.mem_ofFn).1 hz
      exact(Classical.choose_spec (each i)).1
structure Sg (P:Program) (ts:List TypeId) {α:Type} (d:Kd α) (wf:α→Prop):Prop where
  sz:(ts.map P.cellsOf).sum=d.sz
  out:∀{H:Type} {enc:TypeId × Value→H} {w:World} {base:Nat} {held:Bool} {n:Nat} {cs:List Value},cs.length=(ts.map P.cellsOf).sum →
    (∀i t,ts[i]? = some t→∃y,DataW.trod enc P w base (fun _=>true) held n t ((cs.drop ((ts.take i).map P.cellsOf).sum).take (P.cellsOf t))=some y)→∃a:α,d.K w a cs∧wf a
theorem Sg.one {t:TypeId} {α:Type} {d:Kd α} {wf:α→Prop} (h:Opn P t d wf):Sg P [t] d wf:=by
  refine⟨by simp[h.sz],fun {H enc w base held n cs} hl hr=>?_⟩
  obtain⟨y,hy⟩:=hr 0 t rfl
  simp only[List.take_zero,List.map_nil,List.sum_nil,List.drop_zero,List.map_cons,Nat.add_zero,List.sum_cons] at hy hl
  rw[List.take_of_length_le (by omega)] at hy
  exact h.out hy
theorem Sg.cons {t:TypeId} {ts:List TypeId} {α β:Type} {d:Kd α} {d':Kd β} {wf:α→Prop} {wf':β→Prop} (h:Opn P t d wf) (h':Sg P ts d' wf'):Sg P (t::ts) (Kd.pair d d') (fun x=>wf x.1∧wf' x.2):=by
  refine⟨by simp[h.sz,h'.sz,Kd.pair],fun {H enc w base held n cs} hl hr=>?_⟩
  simp only[List.map_cons,List.sum_cons] at hl
  obtain⟨y,hy⟩:=hr 0 t rfl
  simp only[List.take_zero,List.map_nil,List.sum_nil,List.drop_zero] at hy
  obtain⟨a,ha,wa⟩:=h.out hy
  obtain⟨b,hb,wb⟩:=h'.out (enc:=enc) (w:=w) (base:=base) (held:=held) (n:=n) (cs:=cs.drop (P.cellsOf t)) (by simp;omega) (fun i u hu=>by
    obtain⟨z,hz⟩:=hr (i+1) u (by simpa using hu)
    refine⟨z,?_⟩
    rw[List.drop_drop]
    simpa using hz)
  exact⟨(a,b),⟨cs.take (P.cellsOf t),cs.drop (P.cellsOf t),(List.take_append_drop _ _).symm,ha,hb⟩,wa,wb⟩
def laidSeg (P:Program):Nat→List Field→Bool
  | _,[]=>true
  | o,f::fs=>f.offset==o&&laidSeg P (o+P.cellsOf f.type) fs
theorem laidSeg_at:∀(fs:List Field) (o i:Nat) (f:Field),laidSeg P o fs=true→fs[i]? = some f→f.offset=o+(((fs.map (·.type)).take i).map P.cellsOf).sum
  | [],_,_,_,_,h=>by simp at h
  | g::fs,o,0,f,hl,h=>by
    simp only[laidSeg,Bool.and_eq_true,beq_iff_eq] at hl
    obtain rfl:g=f:=by simpa using h
    simp[hl.1]
  | g::fs,o,i+1,f,hl,h=>by
    simp only[laidSeg,Bool.and_eq_true,beq_iff_eq] at hl
    have:=laidSeg_at fs _ i f hl.2 (by simpa using h)
    simp only[List.map_cons,List.take_succ_cons,List.sum_cons]
    omega
theorem Opn.struct {t:TypeId} {fs:Array Field} {ts:List TypeId} {α β:Type} {d:Kd α} {wf:α→Prop} {f:β→α} (g:α→β) (hu:P.underlying t=some (.struct fs)) (hts:fs.toList.map (·.type)=ts) (hl:laidSeg P 0 fs.toList=true)
    (hc:P.cellsOf t=(ts.map P.cellsOf).sum) (h:Sg P ts d wf) (hg:∀a,f (g a)=a):Opn P t (Kd.iso d f) (fun x=>wf (f x)):=by
  refine⟨by rw[hc,h.sz];rfl,fun {H enc w base held fuel cs x} hx=>?_⟩
  obtain⟨xs,n,_,_,hcl,hxl,hr⟩:=DataW.trod_struct hu hx
  obtain⟨a,ha,wa⟩:=h.out (enc:=enc) (w:=w) (base:=base) (held:=held) (n:=n) (cs:=cs) (by rw[hcl,hc]) (fun i u hu'=>by
    rw[←hts,List.getElem?_map] at hu'
    cases hf:fs.toList[i]? with
    | none=>rw[hf] at hu';cases hu'
    | some fl =>
      rw[hf] at hu'
      obtain rfl:=Option.some.inj hu'
      have hfa:fs[i]? = some fl:=by simpa using hf
      have:=hr i fl hfa
      have hi:i<xs.length:=by
        have:=(Array.getElem?_eq_some_iff.1 hfa).1
        omega
      rw[List.getElem?_eq_getElem hi] at this
      refine⟨xs[i],?_⟩
      rw[←this,←hts,laidSeg_at fs.toList 0 i fl hl hf]
      simp)
  exact⟨g a,(by show d.K w (f (g a)) cs;rw[hg];exact ha),(by rw[hg];exact wa)⟩
theorem Opn.value {t:TypeId} {fs:Array Field} {α:Type} {d:Kd α} {wf:α→Prop} (h:Opn P t d wf) (hu:P.underlying t=some (.struct fs)) {H:Type} {enc:TypeId × Value→H} {w W:World} {r:Reach} {b0 base:Nat} {held:Bool} {v:Value} {x:DataW H} {ps:List MemPlace}
    (hv:Value.okWide P W r b0 t v) (hr:DataW.Trod enc P w base (fun _=>true) held t v x ps):∃(cs:Array Value) (a:α),v=.agg cs∧d.K w a (Value.agg cs).cells.toList∧wf a:=by
  obtain⟨cs,rfl,_⟩:=Go.WideShapes.okWide_struct hu hv
  obtain⟨fuel,hf⟩:=hr
  obtain⟨a,ha,wa⟩:=h.out hf
  exact⟨cs,a,rfl,ha,wa⟩
theorem Opn.slice_value {t e:TypeId} {α:Type} {d:Kd α} {wf:List α→Prop} (h:Opn P t (Kd.slice e d) wf) (hu:P.underlying t=some (.slice e)) {H:Type} {enc:TypeId × Value→H} {w W:World} {r:Reach} {b0 base:Nat} {held:Bool} {v:Value} {x:DataW H} {ps:List MemPlace}
    (hv:Value.okWide P W r b0 t v) (hr:DataW.Trod enc P w base (fun _=>true) held t v x ps):∃(A:Option Addr) (c:Nat) (xs:List α),v=.slice A xs.length c∧xs.length≤c∧d.C w A xs.length xs∧wf xs:=by
  obtain⟨a,n,c,rfl⟩:=Go.WideShapes.okWide_slice hu hv
  obtain⟨fuel,hf⟩:=hr
  obtain⟨xs,⟨A,c',hc,hl,hC⟩,wa⟩:=h.out hf
  simp[Value.cells] at hc
  obtain⟨rfl,rfl,rfl⟩:=hc
  exact⟨_,_,xs,rfl,hl,hC,wa⟩
end
end
end Go.Proofs.YtenpejebbeoceaaGreatDoor.PR
end
