/- Words of this workplace for the rows of laws over structs and slices of them: what a row's data reads as,opened into the print's own kinds. -/
import Derived.Test.YthohohfmdieohaaGreatDoorVXWords
import Derived.ChangeArms
import Derived.ChangeSlices
import Derived.Lib.SmallJoins
import Derived.WideShapes
set_option linter.unusedVariables false
set_option linter.unusedSimpArgs false
namespace Go.Proofs.YthohohfmdieohaaGreatDoor.PR
open Go.RowKit Go.Proofs.YthohohfmdieohaaGreatDoorW.PrintWords Go.Proofs.YthohohfmdieohaaGreatDoorW.PrintLast
structure Opn (P:Program) (t:TypeId) {α:Type} (d:Kd α) (wf:α→Prop):Prop where
  sz:P.cellsOf t=d.sz
  out:∀{H:Type} {enc:TypeId × Value→H} {w:World} {base:Nat} {held:Bool} {fuel:Nat} {cs:List Value} {x:DataW H × List MemPlace},DataW.trod enc P w base (fun _=>true) held fuel t cs=some x→∃a:α,d.K w a cs∧wf a
section
variable {P:Program}
theorem Opn.int {t:TypeId} {k:IntKind} (hu:P.underlying t=some (.int k)) (hc:P.cellsOf t=1):Opn P t (Kd.int k) (fun n=>(Lit.int k n).wf=true):=by
  refine⟨hc,fun h=>?_⟩
  obtain⟨n,rfl,_,hw⟩:=DataW.trod_int hu h
  exact⟨n,rfl,hw⟩
theorem Opn.bool {t:TypeId} (hu:P.underlying t=some .bool) (hc:P.cellsOf t=1):Opn P t Kd.bool (fun _=>True):=by
  refine⟨hc,fun h=>?_⟩
  obtain⟨n,rfl,_⟩:=DataW.trod_bool hu h
  exact⟨n,rfl,trivial⟩
theorem Opn.string {t:TypeId} (hu:P.underlying t=some .string) (hc:P.cellsOf t=1):Opn P t Kd.string (fun s=>s.size≤maxLen):=by
  refine⟨hc,fun h=>?_⟩
  obtain⟨s,rfl,_,hs⟩:=DataW.trod_string hu h
  exact⟨s,rfl,hs⟩
theorem Opn.slice {t e:TypeId} {α:Type} {d:Kd α} {wf:α→Prop} (hu:P.underlying t=some (.slice e)) (hc:P.cellsOf t=1) (he:Opn P e d wf):Opn P t (Kd.slice e d) (fun xs=>xs.length≤maxLen∧∀x∈xs,wf x):=by
  refine⟨hc,fun {H enc w base held fuel cs x} h=>?_⟩
  rcases DataW.trod_slice hu h with ⟨rfl,_⟩|⟨a,len,cap,elems,rest,n,_,rfl,_,hb,hl,hm,hlen,hel,_,_⟩
  · refine⟨[],⟨none,0,rfl,Nat.le_refl _,?_⟩,Nat.zero_le _,fun x hx=>by cases hx⟩
    exact⟨rfl,by simp,fun hn=>absurd hn (by simp)⟩
  · have each:∀i:Fin len,∃z:α,wf z∧∃cs',w.cells? base (a.add (i.1 * P.cellsOf e)) (P.cellsOf e)=some cs'∧d.K w z cs':=by
      intro i
      have h1:=hel i.1 i.2
      rw[List.getElem?_eq_getElem (by omega),Option.bind_eq_some_iff] at h1
      obtain⟨cs',hcs,ht⟩:=h1
      obtain⟨z,hz,hw⟩:=he.out ht
      exact⟨z,hw,cs',hcs,hz⟩
    refine⟨List.ofFn fun i:Fin len=>Classical.choose (each i),⟨some a,cap,by simp,by simpa using hl,?_⟩,?_,?_⟩
    · refine⟨by simp,?_,?_⟩
      · have:maxLen=9223372036854775807:=rfl
        simp;omega
      · intro hn
        refine⟨a,rfl,fun j p hp=>?_⟩
        rw[List.getElem?_ofFn] at hp
        split at hp
        · rename_i hj'
          have hp:=Option.some.inj hp
          subst hp
          obtain⟨_,cs',hcs,hK⟩:=Classical.choose_spec (each ⟨j,hj'⟩)
          refine⟨cs',d.K_len hK,hK,?_⟩
          intro i v hv
          have h3:=(World.cells?_some hcs).2
          have hi:i<cs'.length:=(List.getElem?_eq_some_iff.1 hv).1
          rw[←hv,←h3.2 i (by omega),Addr.add_add,he.sz]
        · cases hp
    · simp;omega
    · intro z hz
      obtain⟨i,rfl⟩:=(List.mem_ofFn).1 hz
      exact(Classical.choose_spec (each i)).1
structure Sg (P:Program) (ts:List TypeId) {α:Type} (d:Kd α) (wf:α→Prop):Prop where
  sz:(ts.map P.cellsOf).sum=d.sz
  out:∀{H:Type} {enc:TypeId × Value→H} {w:World} {base:Nat} {held:Bool} {n:Nat} {cs:List Value},cs.length=(ts.map P.cellsOf).sum →
    (∀i t,ts[i]? = some t→∃y,DataW.trod enc P w base (fun _=>true) held n t ((cs.drop ((ts.take i).map P.cellsOf).sum).take (P.cellsOf t))=some y)→∃a:α,d.K w a cs∧wf a
theorem Sg.one {t:TypeId} {α:Type} {d:Kd α} {wf:α→Prop} (h:Opn P t d wf):Sg P [t] d wf:=by
  refine⟨by simp[h.sz],fun {H enc w base held n cs} hl hr=>?_⟩
  obtain⟨y,hy⟩:=hr 0 t rfl
  simp only[List.take_zero,List.map_nil,List.sum_nil,List.drop_zero,List.map_cons,Nat.add_zero,List.sum_cons] at hy hl
  rw[List.take_of_length_le (by omega)] at hy
  exact h.out hy
theorem Sg.cons {t:TypeId} {ts:List TypeId} {α β:Type} {d:Kd α} {d':Kd β} {wf:α→Prop} {wf':β→Prop} (h:Opn P t d wf) (h':Sg P ts d' wf'):Sg P (t::ts) (Kd.pair d d') (fun x=>wf x.1∧wf' x.2):=by
  refine⟨by simp[h.sz,h'.sz,Kd.pair],fun {H enc w base held n cs} hl hr=>?_⟩
  simp only[List.map_cons,List.sum_cons] at hl
  obtain⟨y,hy⟩:=hr 0 t rfl
  simp only[List.take_zero,List.map_nil,List.sum_nil,List.drop_zero] at hy
  obtain⟨a,ha,wa⟩:=h.out hy
  obtain⟨b,hb,wb⟩:=h'.out (enc:=enc) (w:=w) (base:=base) (held:=held) (n:=n) (cs:=cs.drop (P.cellsOf t)) (by simp;omega) (fun i u hu=>by
    obtain⟨z,hz⟩:=hr (i+1) u (by simpa using hu)
    refine⟨z,?_⟩
    rw[List.drop_drop]
    simpa using hz)
  exact⟨(a,b),⟨cs.take (P.cellsOf t),cs.drop (P.cellsOf t),(List.take_append_drop _ _).symm,ha,hb⟩,wa,wb⟩
def laidSeg (P:Program):Nat→List Field→Bool
  | _,[]=>true
  | o,f::fs=>f.offset==o&&laidSeg P (o+P.cellsOf f.type) fs
theorem laidSeg_at:∀(fs:List Field) (o i:Nat) (f:Field),laidSeg P o fs=true→fs[i]? = some f→f.offset=o+(((fs.map (·.type)).take i).map P.cellsOf).sum
  | [],_,_,_,_,h=>by simp at h
  | g::fs,o,0,f,hl,h=>by
    simp only[laidSeg,Bool.and_eq_true,beq_iff_eq] at hl
    obtain rfl:g=f:=by simpa using h
    simp[hl.1]
  | g::fs,o,i+1,f,hl,h=>by
    simp only[laidSeg,Bool.and_eq_true,beq_iff_eq] at hl
    have:=laidSeg_at fs _ i f hl.2 (by simpa using h)
    simp only[List.map_cons,List.take_succ_cons,List.sum_cons]
    omega
theorem Opn.struct {t:TypeId} {fs:Array Field} {ts:List TypeId} {α β:Type} {d:Kd α} {wf:α→Prop} {f:β→α} (g:α→β) (hu:P.underlying t=some (.struct fs)) (hts:fs.toList.map (·.type)=ts) (hl:laidSeg P 0 fs.toList=true)
    (hc:P.cellsOf t=(ts.map P.cellsOf).sum) (h:Sg P ts d wf) (hg:∀a,f (g a)=a):Opn P t (Kd.iso d f) (fun x=>wf (f x)):=by
  refine⟨by rw[hc,h.sz];rfl,fun {H enc w base held fuel cs x} hx=>?_⟩
  obtain⟨xs,n,_,_,hcl,hxl,hr⟩:=DataW.trod_struct hu hx
  obtain⟨a,ha,wa⟩:=h.out (enc:=enc) (w:=w) (base:=base) (held:=held) (n:=n) (cs:=cs) (by rw[hcl,hc]) (fun i u hu'=>by
    rw[←hts,List.getElem?_map] at hu'
    cases hf:fs.toList[i]? with
    | none=>rw[hf] at hu';cases hu'
    | some fl =>
      rw[hf] at hu'
      obtain rfl:=Option.some.inj hu'
      have hfa:fs[i]? = some fl:=by simpa using hf
      have:=hr i fl hfa
      have hi:i<xs.length:=by
        have:=(Array.getElem?_eq_some_iff.1 hfa).1
        omega
      rw[List.getElem?_eq_getElem hi] at this
      refine⟨xs[i],?_⟩
      rw[←this,←hts,laidSeg_at fs.toList 0 i fl hl hf]
      simp)
  exact⟨g a,(by show d.K w (f (g a)) cs;rw[hg];exact ha),(by rw[hg];exact wa)⟩
theorem Opn.value {t:TypeId} {fs:Array Field} {α:Type} {d:Kd α} {wf:α→Prop} (h:Opn P t d wf) (hu:P.underlying t=some (.struct fs)) {H:Type} {enc:TypeId × Value→H} {w W:World} {r:Reach} {b0 base:Nat} {held:Bool} {v:Value} {x:DataW H} {ps:List MemPlace}
    (hv:Value.okWide P W r b0 t v) (hr:DataW.Trod enc P w base (fun _=>true) held t v x ps):∃(cs:Array Value) (a:α),v=.agg cs∧d.K w a (Value.agg cs).cells.toList∧wf a:=by
  obtain⟨cs,rfl,_⟩:=Go.WideShapes.okWide_struct hu hv
  obtain⟨fuel,hf⟩:=hr
  obtain⟨a,ha,wa⟩:=h.out hf
  exact⟨cs,a,rfl,ha,wa⟩
theorem Opn.slice_value {t e:TypeId} {α:Type} {d:Kd α} {wf:List α→Prop} (h:Opn P t (Kd.slice e d) wf) (hu:P.underlying t=some (.slice e)) {H:Type} {enc:TypeId × Value→H} {w W:World} {r:Reach} {b0 base:Nat} {held:Bool} {v:Value} {x:DataW H} {ps:List MemPlace}
    (hv:Value.okWide P W r b0 t v) (hr:DataW.Trod enc P w base (fun _=>true) held t v x ps):∃(A:Option Addr) (c:Nat) (xs:List α),v=.slice A xs.length c∧xs.length≤c∧d.C w A xs.length xs∧wf xs:=by
  obtain⟨a,n,c,rfl⟩:=Go.WideShapes.okWide_slice hu hv
  obtain⟨fuel,hf⟩:=hr
  obtain⟨xs,⟨A,c',hc,hl,hC⟩,wa⟩:=h.out hf
  simp[Value.cells] at hc
  obtain⟨rfl,rfl,rfl⟩:=hc
  exact⟨_,_,xs,rfl,hl,hC,wa⟩
end
end Go.Proofs.YthohohfmdieohaaGreatDoor.PR
