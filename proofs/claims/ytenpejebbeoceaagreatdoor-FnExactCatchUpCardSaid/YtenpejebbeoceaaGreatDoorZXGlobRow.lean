/- What a row lists gives what the words on numbers ask. -/
import Derived.Test.YtenpejebbeoceaaGreatDoorKFnExactCatchUpW
import Derived.Test.YtenpejebbeoceaaGreatDoorRows
import Derived.Lib.LaidTab
set_option linter.unusedVariables false
namespace Go.Proofs.YtenpejebbeoceaaGreatDoorW.PrintLast
open Go Go.RowKit
theorem laid_mem {P:Program} {w:World}:∀(l:List (String × DataW Unit)) (ps:List MemPlace),DataW.LaidVars P w l ps→∀n d,(n,d)∈l →
    ∃g t cs fuel p,P.globalNamed n=some g∧(P.globals[g]?).map (·.type)=some t∧w.var? P n=some cs∧DataW.trod (fun _=>()) P w 0 (fun _=>true) false fuel t cs.toList=some (d,p)
  | [],_,_,_,_,hm=>by cases hm
  | (n0,d0)::r,ps,h,n,d,hm=>by
    obtain⟨g,t,cs,fuel,p,q,h1,h2,h3,h4,h5,_⟩:=h
    rcases List.mem_cons.mp hm with e|hm
    · obtain⟨rfl,rfl⟩:=Prod.mk.inj e
      exact⟨g,t,cs,fuel,p,h1,h2,h3,h4⟩
    · exact laid_mem r q h5 n d hm
theorem iface_cells {H:Type} {enc:TypeId × Value→H} {P:Program} {w:World} {base fuel:Nat} {sp:Nat→Bool} {t:TypeId} {ms:Array (String × TypeId)} {cs:List Value} {name:String} {d:DataW H} {p:List MemPlace}
    (ht:P.underlying t=some (.interface ms)) (h:DataW.trod enc P w base sp false fuel t cs=some (.iface name d,p)):∃u v,cs=[.iface u v]:=by
  cases fuel with
  | zero=>simp[DataW.trod] at h
  | succ fuel =>
    unfold DataW.trod at h
    rw[ht] at h
    match cs,h with
    | [.iface u v],_=>exact⟨u,v,rfl⟩
    | [.nilIface],h=>simp at h
    | [],h=>simp at h
theorem Glob.of_laid {W:World} (h:laidMetH Go.Proofs.Tryz.prog Go.Proofs.YtenpejebbeoceaaGreatDoor.Rows.fnExactCatchUpRow.laid W):Glob W:=by
  rw[MakeChecks.laidMetH_plain _ _ _ (by kernel_rfl)] at h
  obtain⟨ps,hl,_⟩:=h
  refine⟨?_,?_,?_⟩
  · obtain⟨g,t,cs,fuel,p,h1,h2,h3,h4⟩:=laid_mem _ _ hl "internal/strconv.uint64pow10" _ (by simp only[Go.Proofs.YtenpejebbeoceaaGreatDoor.Rows.fnExactCatchUpRow,List.mem_cons];exact Or.inr (Or.inr (Or.inl rfl)))
    have hg:((Go.Proofs.Tryz.prog.globalNamed "internal/strconv.uint64pow10").bind fun g=>(Go.Proofs.Tryz.prog.globals[g]?).map (·.type))=some 150:=by kernel_rfl
    rw[h1,Option.bind_some,h2] at hg
    obtain rfl:=Option.some.inj hg
    have:=Go.Lib.cells_of_tab Go.Proofs.Tryz.underlying150 Go.Proofs.Tryz.underlying134 (by kernel_rfl) (by kernel_rfl) (zs:=Go.Lib.pow10Tab) (k:=.u64) h4
    unfold Go.Lib.TabIs
    rw[h3,←this]
  · obtain⟨g,t,cs,fuel,p,h1,h2,h3,h4⟩:=laid_mem _ _ hl "strconv.ErrSyntax" _ (by simp only[Go.Proofs.YtenpejebbeoceaaGreatDoor.Rows.fnExactCatchUpRow,List.mem_cons];exact Or.inr (Or.inr (Or.inr (Or.inr (Or.inr (Or.inl rfl))))))
    have hg:((Go.Proofs.Tryz.prog.globalNamed "strconv.ErrSyntax").bind fun g=>(Go.Proofs.Tryz.prog.globals[g]?).map (·.type))=some 160:=by kernel_rfl
    rw[h1,Option.bind_some,h2] at hg
    obtain rfl:=Option.some.inj hg
    obtain⟨u,v,e⟩:=iface_cells Go.Proofs.Tryz.underlying160 h4
    refine⟨u,v,?_⟩
    rw[h3,Array.eq_one_of_toList e]
  · obtain⟨g,t,cs,fuel,p,h1,h2,h3,h4⟩:=laid_mem _ _ hl "strconv.ErrRange" _ (by simp only[Go.Proofs.YtenpejebbeoceaaGreatDoor.Rows.fnExactCatchUpRow,List.mem_cons];exact Or.inr (Or.inr (Or.inr (Or.inr (Or.inl rfl)))))
    have hg:((Go.Proofs.Tryz.prog.globalNamed "strconv.ErrRange").bind fun g=>(Go.Proofs.Tryz.prog.globals[g]?).map (·.type))=some 160:=by kernel_rfl
    rw[h1,Option.bind_some,h2] at hg
    obtain rfl:=Option.some.inj hg
    obtain⟨u,v,e⟩:=iface_cells Go.Proofs.Tryz.underlying160 h4
    refine⟨u,v,?_⟩
    rw[h3,Array.eq_one_of_toList e]
end Go.Proofs.YtenpejebbeoceaaGreatDoorW.PrintLast
