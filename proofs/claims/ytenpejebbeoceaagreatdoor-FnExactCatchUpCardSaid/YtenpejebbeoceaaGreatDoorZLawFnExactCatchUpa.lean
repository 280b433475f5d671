
import Derived.Test.YtenpejebbeoceaaGreatDoorRows
import Derived.Test.YtenpejebbeoceaaGreatDoorJFnExactCatchUp0
import Derived.Test.YtenpejebbeoceaaGreatDoorJFnExactCatchUp1
import Derived.Test.YtenpejebbeoceaaGreatDoorJFnExactCatchUp2
import Derived.Test.YtenpejebbeoceaaGreatDoorJFnExactCatchUp3
import Derived.Test.YtenpejebbeoceaaGreatDoorKFnExactCatchUpPR
import Derived.Test.YtenpejebbeoceaaGreatDoorKFnExactCatchUpW
import Derived.Test.YtenpejebbeoceaaGreatDoorTie
import Derived.Test.YtenpejebbeoceaaGreatDoorCards
import Derived.Test.YtenpejebbeoceaaGreatDoorZXGlobRow
import Derived.WalkKit
import Derived.ProofKit
import Derived.OpenShut
import Derived.ShutString
import Derived.ChangeOld
import Derived.Below
import Derived.SizedLaws
import Derived.Carry
import Derived.LaidMore
import Derived.Lay
import Derived.SevenTiedAt
import Derived.Stop.Joined
namespace Go.Proofs.YtenpejebbeoceaaGreatDoor.fnExactCatchUp
open Go.ChangeShapes Go.WideShapes Go.ChangeAt Go.RowKit Go.Proofs.YtenpejebbeoceaaGreatDoor.PR Go.Proofs.YtenpejebbeoceaaGreatDoor.Pp Go.Proofs.YtenpejebbeoceaaGreatDoorW.PrintWords
open Go.ChangeMaps (open_string shut_string)
set_option linter.unusedVariables false
theorem own:ownKnob Tryz.prog.godebug=none:=by kernel_rfl
theorem laidOut:laidOutB Tryz.prog=true:=by kernel_rfl
theorem opn_LRecord:Opn Tryz.prog 64 cv_ WF_LRecord:=Opn.struct (fun a=>(⟨a.1,a.2.1,a.2.2.1,a.2.2.2⟩:a5_)) Tryz.underlying64 rfl (by kernel_rfl) (by kernel_rfl) (Sg.cons (Opn.string Tryz.underlying9 (by kernel_rfl)) (Sg.cons (Opn.int Tryz.underlying3 (by kernel_rfl)) (Sg.cons (Opn.int Tryz.underlying3 (by kernel_rfl)) (Sg.one (Opn.string Tryz.underlying9 (by kernel_rfl)))))) (fun _=>rfl)
theorem opn24:Opn Tryz.prog 24 k24 WF24:=Opn.struct (fun a=>(⟨a.1,a.2.1,a.2.2⟩:S24)) Tryz.underlying24 rfl (by kernel_rfl) (by kernel_rfl) (Sg.cons (Opn.string Tryz.underlying9 (by kernel_rfl)) (Sg.cons (Opn.int Tryz.underlying3 (by kernel_rfl)) (Sg.one (Opn.slice Tryz.underlying22 (by kernel_rfl) opn_LRecord)))) (fun _=>rfl)
theorem opn_LDiff:Opn Tryz.prog 67 k_LDiff WF_LDiff:=Opn.struct (fun a=>(⟨a.1,a.2.1,a.2.2.1,a.2.2.2⟩:ca_)) Tryz.underlying67 rfl (by kernel_rfl) (by kernel_rfl) (Sg.cons (Opn.int Tryz.underlying3 (by kernel_rfl)) (Sg.cons (Opn.int Tryz.underlying3 (by kernel_rfl)) (Sg.cons (Opn.slice Tryz.underlying22 (by kernel_rfl) opn_LRecord) (Sg.one (Opn.slice Tryz.underlying22 (by kernel_rfl) opn_LRecord))))) (fun _=>rfl)
theorem opn_LJournal:Opn Tryz.prog 27 k_LJournal WF_LJournal:=Opn.struct (fun a=>(⟨a.1,a.2.1,a.2.2⟩:S_LJournal)) Tryz.underlying27 rfl (by kernel_rfl) (by kernel_rfl) (Sg.cons (Opn.string Tryz.underlying9 (by kernel_rfl)) (Sg.cons (Opn.int Tryz.underlying3 (by kernel_rfl)) (Sg.one (Opn.slice Tryz.underlying25 (by kernel_rfl) opn_LDiff)))) (fun _=>rfl)
set_option maxRecDepth 100000 in
theorem lifted (os:Os) (started:os.Started) (H:Type) (enc:TypeId × Value→H) :
    ReturnsInHanded {} Tryz.checked os 3 .any (fun w args=>(Rows.fnExactCatchUpSpec.pre enc Tryz.prog Tryz.f3 Rows.fnExactCatchUpRow.domain false w args∧laidMetH Tryz.prog Rows.fnExactCatchUpRow.laid w)∧sizedMet enc Tryz.prog Tryz.f3 (OpenSpec.ofChange Rows.fnExactCatchUpSpec) false w args) (Rows.fnExactCatchUpSpec.post enc Tryz.prog Tryz.f3 false true false false):=by
  refine returnsInHanded_of_change_and (C:=Tryz.checked) (X:=fun w _=>laidMetH Tryz.prog Rows.fnExactCatchUpRow.laid w) (fun _ _ _ hh h=>h.of_heap hh) own started (by kernel_rfl) Tryz.func3
    (ChangeSpec.witness_shaped (enc:=enc) (C:=Tryz.checked) (os:=os) (X:=fun w _=>laidMetH Tryz.prog Rows.fnExactCatchUpRow.laid w) false (World.laidAll Tryz.prog os Rows.fnExactCatchUpRow.laid) #[.agg #[.string ByteArray.empty,.int .i64 0,.slice none 0 0],.agg #[.string ByteArray.empty,.int .i64 0,.slice none 0 0]] 8 (World.laidAll_os _ _ _)
      (World.shaped_of_ZipB (by kernel_rfl) (by kernel_rfl)) (by kernel_rfl) (by kernel_rfl) (by kernel_rfl)
      (by rw[MakeChecks.laidMetH_plain _ _ _ (by kernel_rfl)];exact laidMet_laidAll _ (by kernel_rfl) (by kernel_rfl))) ?_
  intro W base args ds gs before hval0 hW hcnd hsz0 hL _
  have hval:∀(j:Nat) t v,Tryz.f3.params[j]? = some t→args[j]? = some v→Value.okWide Tryz.prog W .any base t v:=hval0
  have hW':=hW
  obtain⟨p,q,hA0,hV,rfl,hfz,hnd⟩:=hW
  have hA:DataW.TrodAll enc Tryz.prog W 0 (fun _=>true) true Tryz.f3.params.toList args.toList ds p:=hA0
  rw[Tryz.params3] at hA hval
  obtain⟨v0,vs0,d0,ds0,p0,q0,hargs,rfl,rfl,h0,r0⟩:=trodAll_cons hA
  obtain⟨v1,vs1,d1,ds1,p1,q1,rfl,rfl,rfl,h1,r1⟩:=trodAll_cons r0
  obtain⟨rfl,rfl,rfl⟩:=trodAll_nil r1
  obtain rfl:args=#[v0,v1]:=by cases args;simp_all
  obtain⟨rfl,rfl⟩:=trodVars_none hV
  have k0:=h0
  have lt0:∀x∈p0,x.block<W.heap.size:=by obtain⟨m,hm⟩:=k0;exact DataW.trod_lt m _ _ _ hm
  obtain⟨cs0,s0,rfl,hK0,w0⟩:=Opn.value opn24 Tryz.underlying24 (hval 0 24 v0 rfl rfl) h0
  obtain⟨A0_2,c0_2,e0,hc0_2,hr0_2⟩:=k24_open hK0
  obtain rfl:cs0=#[.string s0.f0,.int .i64 s0.f1,.slice A0_2 s0.f2.length c0_2]:=by cases cs0;simp only[Value.cells] at e0;subst e0;rfl
  have k1:=h1
  have lt1:∀x∈p1,x.block<W.heap.size:=by obtain⟨m,hm⟩:=k1;exact DataW.trod_lt m _ _ _ hm
  obtain⟨cs1,s1,rfl,hK1,w1⟩:=Opn.value opn_LJournal Tryz.underlying27 (hval 1 27 v1 rfl rfl) h1
  obtain⟨A1_2,c1_2,e1,hc1_2,hr1_2⟩:=k_LJournal_open hK1
  obtain rfl:cs1=#[.string s1.f0,.int .i64 s1.f1,.slice A1_2 s1.f2.length c1_2]:=by cases cs1;simp only[Value.cells] at e1;subst e1;rfl
  clear hA0 hval0 hsz0
  obtain⟨k,hk⟩:=Pure.FnExactCatchUp s0.f0 s0.f1 s0.f2 s1.f0 s1.f1 s1.f2 w0.1 w0.2.1 w0.2.2 w1.1 w1.2.1 w1.2.2
  refine(Pp.ab_.calls k s0.f0 s0.f1 A0_2 c0_2 s0.f2 s1.f0 s1.f1 A1_2 c1_2 s1.f2 true W hr0_2 hc0_2 hr1_2 hc1_2 (Go.Proofs.YtenpejebbeoceaaGreatDoorW.PrintLast.Glob.of_laid hL) hk).mono fun e W' hh=>?_
  obtain⟨he,bel0⟩:=hh
  have bel:Below W.heap.size W W':=bel0
  subst he
  exact⟨_,rfl,_,_,_,[],_,[],hW',trodAll_mk1 (shut_bool Tryz.underlying4 _),(trodAll_cons_mk (Below.trod laidOut (by kernel_rfl) (of_decide_eq_true (by kernel_rfl)) k0 bel lt0) (trodAll_cons_mk (Below.trod laidOut (by kernel_rfl) (of_decide_eq_true (by kernel_rfl)) k1 bel lt1) trodAll_mk0)),rfl,bel.frame _,fun h=>by cases h⟩
end Go.Proofs.YtenpejebbeoceaaGreatDoor.fnExactCatchUp
