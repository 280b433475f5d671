
import Derived.Test.YthohohfmdieohaaGreatDoorRows
import Derived.Test.YthohohfmdieohaaGreatDoorJFnExactPassTime0
import Derived.Test.YthohohfmdieohaaGreatDoorJFnExactPassTime1
import Derived.Test.YthohohfmdieohaaGreatDoorJFnExactPassTime2
import Derived.Test.YthohohfmdieohaaGreatDoorJFnExactPassTime3
import Derived.Test.YthohohfmdieohaaGreatDoorJFnExactPassTime4
import Derived.Test.YthohohfmdieohaaGreatDoorKFnExactPassTimeP
import Derived.Test.YthohohfmdieohaaGreatDoorZXRow
import Derived.Test.YthohohfmdieohaaGreatDoorTie
import Derived.Test.YthohohfmdieohaaGreatDoorCards
import Derived.Test.YthohohfmdieohaaGreatDoorZXGlobRow
import Derived.WalkKit
import Derived.ProofKit
import Derived.OpenShut
import Derived.ShutString
import Derived.ChangeOld
import Derived.Below
import Derived.SizedLaws
import Derived.Carry
import Derived.LaidMore
import Derived.Lay
import Derived.SevenTiedAt
import Derived.Stop.Joined
namespace Go.Proofs.YthohohfmdieohaaGreatDoor.fnExactPassTime
open Go.ChangeShapes Go.WideShapes Go.ChangeAt Go.RowKit Go.Proofs.YthohohfmdieohaaGreatDoor.PR Go.Proofs.YthohohfmdieohaaGreatDoor.Pp Go.Proofs.YthohohfmdieohaaGreatDoorW.PrintWords
open Go.ChangeMaps (open_string shut_string)
set_option linter.unusedVariables false
theorem own:ownKnob Tryz.prog.godebug=none:=by kernel_rfl
theorem laidOut:laidOutB Tryz.prog=true:=by kernel_rfl
theorem opn_LRecord:Opn Tryz.prog 130 a0_ WF_LRecord:=Opn.struct (fun a=>(⟨a.1,a.2.1,a.2.2.1,a.2.2.2⟩:ba_)) Tryz.underlying130 rfl (by kernel_rfl) (by kernel_rfl) (Sg.cons (Opn.string Tryz.underlying9 (by kernel_rfl)) (Sg.cons (Opn.int Tryz.underlying3 (by kernel_rfl)) (Sg.cons (Opn.int Tryz.underlying3 (by kernel_rfl)) (Sg.one (Opn.string Tryz.underlying9 (by kernel_rfl)))))) (fun _=>rfl)
theorem opn_LEntry:Opn Tryz.prog 145 bV_ WF_LEntry:=Opn.struct (fun a=>(⟨a.1,a.2.1,a.2.2.1,a.2.2.2.1,a.2.2.2.2.1,a.2.2.2.2.2⟩:be_)) Tryz.underlying145 rfl (by kernel_rfl) (by kernel_rfl) (Sg.cons (Opn.string Tryz.underlying9 (by kernel_rfl)) (Sg.cons (Opn.int Tryz.underlying3 (by kernel_rfl)) (Sg.cons (Opn.bool Tryz.underlying4 (by kernel_rfl)) (Sg.cons (Opn.slice Tryz.underlying22 (by kernel_rfl) opn_LRecord) (Sg.cons (Opn.int Tryz.underlying3 (by kernel_rfl)) (Sg.one (Opn.int Tryz.underlying3 (by kernel_rfl)))))))) (fun _=>rfl)
theorem opn_LCache:Opn Tryz.prog 49 k_LCache WF_LCache:=Opn.struct (fun a=>(⟨a.1,a.2⟩:S_LCache)) Tryz.underlying49 rfl (by kernel_rfl) (by kernel_rfl) (Sg.cons (Opn.int Tryz.underlying3 (by kernel_rfl)) (Sg.one (Opn.slice Tryz.underlying47 (by kernel_rfl) opn_LEntry))) (fun _=>rfl)
set_option maxRecDepth 100000 in
theorem lifted (os:Os) (started:os.Started) (H:Type) (enc:TypeId × Value→H) :
    ReturnsInHanded {} Tryz.checked os 11 .any (fun w args=>(Rows.fnExactPassTimeSpec.pre enc Tryz.prog Tryz.f11 Rows.fnExactPassTimeRow.domain false w args∧laidMetH Tryz.prog Rows.fnExactPassTimeRow.laid w)∧sizedMet enc Tryz.prog Tryz.f11 (OpenSpec.ofChange Rows.fnExactPassTimeSpec) false w args) (Rows.fnExactPassTimeSpec.post enc Tryz.prog Tryz.f11 false true false false):=by
  refine returnsInHanded_of_change_and (C:=Tryz.checked) (X:=fun w _=>laidMetH Tryz.prog Rows.fnExactPassTimeRow.laid w) (fun _ _ _ hh h=>h.of_heap hh) own started (by kernel_rfl) Tryz.func11
    (ChangeSpec.witness_shaped (enc:=enc) (C:=Tryz.checked) (os:=os) (X:=fun w _=>laidMetH Tryz.prog Rows.fnExactPassTimeRow.laid w) false (World.laidAll Tryz.prog os Rows.fnExactPassTimeRow.laid) #[.agg #[.int .i64 0,.slice none 0 0],.int .i64 0] 8 (World.laidAll_os _ _ _)
      (World.shaped_of_ZipB (by kernel_rfl) (by kernel_rfl)) (by kernel_rfl) (by kernel_rfl) (by kernel_rfl)
      (by rw[MakeChecks.laidMetH_plain _ _ _ (by kernel_rfl)];exact laidMet_laidAll _ (by kernel_rfl) (by kernel_rfl))) ?_
  intro W base args ds gs before hval0 hW hcnd hsz0 hL _
  have hval:∀(j:Nat) t v,Tryz.f11.params[j]? = some t→args[j]? = some v→Value.okWide Tryz.prog W .any base t v:=hval0
  have hW':=hW
  obtain⟨p,q,hA0,hV,rfl,hfz,hnd⟩:=hW
  have hA:DataW.TrodAll enc Tryz.prog W 0 (fun _=>true) true Tryz.f11.params.toList args.toList ds p:=hA0
  rw[Tryz.params11] at hA hval
  obtain⟨v0,vs0,d0,ds0,p0,q0,hargs,rfl,rfl,h0,r0⟩:=trodAll_cons hA
  obtain⟨v1,vs1,d1,ds1,p1,q1,rfl,rfl,rfl,h1,r1⟩:=trodAll_cons r0
  obtain⟨rfl,rfl,rfl⟩:=trodAll_nil r1
  obtain rfl:args=#[v0,v1]:=by cases args;simp_all
  obtain⟨rfl,rfl⟩:=trodVars_none hV
  have k0:=h0
  have lt0:∀x∈p0,x.block<W.heap.size:=by obtain⟨m,hm⟩:=k0;exact DataW.trod_lt m _ _ _ hm
  obtain⟨cs0,s0,rfl,hK0,w0⟩:=Opn.value opn_LCache Tryz.underlying49 (hval 0 49 v0 rfl rfl) h0
  obtain⟨A0_1,c0_1,e0,hc0_1,hr0_1⟩:=k_LCache_open hK0
  obtain rfl:cs0=#[.int .i64 s0.f0,.slice A0_1 s0.f1.length c0_1]:=by cases cs0;simp only[Value.cells] at e0;subst e0;rfl
  obtain⟨a1,rfl,rfl,rfl,w1⟩:=open_int Tryz.underlying3 (hval 1 3 v1 rfl rfl) h1
  clear hA0 hval0 hsz0
  obtain⟨k,hk⟩:=Pure.FnExactPassTime s0.f0 s0.f1 a1 w0.1 w0.2 w1
  refine(Pp.ab_.calls k s0.f0 A0_1 c0_1 s0.f1 a1 true W hr0_1 hc0_1 (Go.Proofs.YthohohfmdieohaaGreatDoorW.PrintLast.Glob.of_laid hL) hk).mono fun e W' hh=>?_
  obtain⟨he,bel0⟩:=hh
  have bel:Below W.heap.size W W':=bel0
  subst he
  exact⟨_,rfl,_,_,_,[],_,[],hW',trodAll_mk1 (shut_bool Tryz.underlying4 _),(trodAll_cons_mk (Below.trod laidOut (by kernel_rfl) (of_decide_eq_true (by kernel_rfl)) k0 bel lt0) (trodAll_cons_mk (shut_int Tryz.underlying3 w1) trodAll_mk0)),rfl,bel.frame _,fun h=>by cases h⟩
end Go.Proofs.YthohohfmdieohaaGreatDoor.fnExactPassTime
