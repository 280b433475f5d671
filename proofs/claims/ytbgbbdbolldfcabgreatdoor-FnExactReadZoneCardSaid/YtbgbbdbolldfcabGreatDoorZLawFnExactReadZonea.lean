
import Derived.Test.YtbgbbdbolldfcabGreatDoorRows
import Derived.Test.YtbgbbdbolldfcabGreatDoorJFnExactReadZone0
import Derived.Test.YtbgbbdbolldfcabGreatDoorJFnExactReadZone1
import Derived.Test.YtbgbbdbolldfcabGreatDoorJFnExactReadZone2
import Derived.Test.YtbgbbdbolldfcabGreatDoorJFnExactReadZone3
import Derived.Test.YtbgbbdbolldfcabGreatDoorKFnExactReadZoneP
import Derived.Test.YtbgbbdbolldfcabGreatDoorKFnExactReadZoneW
import Derived.Test.YtbgbbdbolldfcabGreatDoorTie
import Derived.Test.YtbgbbdbolldfcabGreatDoorCards
import Derived.Test.YtbgbbdbolldfcabGreatDoorZXGlobRow
import Derived.WalkKit
import Derived.ProofKit
import Derived.OpenShut
import Derived.ShutString
import Derived.ChangeOld
import Derived.Below
import Derived.SizedLaws
import Derived.Carry
import Derived.LaidMore
import Derived.Lay
import Derived.SevenTiedAt
import Derived.Stop.Joined
namespace Go.Proofs.YtbgbbdbolldfcabGreatDoor.fnExactReadZone
open Go.ChangeShapes Go.WideShapes Go.ChangeAt Go.RowKit Go.Proofs.YtbgbbdbolldfcabGreatDoor.PR Go.Proofs.YtbgbbdbolldfcabGreatDoor.Pp Go.Proofs.YtbgbbdbolldfcabGreatDoorW.PrintWords
open Go.ChangeMaps (open_string shut_string)
set_option linter.unusedVariables false
theorem own:ownKnob Tryz.prog.godebug=none:=by kernel_rfl
theorem laidOut:laidOutB Tryz.prog=true:=by kernel_rfl
set_option maxRecDepth 100000 in
theorem lifted (os:Os) (started:os.Started) (H:Type) (enc:TypeId × Value→H) :
    ReturnsInHanded {} Tryz.checked os 3 .any (fun w args=>(Rows.fnExactReadZoneSpec.pre enc Tryz.prog Tryz.f3 Rows.fnExactReadZoneRow.domain false w args∧laidMetH Tryz.prog Rows.fnExactReadZoneRow.laid w)∧sizedMet enc Tryz.prog Tryz.f3 (OpenSpec.ofChange Rows.fnExactReadZoneSpec) false w args) (Rows.fnExactReadZoneSpec.post enc Tryz.prog Tryz.f3 false true false false):=by
  refine returnsInHanded_of_change_and (C:=Tryz.checked) (X:=fun w _=>laidMetH Tryz.prog Rows.fnExactReadZoneRow.laid w) (fun _ _ _ hh h=>h.of_heap hh) own started (by kernel_rfl) Tryz.func3
    (ChangeSpec.witness_shaped (enc:=enc) (C:=Tryz.checked) (os:=os) (X:=fun w _=>laidMetH Tryz.prog Rows.fnExactReadZoneRow.laid w) false (World.laidAll Tryz.prog os Rows.fnExactReadZoneRow.laid) #[.string ByteArray.empty] 8 (World.laidAll_os _ _ _)
      (World.shaped_of_ZipB (by kernel_rfl) (by kernel_rfl)) (by kernel_rfl) (by kernel_rfl) (by kernel_rfl)
      (by rw[MakeChecks.laidMetH_plain _ _ _ (by kernel_rfl)];exact laidMet_laidAll _ (by kernel_rfl) (by kernel_rfl))) ?_
  intro W base args ds gs before hval0 hW hcnd hsz0 hL _
  have hval:∀(j:Nat) t v,Tryz.f3.params[j]? = some t→args[j]? = some v→Value.okWide Tryz.prog W .any base t v:=hval0
  have hW':=hW
  obtain⟨p,q,hA0,hV,rfl,hfz,hnd⟩:=hW
  have hA:DataW.TrodAll enc Tryz.prog W 0 (fun _=>true) true Tryz.f3.params.toList args.toList ds p:=hA0
  rw[Tryz.params3] at hA hval
  obtain⟨v0,vs0,d0,ds0,p0,q0,hargs,rfl,rfl,h0,r0⟩:=trodAll_cons hA
  obtain⟨rfl,rfl,rfl⟩:=trodAll_nil r0
  obtain rfl:args=#[v0]:=by cases args;simp_all
  obtain⟨rfl,rfl⟩:=trodVars_none hV
  obtain⟨a0,rfl,rfl,rfl,y0⟩:=open_string Tryz.underlying9 (hval 0 9 v0 rfl rfl) h0
  clear hA0 hval0 hsz0
  obtain⟨k,hk⟩:=Pure.FnExactReadZone a0 y0
  refine(Pp.af_.calls k a0 true W (Go.Proofs.YtbgbbdbolldfcabGreatDoorW.PrintLast.Glob.of_laid hL) hk).mono fun e W' hh=>?_
  obtain⟨he,bel0⟩:=hh
  have bel:Below W.heap.size W W':=bel0
  subst he
  exact⟨_,rfl,_,_,_,[],_,[],hW',trodAll_mk1 (shut_bool Tryz.underlying4 _),(trodAll_cons_mk (shut_string Tryz.underlying9 y0) trodAll_mk0),rfl,bel.frame _,fun h=>by cases h⟩
end Go.Proofs.YtbgbbdbolldfcabGreatDoor.fnExactReadZone
