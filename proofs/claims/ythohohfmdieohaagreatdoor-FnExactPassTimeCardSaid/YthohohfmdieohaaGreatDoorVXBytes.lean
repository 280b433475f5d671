/- Words of the kit's print,written by it for this seat;what this claim does not name is left out. -/
import Derived.Test.YthohohfmdieohaaGreatDoorVXWords
import Derived.Test.YthohohfmdieohaaGreatDoorVWMore
set_option linter.unusedVariables false
namespace Go.Proofs.YthohohfmdieohaaGreatDoorW.PrintLast
open Go Go.RowKit Go.Proofs.YthohohfmdieohaaGreatDoorW.PrintWords Go.Proofs.YthohohfmdieohaaGreatDoorW.PrintMore
theorem bytes_F (W:World) (e:TypeId) (s:ByteArray) (hs:s.size≤9223372036854775807) {ok:Nat→Prop} (hok:ok W.heap.size) :
    Kd.F (Kd.int .u8) (Lib.bytesWorld W e s) ok (some ⟨W.heap.size,0,none⟩) (bytesOf s).length (bytesOf s):=fun W' hW'=>by
  have hh:=hW' W.heap.size hok (by rw[Lib.bytesWorld_size];omega)
  have hr:ReadsInt W' .u8 (some ⟨W.heap.size,0,none⟩) (bytesOf s).length (bytesOf s):=by
    refine⟨rfl,by rw[bytesOf_length];exact hs,fun hp=>⟨_,rfl,fun j hj=>?_⟩⟩
    rw[bytesOf_length] at hp hj
    obtain⟨ad,e1,hc⟩:=(bytes_reads W e s hs).2.2 hp
    obtain rfl:=Option.some.inj e1
    rw[←hc j hj]
    rw[add_plain]
    unfold World.cell?
    rw[hh]
  exact Kd.C_of_reads (d:=(0:Int)) (h1:=fun _=>rfl) hr
section
variable {P:Program} {ops:Array Oper} {rest:List Oper} {o:Oper} {a:Act} {Q:Exit→Act→World→Prop}
theorem Kd.V_bytes {w0 W:World} (base e:Nat) (hgd:o.guard=none) {N:Tmp} (hd:o.dst=some N) (src t:TypeId) (x:Operand) (ho:o.op=.convert src t x) (s:ByteArray) (hx:a.eval x=.string s) {u:TypeDesc}
    (hs:P.underlying src=some u) (ht:P.underlying t=some (.slice e)) (he:P.underlying e=some (.int .u8)) (hz:s.size≤9223372036854775807) {ok:Nat→Prop} (hok:ok W.heap.size) (HB:Below base w0 W) (hbase:base≤W.heap.size)
    (h:∀v1 w1,Kd.V (Kd.int .u8) e w1 base ok v1 (bytesOf s)→Below base w0 w1→Below W.heap.size W w1→(∃b,v1.ownBlock=some b∧W.heap.size≤b)→wpList P ops Q rest (a.put o.dst v1) w1):wpList P ops Q (o::rest) a W:=by
  have hrun:=print_bytes (P:=P) src t e hs ht he s W
  have hc:s.size≤grownCap W s.size 0 e:=grownCap_ge W s.size 0 e
  refine Kd.event_run (w1:=Lib.bytesWorld W e s) (v:=.slice (some ⟨W.heap.size,0,none⟩) s.size (grownCap W s.size 0 e)) hgd (by simp[execOp,ho,hx,hrun]) (h _ _ ?_ (bytes_below HB hbase e s) (bytes_below (Below.refl _ _) (Nat.le_refl _) e s) ⟨_,rfl,Nat.le_refl _⟩)
  have hv:=bytes_F W e s hz (ok:=ok) hok
  have:=Kd.V_mk (d:=Kd.int .u8) (e:=e) (base:=base) (c:=grownCap W s.size 0 e) (by rw[bytesOf_length];exact hc) hv
  rw[bytesOf_length] at this
  exact this
end
end Go.Proofs.YthohohfmdieohaaGreatDoorW.PrintLast
