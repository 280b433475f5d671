/- The functions that the law reaches, one Lean function and its proof for each; written by wip/pp of this workplace, joined by claimit.py. -/
import Derived.Test.YthckpgglghfiiaaDoorProg
import Derived.Below
import Derived.Deep.Draws
import Derived.Deep.AppendLies
import Derived.Maps.AppendAt
import Derived.OwnWalk
import Derived.Laws.BytesArg
import Derived.Laws.MakeOwn
import Derived.Laws.OwnMore
import Derived.Deep.OwnRows
import Derived.Tactics
import Derived.Lib.ConvBytes
import Derived.Laws.Slices
import Derived.WalkKit
import Derived.KernelRfl
import Derived.RowKit3
import Derived.Deep.LoopGhost
import Derived.Deep.QuietTactic
import Derived.BigQuiet
import Derived.WideLaws
import Derived.Deep.DeepCutAuto
import Derived.Deep.CutBlock
import Derived.Deep.RegionHeld3
import Derived.Laws.Rows
import Derived.Lib.AppendStr
import Derived.ArgAppend
import Derived.Laws.IdiomCopy
import Derived.OrdersHeld
import Derived.Laws.BitsLemmas
import Derived.RowKit
import Derived.Test.YthckpgglghfiiaaDoorXWords
import Derived.Test.YthckpgglghfiiaaDoorXSq
import Derived.Test.YthckpgglghfiiaaDoorXShelf
import Derived.Test.YthckpgglghfiiaaDoorXBytes
import Derived.Test.YthckpgglghfiiaaDoorWWords
import Derived.Test.YthckpgglghfiiaaDoorWLast
import Derived.Test.YthckpgglghfiiaaDoorWTab
import Derived.Test.YthckpgglghfiiaaDoorWFour
import Derived.Test.YthckpgglghfiiaaDoorWQPut
import Derived.Test.YthckpgglghfiiaaDoorWApart
import Derived.Test.YthckpgglghfiiaaDoorWArr
import Derived.Test.YthckpgglghfiiaaDoorWZeros
import Derived.Test.YthckpgglghfiiaaDoorWFoot
import Derived.Test.YthckpgglghfiiaaDoorWKept
import Derived.Test.YthckpgglghfiiaaDoorWShare
import Derived.Test.YthckpgglghfiiaaDoorWN
import Derived.Test.YthckpgglghfiiaaDoorWFootNe
import Derived.Test.YthckpgglghfiiaaDoorWAt
import Derived.Test.YthckpgglghfiiaaDoorWEqStruct
import Derived.Test.YthckpgglghfiiaaDoorWRepsOne
import Derived.Test.YthckpgglghfiiaaDoorWInv
import Derived.Test.YthckpgglghfiiaaDoorWInvWords
import Derived.Test.YthckpgglghfiiaaDoorWGuard
import Derived.Test.YthckpgglghfiiaaDoorWNEv
import Derived.Test.YthckpgglghfiiaaDoorWMore
namespace Go.Proofs.YthckpgglghfiiaaDoor.Pp
open Go.RowKit Go.Proofs.YthckpgglghfiiaaDoorW.PrintWords Go.Proofs.YthckpgglghfiiaaDoorW.PrintLast Go.Proofs.YthckpgglghfiiaaDoorW.PrintMore
attribute [local go_sem] max2_int min2_int max_two min_two max_three min_three max_four min_four   -- for this text's walks alone
set_option linter.unusedVariables false
set_option linter.unusedSimpArgs false



set_option maxHeartbeats 8000000
set_option maxRecDepth 100000
section
def errW : Option Int → Value
 | none => .nilIface
 | some c => .iface 0 (.int .i64 c)
theorem errW_none : errW none = .nilIface := rfl
theorem errW_some (c : Int) : errW (some c) = .iface 0 (.int .i64 c) := rfl

theorem info3 : (Tryd.prog.info? 3).map (fun i => (i.zero, i.size, i.bytes)) = some (some (.int .i64 0), 1, 8) := by kernel_rfl
theorem info5 : (Tryd.prog.info? 5).map (fun i => (i.zero, i.size, i.bytes)) = some (some (.int .u8 0), 1, 1) := by kernel_rfl
theorem info9 : (Tryd.prog.info? 9).map (fun i => (i.zero, i.size, i.bytes)) = some (some (.string ⟨#[]⟩), 1, 16) := by kernel_rfl
theorem info44 : (Tryd.prog.info? 44).map (fun i => (i.zero, i.size, i.bytes)) = some (some (.agg #[(.string ⟨#[]⟩), (.string ⟨#[]⟩), (.slice none 0 0)]), 3, 56) := by kernel_rfl
theorem info76 : (Tryd.prog.info? 76).map (fun i => (i.zero, i.size, i.bytes)) = some (some (.agg #[(.string ⟨#[]⟩), (.bool false), (.int .i64 0)]), 3, 32) := by kernel_rfl
-- the values' own types
def rd_L2 (xs : List (List Int)) (i : Int) : (List Int) := xs.getD i.toNat ([] : List Int)
theorem at_L2 {w : World} {A : Option Addr} {n : Nat} {xs : List (List Int)} (h : Kd.C (Kd.slice 3 (Kd.int .i64)) w A n xs) (i : Int) (h0 : 0 ≤ i) (h1 : i < n) : ∃ ad A0 c0, A = some ad ∧ w.cell? (ad.add i.toNat) = some (.slice A0 (rd_L2 xs i).length c0) ∧ (rd_L2 xs i).length ≤ c0 ∧ (Kd.int .i64).C w A0 (rd_L2 xs i).length (rd_L2 xs i) := by
 obtain ⟨ad, c, e, _, hK, hc0⟩ := Kd.C_get h ([] : List Int) i h0 h1
 have hc : ∀ j u, c[j]? = some u → w.cell? (ad.add (i.toNat * 1 + j)) = some u := hc0
 obtain ⟨A0, c0, rfl, l0, g0⟩ := hK
 exact ⟨ad, A0, c0, e, by have hq := hc 0 _ rfl; rwa [Nat.mul_one, Nat.add_zero] at hq, l0, g0⟩

/-! #### struct type 41 -/
structure S_LGap where
 f0 : ByteArray
 f1 : ByteArray
 f2 : (List Int)
def z_LGap : S_LGap := ⟨(⟨#[]⟩ : ByteArray), (⟨#[]⟩ : ByteArray), ([] : List Int)⟩
def k_LGap : Kd S_LGap := Kd.iso (Kd.pair Kd.string (Kd.pair Kd.string (Kd.slice 3 (Kd.int .i64)))) (fun x : S_LGap => (x.f0, x.f1, x.f2))
theorem k_LGap_heap : Kd.Heap k_LGap := Kd.heap_iso _ (Kd.heap_pair Kd.heap_string (Kd.heap_pair Kd.heap_string (Kd.heap_slice 3 (Kd.heap_int .i64))))
theorem k_LGap_open {w : World} {x : S_LGap} {cs : List Value} (h : k_LGap.K w x cs) : ∃ A2 c2, cs = [.string x.f0, .string x.f1, .slice A2 x.f2.length c2] ∧ x.f2.length ≤ c2 ∧ (Kd.int .i64).C w A2 x.f2.length x.f2 := by
 obtain ⟨_, _, rfl, rfl, ⟨_, _, rfl, rfl, ⟨A2, c2, rfl, l2, g2⟩⟩⟩ := h
 exact ⟨A2, c2, rfl, l2, g2⟩
theorem k_LGap_openM {w : World} {base : Nat} {ok : Nat → Prop} {x : S_LGap} {cs : List Value} (h : k_LGap.M w base ok x cs) : ∃ v2, cs = [.string x.f0, .string x.f1, v2] ∧ (Kd.int .i64).R 3 w base ok v2 x.f2 := by
 obtain ⟨_, _, rfl, rfl, ⟨_, _, rfl, rfl, ⟨v2, rfl, g2⟩⟩⟩ := h
 exact ⟨v2, rfl, g2⟩
theorem k_LGap_mk (w : World) (x : S_LGap) {A2 : Option Addr} {c2 : Nat} (l2 : x.f2.length ≤ c2) (g2 : (Kd.int .i64).C w A2 x.f2.length x.f2) : k_LGap.K w x [.string x.f0, .string x.f1, .slice A2 x.f2.length c2] := ⟨[.string x.f0], [.string x.f1, .slice A2 x.f2.length c2], rfl, rfl, ⟨[.string x.f1], [.slice A2 x.f2.length c2], rfl, rfl, ⟨A2, c2, rfl, l2, g2⟩⟩⟩
theorem k_LGap_mkM (w : World) (base : Nat) (ok : Nat → Prop) (x : S_LGap) {v2 : Value} (g2 : (Kd.int .i64).R 3 w base ok v2 x.f2) : k_LGap.M w base ok x [.string x.f0, .string x.f1, v2] := ⟨[.string x.f0], [.string x.f1, v2], rfl, rfl, ⟨[.string x.f1], [v2], rfl, rfl, ⟨v2, rfl, g2⟩⟩⟩
theorem k_LGap_openF {W : World} {ok : Nat → Prop} {x : S_LGap} {cs : List Value} (h : Kd.FK k_LGap W ok x cs) : ∃ A2 c2, cs = [.string x.f0, .string x.f1, .slice A2 x.f2.length c2] ∧ x.f2.length ≤ c2 ∧ Kd.F (Kd.int .i64) W ok A2 x.f2.length x.f2 := by
 obtain ⟨A2, c2, rfl, l2, _⟩ := k_LGap_open (Kd.FK_now h)
 exact ⟨A2, c2, rfl, l2, (fun W' hW => by obtain ⟨A2_, c2_, he, l2_, g2_⟩ := k_LGap_open (h W' hW); injection (Option.some.inj (show some (Value.slice A2 x.f2.length c2) = some (Value.slice A2_ x.f2.length c2_) from congrArg (fun l => l[2]?) he)) with ha_ _ _; rw [ha_]; exact g2_)⟩
theorem k_LGap_mkF (W : World) (ok : Nat → Prop) (x : S_LGap) {A2 : Option Addr} {c2 : Nat} (l2 : x.f2.length ≤ c2) (g2 : Kd.F (Kd.int .i64) W ok A2 x.f2.length x.f2) : Kd.FK k_LGap W ok x [.string x.f0, .string x.f1, .slice A2 x.f2.length c2] := fun W2 hW => k_LGap_mk W2 x l2 (g2 W2 hW)
def rd_TLGap (xs : List S_LGap) (i : Int) : S_LGap := xs.getD i.toNat z_LGap
theorem at_TLGap {w : World} {A : Option Addr} {n : Nat} {xs : List S_LGap} (h : Kd.C k_LGap w A n xs) (i : Int) (h0 : 0 ≤ i) (h1 : i < n) : ∃ ad A2 c2, A = some ad ∧ w.cell? (ad.add (i.toNat * 3)) = some (.string (rd_TLGap xs i).f0) ∧ w.cell? ⟨(ad.add (i.toNat * 3)).block, (ad.add (i.toNat * 3)).off + 1, none⟩ = some (.string (rd_TLGap xs i).f1) ∧ w.cell? ⟨(ad.add (i.toNat * 3)).block, (ad.add (i.toNat * 3)).off + 2, none⟩ = some (.slice A2 (rd_TLGap xs i).f2.length c2) ∧ (rd_TLGap xs i).f2.length ≤ c2 ∧ (Kd.int .i64).C w A2 (rd_TLGap xs i).f2.length (rd_TLGap xs i).f2 := by
 obtain ⟨ad, c, e, _, hK, hc0⟩ := Kd.C_get h z_LGap i h0 h1
 have hc : ∀ j u, c[j]? = some u → w.cell? (ad.add (i.toNat * 3 + j)) = some u := hc0
 obtain ⟨A2, c2, rfl, l2, g2⟩ := k_LGap_open hK
 exact ⟨ad, A2, c2, e, hc 0 _ rfl, by rw [← add_field _ _ 1 (by omega)]; exact hc 1 _ rfl, by rw [← add_field _ _ 2 (by omega)]; exact hc 2 _ rfl, l2, g2⟩

/-! #### struct type 44 -/
structure S_Gap where
 f0 : ByteArray
 f1 : ByteArray
 f2 : (List Int)
def z_Gap : S_Gap := ⟨(⟨#[]⟩ : ByteArray), (⟨#[]⟩ : ByteArray), ([] : List Int)⟩
def k_Gap : Kd S_Gap := Kd.iso (Kd.pair Kd.string (Kd.pair Kd.string (Kd.slice 3 (Kd.int .i64)))) (fun x : S_Gap => (x.f0, x.f1, x.f2))
theorem k_Gap_heap : Kd.Heap k_Gap := Kd.heap_iso _ (Kd.heap_pair Kd.heap_string (Kd.heap_pair Kd.heap_string (Kd.heap_slice 3 (Kd.heap_int .i64))))
theorem k_Gap_open {w : World} {x : S_Gap} {cs : List Value} (h : k_Gap.K w x cs) : ∃ A2 c2, cs = [.string x.f0, .string x.f1, .slice A2 x.f2.length c2] ∧ x.f2.length ≤ c2 ∧ (Kd.int .i64).C w A2 x.f2.length x.f2 := by
 obtain ⟨_, _, rfl, rfl, ⟨_, _, rfl, rfl, ⟨A2, c2, rfl, l2, g2⟩⟩⟩ := h
 exact ⟨A2, c2, rfl, l2, g2⟩
theorem k_Gap_openM {w : World} {base : Nat} {ok : Nat → Prop} {x : S_Gap} {cs : List Value} (h : k_Gap.M w base ok x cs) : ∃ v2, cs = [.string x.f0, .string x.f1, v2] ∧ (Kd.int .i64).R 3 w base ok v2 x.f2 := by
 obtain ⟨_, _, rfl, rfl, ⟨_, _, rfl, rfl, ⟨v2, rfl, g2⟩⟩⟩ := h
 exact ⟨v2, rfl, g2⟩
theorem k_Gap_mk (w : World) (x : S_Gap) {A2 : Option Addr} {c2 : Nat} (l2 : x.f2.length ≤ c2) (g2 : (Kd.int .i64).C w A2 x.f2.length x.f2) : k_Gap.K w x [.string x.f0, .string x.f1, .slice A2 x.f2.length c2] := ⟨[.string x.f0], [.string x.f1, .slice A2 x.f2.length c2], rfl, rfl, ⟨[.string x.f1], [.slice A2 x.f2.length c2], rfl, rfl, ⟨A2, c2, rfl, l2, g2⟩⟩⟩
theorem k_Gap_mkM (w : World) (base : Nat) (ok : Nat → Prop) (x : S_Gap) {v2 : Value} (g2 : (Kd.int .i64).R 3 w base ok v2 x.f2) : k_Gap.M w base ok x [.string x.f0, .string x.f1, v2] := ⟨[.string x.f0], [.string x.f1, v2], rfl, rfl, ⟨[.string x.f1], [v2], rfl, rfl, ⟨v2, rfl, g2⟩⟩⟩
theorem k_Gap_openF {W : World} {ok : Nat → Prop} {x : S_Gap} {cs : List Value} (h : Kd.FK k_Gap W ok x cs) : ∃ A2 c2, cs = [.string x.f0, .string x.f1, .slice A2 x.f2.length c2] ∧ x.f2.length ≤ c2 ∧ Kd.F (Kd.int .i64) W ok A2 x.f2.length x.f2 := by
 obtain ⟨A2, c2, rfl, l2, _⟩ := k_Gap_open (Kd.FK_now h)
 exact ⟨A2, c2, rfl, l2, (fun W' hW => by obtain ⟨A2_, c2_, he, l2_, g2_⟩ := k_Gap_open (h W' hW); injection (Option.some.inj (show some (Value.slice A2 x.f2.length c2) = some (Value.slice A2_ x.f2.length c2_) from congrArg (fun l => l[2]?) he)) with ha_ _ _; rw [ha_]; exact g2_)⟩
theorem k_Gap_mkF (W : World) (ok : Nat → Prop) (x : S_Gap) {A2 : Option Addr} {c2 : Nat} (l2 : x.f2.length ≤ c2) (g2 : Kd.F (Kd.int .i64) W ok A2 x.f2.length x.f2) : Kd.FK k_Gap W ok x [.string x.f0, .string x.f1, .slice A2 x.f2.length c2] := fun W2 hW => k_Gap_mk W2 x l2 (g2 W2 hW)
def rd_TGap (xs : List S_Gap) (i : Int) : S_Gap := xs.getD i.toNat z_Gap
theorem at_TGap {w : World} {A : Option Addr} {n : Nat} {xs : List S_Gap} (h : Kd.C k_Gap w A n xs) (i : Int) (h0 : 0 ≤ i) (h1 : i < n) : ∃ ad A2 c2, A = some ad ∧ w.cell? (ad.add (i.toNat * 3)) = some (.string (rd_TGap xs i).f0) ∧ w.cell? ⟨(ad.add (i.toNat * 3)).block, (ad.add (i.toNat * 3)).off + 1, none⟩ = some (.string (rd_TGap xs i).f1) ∧ w.cell? ⟨(ad.add (i.toNat * 3)).block, (ad.add (i.toNat * 3)).off + 2, none⟩ = some (.slice A2 (rd_TGap xs i).f2.length c2) ∧ (rd_TGap xs i).f2.length ≤ c2 ∧ (Kd.int .i64).C w A2 (rd_TGap xs i).f2.length (rd_TGap xs i).f2 := by
 obtain ⟨ad, c, e, _, hK, hc0⟩ := Kd.C_get h z_Gap i h0 h1
 have hc : ∀ j u, c[j]? = some u → w.cell? (ad.add (i.toNat * 3 + j)) = some u := hc0
 obtain ⟨A2, c2, rfl, l2, g2⟩ := k_Gap_open hK
 exact ⟨ad, A2, c2, e, hc 0 _ rfl, by rw [← add_field _ _ 1 (by omega)]; exact hc 1 _ rfl, by rw [← add_field _ _ 2 (by omega)]; exact hc 2 _ rfl, l2, g2⟩

/-! #### struct type 106 -/
structure S_LHost where
 f0 : ByteArray
 f1 : Bool
 f2 : Int
def z_LHost : S_LHost := ⟨(⟨#[]⟩ : ByteArray), false, (0 : Int)⟩
def k_LHost : Kd S_LHost := Kd.iso (Kd.pair Kd.string (Kd.pair Kd.bool (Kd.int .i64))) (fun x : S_LHost => (x.f0, x.f1, x.f2))
theorem k_LHost_heap : Kd.Heap k_LHost := Kd.heap_iso _ (Kd.heap_pair Kd.heap_string (Kd.heap_pair Kd.heap_bool (Kd.heap_int .i64)))
theorem k_LHost_open {w : World} {x : S_LHost} {cs : List Value} (h : k_LHost.K w x cs) : cs = [.string x.f0, .bool x.f1, .int .i64 x.f2] := by
 obtain ⟨_, _, rfl, rfl, ⟨_, _, rfl, rfl, rfl⟩⟩ := h
 exact rfl
theorem k_LHost_openM {w : World} {base : Nat} {ok : Nat → Prop} {x : S_LHost} {cs : List Value} (h : k_LHost.M w base ok x cs) : cs = [.string x.f0, .bool x.f1, .int .i64 x.f2] := by
 obtain ⟨_, _, rfl, rfl, ⟨_, _, rfl, rfl, rfl⟩⟩ := h
 exact rfl
theorem k_LHost_mk (w : World) (x : S_LHost)  : k_LHost.K w x [.string x.f0, .bool x.f1, .int .i64 x.f2] := ⟨[.string x.f0], [.bool x.f1, .int .i64 x.f2], rfl, rfl, ⟨[.bool x.f1], [.int .i64 x.f2], rfl, rfl, rfl⟩⟩
theorem k_LHost_mkM (w : World) (base : Nat) (ok : Nat → Prop) (x : S_LHost)  : k_LHost.M w base ok x [.string x.f0, .bool x.f1, .int .i64 x.f2] := ⟨[.string x.f0], [.bool x.f1, .int .i64 x.f2], rfl, rfl, ⟨[.bool x.f1], [.int .i64 x.f2], rfl, rfl, rfl⟩⟩
theorem k_LHost_mkF (W : World) (ok : Nat → Prop) (x : S_LHost) : Kd.FK k_LHost W ok x [.string x.f0, .bool x.f1, .int .i64 x.f2] := fun W2 _ => k_LHost_mk W2 x
def rd_TLHost (xs : List S_LHost) (i : Int) : S_LHost := xs.getD i.toNat z_LHost
theorem at_TLHost {w : World} {A : Option Addr} {n : Nat} {xs : List S_LHost} (h : Kd.C k_LHost w A n xs) (i : Int) (h0 : 0 ≤ i) (h1 : i < n) : ∃ ad , A = some ad ∧ w.cell? (ad.add (i.toNat * 3)) = some (.string (rd_TLHost xs i).f0) ∧ w.cell? ⟨(ad.add (i.toNat * 3)).block, (ad.add (i.toNat * 3)).off + 1, none⟩ = some (.bool (rd_TLHost xs i).f1) ∧ w.cell? ⟨(ad.add (i.toNat * 3)).block, (ad.add (i.toNat * 3)).off + 2, none⟩ = some (.int .i64 (rd_TLHost xs i).f2) := by
 obtain ⟨ad, c, e, _, hK, hc0⟩ := Kd.C_get h z_LHost i h0 h1
 have hc : ∀ j u, c[j]? = some u → w.cell? (ad.add (i.toNat * 3 + j)) = some u := hc0
 obtain rfl := k_LHost_open hK
 exact ⟨ad, e, hc 0 _ rfl, by rw [← add_field _ _ 1 (by omega)]; exact hc 1 _ rfl, by rw [← add_field _ _ 2 (by omega)]; exact hc 2 _ rfl⟩

/-! #### struct type 76 -/
structure S_Host where
 f0 : ByteArray
 f1 : Bool
 f2 : Int
def z_Host : S_Host := ⟨(⟨#[]⟩ : ByteArray), false, (0 : Int)⟩
def k_Host : Kd S_Host := Kd.iso (Kd.pair Kd.string (Kd.pair Kd.bool (Kd.int .i64))) (fun x : S_Host => (x.f0, x.f1, x.f2))
theorem k_Host_heap : Kd.Heap k_Host := Kd.heap_iso _ (Kd.heap_pair Kd.heap_string (Kd.heap_pair Kd.heap_bool (Kd.heap_int .i64)))
theorem k_Host_open {w : World} {x : S_Host} {cs : List Value} (h : k_Host.K w x cs) : cs = [.string x.f0, .bool x.f1, .int .i64 x.f2] := by
 obtain ⟨_, _, rfl, rfl, ⟨_, _, rfl, rfl, rfl⟩⟩ := h
 exact rfl
theorem k_Host_openM {w : World} {base : Nat} {ok : Nat → Prop} {x : S_Host} {cs : List Value} (h : k_Host.M w base ok x cs) : cs = [.string x.f0, .bool x.f1, .int .i64 x.f2] := by
 obtain ⟨_, _, rfl, rfl, ⟨_, _, rfl, rfl, rfl⟩⟩ := h
 exact rfl
theorem k_Host_mk (w : World) (x : S_Host)  : k_Host.K w x [.string x.f0, .bool x.f1, .int .i64 x.f2] := ⟨[.string x.f0], [.bool x.f1, .int .i64 x.f2], rfl, rfl, ⟨[.bool x.f1], [.int .i64 x.f2], rfl, rfl, rfl⟩⟩
theorem k_Host_mkM (w : World) (base : Nat) (ok : Nat → Prop) (x : S_Host)  : k_Host.M w base ok x [.string x.f0, .bool x.f1, .int .i64 x.f2] := ⟨[.string x.f0], [.bool x.f1, .int .i64 x.f2], rfl, rfl, ⟨[.bool x.f1], [.int .i64 x.f2], rfl, rfl, rfl⟩⟩
theorem k_Host_mkF (W : World) (ok : Nat → Prop) (x : S_Host) : Kd.FK k_Host W ok x [.string x.f0, .bool x.f1, .int .i64 x.f2] := fun W2 _ => k_Host_mk W2 x
def rd_THost (xs : List S_Host) (i : Int) : S_Host := xs.getD i.toNat z_Host
theorem at_THost {w : World} {A : Option Addr} {n : Nat} {xs : List S_Host} (h : Kd.C k_Host w A n xs) (i : Int) (h0 : 0 ≤ i) (h1 : i < n) : ∃ ad , A = some ad ∧ w.cell? (ad.add (i.toNat * 3)) = some (.string (rd_THost xs i).f0) ∧ w.cell? ⟨(ad.add (i.toNat * 3)).block, (ad.add (i.toNat * 3)).off + 1, none⟩ = some (.bool (rd_THost xs i).f1) ∧ w.cell? ⟨(ad.add (i.toNat * 3)).block, (ad.add (i.toNat * 3)).off + 2, none⟩ = some (.int .i64 (rd_THost xs i).f2) := by
 obtain ⟨ad, c, e, _, hK, hc0⟩ := Kd.C_get h z_Host i h0 h1
 have hc : ∀ j u, c[j]? = some u → w.cell? (ad.add (i.toNat * 3 + j)) = some u := hc0
 obtain rfl := k_Host_open hK
 exact ⟨ad, e, hc 0 _ rfl, by rw [← add_field _ _ 1 (by omega)]; exact hc 1 _ rfl, by rw [← add_field _ _ 2 (by omega)]; exact hc 2 _ rfl⟩

def rd_L9 (xs : List (List S_LHost)) (i : Int) : (List S_LHost) := xs.getD i.toNat ([] : List S_LHost)
theorem at_L9 {w : World} {A : Option Addr} {n : Nat} {xs : List (List S_LHost)} (h : Kd.C (Kd.slice 106 k_LHost) w A n xs) (i : Int) (h0 : 0 ≤ i) (h1 : i < n) : ∃ ad A0 c0, A = some ad ∧ w.cell? (ad.add i.toNat) = some (.slice A0 (rd_L9 xs i).length c0) ∧ (rd_L9 xs i).length ≤ c0 ∧ k_LHost.C w A0 (rd_L9 xs i).length (rd_L9 xs i) := by
 obtain ⟨ad, c, e, _, hK, hc0⟩ := Kd.C_get h ([] : List S_LHost) i h0 h1
 have hc : ∀ j u, c[j]? = some u → w.cell? (ad.add (i.toNat * 1 + j)) = some u := hc0
 obtain ⟨A0, c0, rfl, l0, g0⟩ := hK
 exact ⟨ad, A0, c0, e, by have hq := hc 0 _ rfl; rwa [Nat.mul_one, Nat.add_zero] at hq, l0, g0⟩

/-! #### struct type 24 -/
structure S24 where
 f0 : Int
 f1 : Int
 f2 : (List S_LHost)
def z24 : S24 := ⟨(0 : Int), (0 : Int), ([] : List S_LHost)⟩
def k24 : Kd S24 := Kd.iso (Kd.pair (Kd.int .i64) (Kd.pair (Kd.int .i64) (Kd.slice 106 k_LHost))) (fun x : S24 => (x.f0, x.f1, x.f2))
theorem k24_heap : Kd.Heap k24 := Kd.heap_iso _ (Kd.heap_pair (Kd.heap_int .i64) (Kd.heap_pair (Kd.heap_int .i64) (Kd.heap_slice 106 k_LHost_heap)))
theorem k24_open {w : World} {x : S24} {cs : List Value} (h : k24.K w x cs) : ∃ A2 c2, cs = [.int .i64 x.f0, .int .i64 x.f1, .slice A2 x.f2.length c2] ∧ x.f2.length ≤ c2 ∧ k_LHost.C w A2 x.f2.length x.f2 := by
 obtain ⟨_, _, rfl, rfl, ⟨_, _, rfl, rfl, ⟨A2, c2, rfl, l2, g2⟩⟩⟩ := h
 exact ⟨A2, c2, rfl, l2, g2⟩
theorem k24_openM {w : World} {base : Nat} {ok : Nat → Prop} {x : S24} {cs : List Value} (h : k24.M w base ok x cs) : ∃ v2, cs = [.int .i64 x.f0, .int .i64 x.f1, v2] ∧ k_LHost.R 106 w base ok v2 x.f2 := by
 obtain ⟨_, _, rfl, rfl, ⟨_, _, rfl, rfl, ⟨v2, rfl, g2⟩⟩⟩ := h
 exact ⟨v2, rfl, g2⟩
theorem k24_mk (w : World) (x : S24) {A2 : Option Addr} {c2 : Nat} (l2 : x.f2.length ≤ c2) (g2 : k_LHost.C w A2 x.f2.length x.f2) : k24.K w x [.int .i64 x.f0, .int .i64 x.f1, .slice A2 x.f2.length c2] := ⟨[.int .i64 x.f0], [.int .i64 x.f1, .slice A2 x.f2.length c2], rfl, rfl, ⟨[.int .i64 x.f1], [.slice A2 x.f2.length c2], rfl, rfl, ⟨A2, c2, rfl, l2, g2⟩⟩⟩
theorem k24_mkM (w : World) (base : Nat) (ok : Nat → Prop) (x : S24) {v2 : Value} (g2 : k_LHost.R 106 w base ok v2 x.f2) : k24.M w base ok x [.int .i64 x.f0, .int .i64 x.f1, v2] := ⟨[.int .i64 x.f0], [.int .i64 x.f1, v2], rfl, rfl, ⟨[.int .i64 x.f1], [v2], rfl, rfl, ⟨v2, rfl, g2⟩⟩⟩
theorem k24_openF {W : World} {ok : Nat → Prop} {x : S24} {cs : List Value} (h : Kd.FK k24 W ok x cs) : ∃ A2 c2, cs = [.int .i64 x.f0, .int .i64 x.f1, .slice A2 x.f2.length c2] ∧ x.f2.length ≤ c2 ∧ Kd.F k_LHost W ok A2 x.f2.length x.f2 := by
 obtain ⟨A2, c2, rfl, l2, _⟩ := k24_open (Kd.FK_now h)
 exact ⟨A2, c2, rfl, l2, (fun W' hW => by obtain ⟨A2_, c2_, he, l2_, g2_⟩ := k24_open (h W' hW); injection (Option.some.inj (show some (Value.slice A2 x.f2.length c2) = some (Value.slice A2_ x.f2.length c2_) from congrArg (fun l => l[2]?) he)) with ha_ _ _; rw [ha_]; exact g2_)⟩
theorem k24_mkF (W : World) (ok : Nat → Prop) (x : S24) {A2 : Option Addr} {c2 : Nat} (l2 : x.f2.length ≤ c2) (g2 : Kd.F k_LHost W ok A2 x.f2.length x.f2) : Kd.FK k24 W ok x [.int .i64 x.f0, .int .i64 x.f1, .slice A2 x.f2.length c2] := fun W2 hW => k24_mk W2 x l2 (g2 W2 hW)
def rd_T24 (xs : List S24) (i : Int) : S24 := xs.getD i.toNat z24
theorem at_T24 {w : World} {A : Option Addr} {n : Nat} {xs : List S24} (h : Kd.C k24 w A n xs) (i : Int) (h0 : 0 ≤ i) (h1 : i < n) : ∃ ad A2 c2, A = some ad ∧ w.cell? (ad.add (i.toNat * 3)) = some (.int .i64 (rd_T24 xs i).f0) ∧ w.cell? ⟨(ad.add (i.toNat * 3)).block, (ad.add (i.toNat * 3)).off + 1, none⟩ = some (.int .i64 (rd_T24 xs i).f1) ∧ w.cell? ⟨(ad.add (i.toNat * 3)).block, (ad.add (i.toNat * 3)).off + 2, none⟩ = some (.slice A2 (rd_T24 xs i).f2.length c2) ∧ (rd_T24 xs i).f2.length ≤ c2 ∧ k_LHost.C w A2 (rd_T24 xs i).f2.length (rd_T24 xs i).f2 := by
 obtain ⟨ad, c, e, _, hK, hc0⟩ := Kd.C_get h z24 i h0 h1
 have hc : ∀ j u, c[j]? = some u → w.cell? (ad.add (i.toNat * 3 + j)) = some u := hc0
 obtain ⟨A2, c2, rfl, l2, g2⟩ := k24_open hK
 exact ⟨ad, A2, c2, e, hc 0 _ rfl, by rw [← add_field _ _ 1 (by omega)]; exact hc 1 _ rfl, by rw [← add_field _ _ 2 (by omega)]; exact hc 2 _ rfl, l2, g2⟩

def WF_LGap (x : S_LGap) : Prop := (x.f0.size ≤ maxLen) ∧ (x.f1.size ≤ maxLen) ∧ x.f2.length ≤ maxLen ∧ ∀ x_ ∈ x.f2, (Lit.int .i64 x_).wf = true
def WF_LHost (x : S_LHost) : Prop := (x.f0.size ≤ maxLen) ∧ (True) ∧ (Lit.int .i64 x.f2).wf = true
def WF24 (x : S24) : Prop := ((Lit.int .i64 x.f0).wf = true) ∧ ((Lit.int .i64 x.f1).wf = true) ∧ x.f2.length ≤ maxLen ∧ ∀ x_ ∈ x.f2, WF_LHost x_
end
section
/-! ### laws_szIntS: function 64 -/
def laws_szIntS.f (l0 : List Int) (a1 : Int) : Option (Int) := if (wrap64 (a1 - (l0.length : Int))) < 0 then (some (-1)) else (some (wrap64 (a1 - (l0.length : Int))))
theorem laws_szIntS.calls (A0 : Option Addr) (c0 : Nat) (l0 : List Int) (a1 : Int) (r : Int) (w : World) (hr0 : Kd.C (Kd.int .i64) w A0 l0.length l0) (hc0 : l0.length ≤ c0) (h : laws_szIntS.f l0 a1 = some r) :
  Calls Tryd.prog 64 #[.slice A0 l0.length c0, .int .i64 a1] w fun e w' => e = .returned (.int .i64 r) ∧ Drawn0 w w' := by
 have HR0 := Aside0.mk hr0
 have HC0 := Aside0.mk hc0
 clear hr0 hc0
 have H : (if (wrap64 (a1 - (l0.length : Int))) < 0 then (some (-1)) else (some (wrap64 (a1 - (l0.length : Int))))) = some r := h
 clear h
 by_cases c3 : (wrap64 (a1 - (l0.length : Int))) < 0
 ·rw [if_pos c3] at H
  have c3b0 : decide ((wrap64 (a1 - (l0.length : Int))) < 0) = true := decide_eq_true c3
  clear c3
  obtain rfl := Option.some.inj H
  go_enter Tryd.func64, Tryd.ntmps64
  go_wp2
  go_ret
  exact ⟨TF, TN⟩
 ·rw [if_neg c3] at H
  have c3b0 : decide ((wrap64 (a1 - (l0.length : Int))) < 0) = false := decide_eq_false c3
  clear c3
  obtain rfl := Option.some.inj H
  go_enter Tryd.func64, Tryd.ntmps64
  go_wp2
  go_ret
  exact ⟨TF, TN⟩
end
section
/-! ### laws_szGap: function 22 -/
def laws_szGap.f (a0_0 : ByteArray) (a0_1 : ByteArray) (l0_2 : List Int) (a1 : Int) : Option (Int) := if (wrap64 (a1 - (a0_0.size : Int))) < 0 then (some (-1)) else (if (wrap64 ((wrap64 (a1 - (a0_0.size : Int))) - (a0_1.size : Int))) < 0 then (some (-1)) else ((laws_szIntS.f l0_2 (wrap64 ((wrap64 (a1 - (a0_0.size : Int))) - (a0_1.size : Int)))).bind fun t102 => (if t102 < 0 then (some (-1)) else (some t102))))
theorem laws_szGap.calls (a0_0 : ByteArray) (a0_1 : ByteArray) (A0_2 : Option Addr) (c0_2 : Nat) (l0_2 : List Int) (a1 : Int) (r : Int) (w : World) (hr0_2 : Kd.C (Kd.int .i64) w A0_2 l0_2.length l0_2) (hc0_2 : l0_2.length ≤ c0_2) (h : laws_szGap.f a0_0 a0_1 l0_2 a1 = some r) :
  Calls Tryd.prog 22 #[.agg #[.string a0_0, .string a0_1, .slice A0_2 l0_2.length c0_2], .int .i64 a1] w fun e w' => e = .returned (.int .i64 r) ∧ Below w.heap.size w w' := by
 have hu41 := Tryd.underlying41
 have HR0_2 := Aside0.mk hr0_2
 have HC0_2 := Aside0.mk hc0_2
 clear hr0_2 hc0_2
 have HB := Aside0.mk (Below.refl w.heap.size w)
 have H : (if (wrap64 (a1 - (a0_0.size : Int))) < 0 then (some (-1)) else (if (wrap64 ((wrap64 (a1 - (a0_0.size : Int))) - (a0_1.size : Int))) < 0 then (some (-1)) else ((laws_szIntS.f l0_2 (wrap64 ((wrap64 (a1 - (a0_0.size : Int))) - (a0_1.size : Int)))).bind fun t102 => (if t102 < 0 then (some (-1)) else (some t102))))) = some r := h
 clear h
 by_cases c3 : (wrap64 (a1 - (a0_0.size : Int))) < 0
 ·rw [if_pos c3] at H
  have c3b0 : decide ((wrap64 (a1 - (a0_0.size : Int))) < 0) = true := decide_eq_true c3
  clear c3
  obtain rfl := Option.some.inj H
  go_enter Tryd.func22, Tryd.ntmps22
  go_wp2_with (first | ((with_reducible refine gate_dst (N := 2) rfl ?_); refine bE 2 #[.string a0_0, .string a0_1, .slice A0_2 l0_2.length c0_2] 41 ?_; intro gb101 hg w4 hbox hb; have BK101 := Aside0.mk (hbox); have GE101 := bG hg; replace HB := BS hb; clear hb hbox hg; have hcz5 := cz3 BK101))
  go_ret
  exact ⟨TE, TB⟩
 ·rw [if_neg c3] at H
  have c3b0 : decide ((wrap64 (a1 - (a0_0.size : Int))) < 0) = false := decide_eq_false c3
  clear c3
  by_cases c6 : (wrap64 ((wrap64 (a1 - (a0_0.size : Int))) - (a0_1.size : Int))) < 0
  ·rw [if_pos c6] at H
   have c6b0 : decide ((wrap64 ((wrap64 (a1 - (a0_0.size : Int))) - (a0_1.size : Int))) < 0) = true := decide_eq_true c6
   clear c6
   obtain rfl := Option.some.inj H
   go_enter Tryd.func22, Tryd.ntmps22
   go_wp2_with (first | ((with_reducible refine gate_dst (N := 2) rfl ?_); refine bE 2 #[.string a0_0, .string a0_1, .slice A0_2 l0_2.length c0_2] 41 ?_; intro gb101 hg w7 hbox hb; have BK101 := Aside0.mk (hbox); have GE101 := bG hg; replace HB := BS hb; clear hb hbox hg; have hcz8 := cz3 BK101))
   go_ret
   exact ⟨TE, TB⟩
  ·rw [if_neg c6] at H
   have c6b0 : decide ((wrap64 ((wrap64 (a1 - (a0_0.size : Int))) - (a0_1.size : Int))) < 0) = false := decide_eq_false c6
   clear c6
   obtain ⟨t102, A9, H⟩ := bnd H
   by_cases c10 : t102 < 0
   ·rw [if_pos c10] at H
    have c10b0 : decide (t102 < 0) = true := decide_eq_true c10
    clear c10
    obtain rfl := Option.some.inj H
    go_enter Tryd.func22, Tryd.ntmps22
    go_wp2_with (first | ((with_reducible refine gate_dst (N := 2) rfl ?_); refine bE 2 #[.string a0_0, .string a0_1, .slice A0_2 l0_2.length c0_2] 41 ?_; intro gb101 hg w11 hbox hb; have BK101 := Aside0.mk (hbox); have GE101 := bG hg; replace HB := BS hb; clear hb hbox hg; have hcz12 := cz3 BK101) | ((with_reducible refine gate_callee (f := 64) rfl ?_); refine goesL_ (some 22) rfl rfl Tryd.func64 KR rfl #[.slice A0_2 l0_2.length c0_2, .int .i64 (wrap64 ((wrap64 (a1 - (a0_0.size : Int))) - (a0_1.size : Int)))] rfl TA ?_; (with_reducible refine (laws_szIntS.calls _ _ l0_2 (wrap64 ((wrap64 (a1 - (a0_0.size : Int))) - (a0_1.size : Int))) t102 _ ?side1 ?side2 A9.out).mono ?_); (case side1 => exact CW ((Kd.C_below HR0_2.out HB.out))); (case side2 => exact HC0_2.out); rintro e w' ⟨rfl, ⟨nd, rfl⟩⟩; refine ⟨_, rfl, ?_⟩))
    go_ret
    exact ⟨TE, TB⟩
   ·rw [if_neg c10] at H
    have c10b0 : decide (t102 < 0) = false := decide_eq_false c10
    clear c10
    obtain rfl := Option.some.inj H
    go_enter Tryd.func22, Tryd.ntmps22
    go_wp2_with (first | ((with_reducible refine gate_dst (N := 2) rfl ?_); refine bE 2 #[.string a0_0, .string a0_1, .slice A0_2 l0_2.length c0_2] 41 ?_; intro gb101 hg w13 hbox hb; have BK101 := Aside0.mk (hbox); have GE101 := bG hg; replace HB := BS hb; clear hb hbox hg; have hcz14 := cz3 BK101) | ((with_reducible refine gate_callee (f := 64) rfl ?_); refine goesL_ (some 22) rfl rfl Tryd.func64 KR rfl #[.slice A0_2 l0_2.length c0_2, .int .i64 (wrap64 ((wrap64 (a1 - (a0_0.size : Int))) - (a0_1.size : Int)))] rfl TA ?_; (with_reducible refine (laws_szIntS.calls _ _ l0_2 (wrap64 ((wrap64 (a1 - (a0_0.size : Int))) - (a0_1.size : Int))) t102 _ ?side1 ?side2 A9.out).mono ?_); (case side1 => exact CW ((Kd.C_below HR0_2.out HB.out))); (case side2 => exact HC0_2.out); rintro e w' ⟨rfl, ⟨nd, rfl⟩⟩; refine ⟨_, rfl, ?_⟩))
    go_ret
    exact ⟨TE, TB⟩
end
section
/-! ### laws_szGapS: function 38 -/
def laws_szGapS.l0 : Nat → List (S_LGap) → Int → Int → Option (Int)
 | 0, _, _, _ => none
 | k + 1, x0, x1, x5 => if x5 < (x0.length : Int) then (if 0 ≤ x5 then ((laws_szGap.f ((rd_TLGap x0 x5).f0) ((rd_TLGap x0 x5).f1) ((rd_TLGap x0 x5).f2) x1).bind fun t104 => (if t104 < 0 then (some (-1)) else (laws_szGapS.l0 k x0 t104 (wrap64 (x5 + 1))))) else (none)) else (some x1)
def laws_szGapS.f (k : Nat) (l0 : List (S_LGap)) (a1 : Int) : Option (Int) := if (wrap64 (a1 - (l0.length : Int))) < 0 then (some (-1)) else (laws_szGapS.l0 k l0 (wrap64 (a1 - (l0.length : Int))) 0)
theorem laws_szGapS.calls (k : Nat) (A0 : Option Addr) (c0 : Nat) (l0 : List (S_LGap)) (a1 : Int) (r : Int) (w : World) (hr0 : Kd.C k_LGap w A0 l0.length l0) (hc0 : l0.length ≤ c0) (h : laws_szGapS.f k l0 a1 = some r) :
  Calls Tryd.prog 38 #[.slice A0 l0.length c0, .int .i64 a1] w fun e w' => e = .returned (.int .i64 r) ∧ Below w.heap.size w w' := by
 have hu41 := Tryd.underlying41
 have HR0 := Aside0.mk hr0
 have HC0 := Aside0.mk hc0
 clear hr0 hc0
 have HB := Aside0.mk (Below.refl w.heap.size w)
 have H : (if (wrap64 (a1 - (l0.length : Int))) < 0 then (some (-1)) else (laws_szGapS.l0 k l0 (wrap64 (a1 - (l0.length : Int))) 0)) = some r := h
 clear h
 by_cases c3 : (wrap64 (a1 - (l0.length : Int))) < 0
 ·rw [if_pos c3] at H
  have c3b0 : decide ((wrap64 (a1 - (l0.length : Int))) < 0) = true := decide_eq_true c3
  clear c3
  obtain rfl := Option.some.inj H
  go_enter Tryd.func38, Tryd.ntmps38
  go_wp2
  go_ret
  exact ⟨TE, TB⟩
 ·rw [if_neg c3] at H
  have c3b0 : decide ((wrap64 (a1 - (l0.length : Int))) < 0) = false := decide_eq_false c3
  clear c3
  have H' := Aside0.mk H
  clear H
  go_enter Tryd.func38, Tryd.ntmps38
  go_wp2
  go_loopg [1, 5] k (fun kq v1 v5 w' => ∃ (x1_1 : Int) (x5_1 : Int), v1 = .int .i64 x1_1 ∧ v5 = .int .i64 x5_1 ∧ Aside0 (laws_szGapS.l0 kq l0 x1_1 x5_1 = some r) ∧ Aside0 (kq ≤ k) ∧ Aside0 (Below w.heap.size w w'))
  case atStart => exact ⟨(wrap64 (a1 - (l0.length : Int))), (0), TF, TF, H', ⟨Nat.le_refl _⟩, ⟨TB⟩⟩
  case round =>
   clear H'
   obtain ⟨x1_1, x5_1, rfl, rfl, HA, HK1, HB⟩ := hrel
   cases gk with
   | zero => exact absurd HA.out (by simp [laws_szGapS.l0])
   | succ k1 =>
    have H := HA.out
    clear HA
    simp only [laws_szGapS.l0] at H
    by_cases c4 : x5_1 < (l0.length : Int)
    ·rw [if_pos c4] at H
     have c4b0 : decide (x5_1 < (l0.length : Int)) = true := decide_eq_true c4
     clear c4
     obtain ⟨c5, H⟩ := ifn H
     have c5b0 : decide (0 ≤ x5_1) = true := decide_eq_true c5
     clear c5
     obtain ⟨t104, A6, H⟩ := bnd H
     by_cases c7 : t104 < 0
     ·rw [if_pos c7] at H
      have c7b0 : decide (t104 < 0) = true := decide_eq_true c7
      clear c7
      obtain rfl := Option.some.inj H
      have p103 : 0 ≤ (x5_1 : Int) := TD
      have q103 : x5_1 < (l0.length : Int) := TD
      obtain ⟨ad103, A103_2, c103_2, e103, hx103_0, hx103_1, hx103_2, hl103_2, hi103_2⟩ := at_TLGap HR0.out x5_1 p103 q103
      cases e103
      replace hx103_0 := hBc HB hx103_0
      replace hx103_1 := hBc HB hx103_1
      replace hx103_2 := hBc HB hx103_2
      have HR103_2 := Aside0.mk hi103_2
      have HC103_2 := Aside0.mk hl103_2
      clear hi103_2 hl103_2
      replace p103 := eq_true p103
      replace q103 := eq_true q103
      go_wp2_with (first | ((with_reducible refine gate_callee (f := 22) rfl ?_); refine goesL_ (some 23) rfl rfl Tryd.func22 KR rfl #[.agg #[.string ((rd_TLGap l0 x5_1).f0), .string ((rd_TLGap l0 x5_1).f1), .slice A103_2 ((rd_TLGap l0 x5_1).f2).length c103_2], .int .i64 x1_1] rfl TA ?_; (with_reducible refine (laws_szGap.calls ((rd_TLGap l0 x5_1).f0) ((rd_TLGap l0 x5_1).f1) _ _ ((rd_TLGap l0 x5_1).f2) x1_1 t104 _ ?side1 ?side2 A6.out).mono ?_); (case side1 => exact CW ((Kd.C_below HR103_2.out HB.out))); (case side2 => exact HC103_2.out); rintro e w8 ⟨rfl, hb⟩; refine ⟨_, rfl, ?_⟩; replace HB := BS hb; clear hb))
      go_ret
      exact ⟨TE, TB⟩
     ·rw [if_neg c7] at H
      have c7b0 : decide (t104 < 0) = false := decide_eq_false c7
      clear c7
      have H' := Aside0.mk H
      clear H
      have p103 : 0 ≤ (x5_1 : Int) := TD
      have q103 : x5_1 < (l0.length : Int) := TD
      obtain ⟨ad103, A103_2, c103_2, e103, hx103_0, hx103_1, hx103_2, hl103_2, hi103_2⟩ := at_TLGap HR0.out x5_1 p103 q103
      cases e103
      replace hx103_0 := hBc HB hx103_0
      replace hx103_1 := hBc HB hx103_1
      replace hx103_2 := hBc HB hx103_2
      have HR103_2 := Aside0.mk hi103_2
      have HC103_2 := Aside0.mk hl103_2
      clear hi103_2 hl103_2
      replace p103 := eq_true p103
      replace q103 := eq_true q103
      go_wp2_with (first | ((with_reducible refine gate_callee (f := 22) rfl ?_); refine goesL_ (some 23) rfl rfl Tryd.func22 KR rfl #[.agg #[.string ((rd_TLGap l0 x5_1).f0), .string ((rd_TLGap l0 x5_1).f1), .slice A103_2 ((rd_TLGap l0 x5_1).f2).length c103_2], .int .i64 x1_1] rfl TA ?_; (with_reducible refine (laws_szGap.calls ((rd_TLGap l0 x5_1).f0) ((rd_TLGap l0 x5_1).f1) _ _ ((rd_TLGap l0 x5_1).f2) x1_1 t104 _ ?side1 ?side2 A6.out).mono ?_); (case side1 => exact CW ((Kd.C_below HR103_2.out HB.out))); (case side2 => exact HC103_2.out); rintro e w9 ⟨rfl, hb⟩; refine ⟨_, rfl, ?_⟩; replace HB := BS hb; clear hb))
      go_roundg k1
      case measure => have := HK1.out; omega
      case rel => exact ⟨(t104), (wrap64 (x5_1 + 1)), TF, TF, H', ⟨TM⟩, ⟨TB⟩⟩
    ·rw [if_neg c4] at H
     have c4b0 : decide (x5_1 < (l0.length : Int)) = false := decide_eq_false c4
     clear c4
     obtain rfl := Option.some.inj H
     go_wp2
     go_ret
     exact ⟨TE, TB⟩
end
section
/-! ### laws_toIntS: function 67 -/
def laws_toIntS.l0 : Nat → List Int → List Int → Int → Option (List Int)
 | 0, _, _, _ => none
 | k + 1, x0, x3, x4 => if x4 < (x0.length : Int) then (if 0 ≤ x4 then (if x4 < (x3.length : Int) then (laws_toIntS.l0 k x0 (x3.set (x4 : Int).toNat (rd x0 x4)) (wrap64 (x4 + 1))) else (none)) else (none)) else (some x3)
def laws_toIntS.f (k : Nat) (l0 : List Int) : Option (List Int) := if 0 ≤ (l0.length : Int) then (if ((l0.length : Int) : Int).toNat ≤ 35184372088832 then (laws_toIntS.l0 k l0 (List.replicate ((l0.length : Int) : Int).toNat 0) 0) else (none)) else (none)
theorem laws_toIntS.calls (k : Nat) (A0 : Option Addr) (c0 : Nat) (l0 : List Int) (r : List Int) (w : World) (hr0 : Kd.C (Kd.int .i64) w A0 l0.length l0) (hc0 : l0.length ≤ c0) (h : laws_toIntS.f k l0 = some r) :
  Calls Tryd.prog 67 #[.slice A0 l0.length c0] w fun e w' => ∃ v0_ : Value, e = .returned (v0_) ∧ Kd.R (Kd.int .i64) 3 w' w.heap.size (fun _ => True) v0_ r ∧ Below w.heap.size w w' := by
 have HR0 := Aside0.mk hr0
 have HC0 := Aside0.mk hc0
 clear hr0 hc0
 have HB := Aside0.mk (Below.refl w.heap.size w)
 have H : (if 0 ≤ (l0.length : Int) then (if ((l0.length : Int) : Int).toNat ≤ 35184372088832 then (laws_toIntS.l0 k l0 (List.replicate ((l0.length : Int) : Int).toNat 0) 0) else (none)) else (none)) = some r := h
 clear h
 obtain ⟨c2, H⟩ := ifn H
 have c2b0 := eq_true c2
 have c2b1 : decide (0 ≤ (l0.length : Int)) = true := decide_eq_true c2
 clear c2
 obtain ⟨c3, H⟩ := ifn H
 have c3b0 := eq_true c3
 have c3b1 : decide (((l0.length : Int) : Int).toNat ≤ 35184372088832) = true := decide_eq_true c3
 clear c3
 obtain ⟨y105, hy105⟩ : ∃ y_ : List Int, y_ = (List.replicate ((l0.length : Int) : Int).toNat 0) := ⟨_, rfl⟩
 replace H : (laws_toIntS.l0 k l0 y105 0) = some r := by first | (rw [hy105]; with_reducible exact H) | (have H2_ := (Option.bind_some _ _).symm.trans H; rw [hy105]; with_reducible exact H2_) | (have H2_ := (Option.bind_some _ _).symm.trans H; with_reducible exact H2_) | with_reducible exact H | (rw [hy105]; exact H) | exact H
 have Ny105 := Aside0.mk hy105
 clear hy105
 have H' := Aside0.mk H
 clear H
 go_enter Tryd.func67, Tryd.ntmps67
 go_wp2_with (first | ((with_reducible refine gate_dst (N := 7) rfl ?_); refine Kd.R_make (Kd.int .i64) _ 3 rfl (N := 7) rfl 39 _ _ rfl (l0.length : Int) rfl rfl Tryd.underlying39 (.int .i64 0) 8 info3 rfl (by decide) (by omega) 0 (ok := fun _ => True) (okp := fun _ => True) rfl (fun _ hk => hk) trivial TD (Nat.le_trans (Nat.mul_le_mul_right _ (TD : (l0.length : Int).toNat ≤ 35184372088832)) (by omega)) (Below.refl _ _) (Nat.le_refl _) ?_; intro v106 w4 ho5 hb hg_ hnew_; clear hg_ hnew_; (first | rw [← Ny105.out] at ho5 | (simp only [Int.reduceToNat] at ho5; rw [← Ny105.out] at ho5)); have HO107 := RL ho5; replace HB := BS hb; clear hb ho5))
 go_loopg [4] k (fun kq v4 w' => ∃ (x3_1 : List Int) (x4_1 : Int), v4 = .int .i64 x4_1 ∧ Aside0 (laws_toIntS.l0 kq l0 x3_1 x4_1 = some r) ∧ Aside0 (kq ≤ k) ∧ Aside0 (Kd.R (Kd.int .i64) 3 w' w.heap.size (fun _ => True) v106 x3_1) ∧ Aside0 (Below w.heap.size w w'))
 case atStart => exact ⟨(y105), (0), TF, H', ⟨Nat.le_refl _⟩, RW HO107, ⟨TB⟩⟩
 case round =>
  clear H'
  obtain ⟨x3_1, x4_1, rfl, HA, HK1, HO_3, HB⟩ := hrel
  cases gk with
  | zero => exact absurd HA.out (by simp [laws_toIntS.l0])
  | succ k1 =>
   have H := HA.out
   clear HA
   simp only [laws_toIntS.l0] at H
   by_cases c6 : x4_1 < (l0.length : Int)
   ·rw [if_pos c6] at H
    have c6b0 : decide (x4_1 < (l0.length : Int)) = true := decide_eq_true c6
    clear c6
    obtain ⟨c7, H⟩ := ifn H
    have c7b0 : decide (0 ≤ x4_1) = true := decide_eq_true c7
    clear c7
    obtain ⟨c8, H⟩ := ifn H
    have c8b0 : decide (x4_1 < (x3_1.length : Int)) = true := decide_eq_true c8
    clear c8
    obtain ⟨y109, hy109⟩ : ∃ y_ : List Int, y_ = (x3_1.set (x4_1 : Int).toNat (rd l0 x4_1)) := ⟨_, rfl⟩
    replace H : (laws_toIntS.l0 k1 l0 y109 (wrap64 (x4_1 + 1))) = some r := by first | (rw [hy109]; with_reducible exact H) | (have H2_ := (Option.bind_some _ _).symm.trans H; rw [hy109]; with_reducible exact H2_) | (have H2_ := (Option.bind_some _ _).symm.trans H; with_reducible exact H2_) | with_reducible exact H | (rw [hy109]; exact H) | exact H
    have Ny109 := Aside0.mk hy109
    clear hy109
    have H' := Aside0.mk H
    clear H
    have p108 : 0 ≤ (x4_1 : Int) := TD
    have q108 : x4_1 < (l0.length : Int) := TD
    obtain ⟨ad108, e108, hx108_0⟩ := Kd.at_int (Kd.C_below HR0.out HB.out) x4_1 p108 q108
    cases e108
    replace p108 := eq_true p108
    replace q108 := eq_true q108
    have p9 : 0 ≤ (x4_1 : Int) := TD
    have q9 : (x4_1 : Int) < ((x3_1.length : Int) : Int) := TD
    obtain ⟨go9, co9, eo9, gb9, gl9, cl9, HG9⟩ := Kd.R_form HO_3.out (by omega)
    (first | cases eo9 | (injection eo9 with ea_ en_ ec_; (first | subst ea_ | (injection ea_ with ea_; subst ea_)); subst ec_; clear en_))
    have GB9 := Aside0.mk gb9
    have GG9 := Aside0.mk HG9
    clear gb9 gl9 HG9
    obtain ⟨hx9_0, hf9_0⟩ := Kd.R_celln 0 HO_3.out (x4_1 : Int) p9 q9
    replace p9 := eq_true p9
    replace q9 := eq_true q9
    have HP10 := Kd.R_putg HO_3.out (x4_1 : Int) (rd l0 x4_1)
    go_wp2_with (first | ((with_reducible refine gate_store (t := 3) (p := 20) rfl ?_); refine store_event (t := 3) (p := 20) (v := ?vo_w11) (w1 := (wr.setCell ⟨go9, (x4_1 : Int).toNat, none⟩ (.int .i64 (rd l0 x4_1)))) ?hg ?ho ?hn ?hr ?_; (case ho => rfl); (case hg => rfl); (case hn => rfl); (case hr => first | (go_simp; done) | (go_simp; rfl)); intro w11 hw; have hg : wr.grownBy w11 (some go9) := (by rw [hw]; exact HP10.2); have hp_ : Kd.R (Kd.int .i64) 3 w11 w.heap.size (fun _ => True) (.slice (some ⟨go9, 0, none⟩) x3_1.length co9) y109 := (by rw [hw, Ny109.out]; exact HP10.1); clear HP10; replace HO_3 := Aside0.mk (hp_); replace HB := Aside0.mk ((by rw [hw]; exact below_set (HB.out) GB9.out : Below w.heap.size w w11)); clear hg hw hp_))
    go_roundg k1
    case measure => have := HK1.out; omega
    case rel => exact ⟨(y109), (wrap64 (x4_1 + 1)), TF, H', ⟨TM⟩, RW HO_3, ⟨TB⟩⟩
   ·rw [if_neg c6] at H
    have c6b0 : decide (x4_1 < (l0.length : Int)) = false := decide_eq_false c6
    clear c6
    obtain rfl := Option.some.inj H
    go_wp2
    go_ret
    exact ⟨_, TE, (RW HO_3).out, TB⟩
end
section
/-! ### laws_toGap: function 24 -/
def laws_toGap.f (k : Nat) (a0_0 : ByteArray) (a0_1 : ByteArray) (l0_2 : List Int) : Option (ByteArray × ByteArray × List Int) := (laws_toIntS.f k l0_2).bind fun t113 => (some (a0_0, a0_1, t113))
theorem laws_toGap.calls (k : Nat) (a0_0 : ByteArray) (a0_1 : ByteArray) (A0_2 : Option Addr) (c0_2 : Nat) (l0_2 : List Int) (r1 : ByteArray) (r2 : ByteArray) (r3 : List Int) (w : World) (hr0_2 : Kd.C (Kd.int .i64) w A0_2 l0_2.length l0_2) (hc0_2 : l0_2.length ≤ c0_2) (h : laws_toGap.f k a0_0 a0_1 l0_2 = some (r1, r2, r3)) :
  Calls Tryd.prog 24 #[.agg #[.string a0_0, .string a0_1, .slice A0_2 l0_2.length c0_2]] w fun e w' => ∃ v2_ : Value, e = .returned (.agg #[.string r1, .string r2, v2_]) ∧ Kd.R (Kd.int .i64) 3 w' w.heap.size (fun _ => True) v2_ r3 ∧ Below w.heap.size w w' := by
 have hu41 := Tryd.underlying41
 have hu44 := Tryd.underlying44
 have HR0_2 := Aside0.mk hr0_2
 have HC0_2 := Aside0.mk hc0_2
 clear hr0_2 hc0_2
 have HB := Aside0.mk (Below.refl w.heap.size w)
 have H : ((laws_toIntS.f k l0_2).bind fun t113 => (some (a0_0, a0_1, t113))) = some (r1, r2, r3) := h
 clear h
 obtain ⟨t113, A2, H⟩ := bnd H
 simp only [Option.some.injEq, Prod.mk.injEq] at H
 obtain ⟨rfl, rfl, rfl⟩ := H
 go_enter Tryd.func24, Tryd.ntmps24
 go_wp2_with (first | ((with_reducible refine gate_dst (N := 1) rfl ?_); refine bE 1 #[.string a0_0, .string a0_1, .slice A0_2 l0_2.length c0_2] 41 ?_; intro gb110 hg w3 hbox hb; have BK110 := Aside0.mk (hbox); have GE110 := bG hg; replace HB := BS hb; clear hb hbox hg) | ((with_reducible refine gate_dst (N := 2) rfl ?_); refine bE 2 #[.string (⟨#[]⟩ : ByteArray), .string (⟨#[]⟩ : ByteArray), .slice none 0 0] 44 ?_; intro gb111 hg w4 hbox hb; have BK111 := Aside0.mk (hbox); have GE111 := bG hg; replace HB := BS hb; have NB110_111 := bN BK110 hg; have NB111_110 := bM BK110 hg; replace BK110 := KB BK110 hb; clear hb hbox hg) | ((with_reducible refine gate_dst (N := 3) rfl ?_); refine bE 3 #[.string (⟨#[]⟩ : ByteArray), .string (⟨#[]⟩ : ByteArray), .slice none 0 0] 44 ?_; intro gb112 hg w5 hbox hb; have BK112 := Aside0.mk (hbox); have GE112 := bG hg; replace HB := BS hb; have NB110_112 := bN BK110 hg; have NB112_110 := bM BK110 hg; replace BK110 := KB BK110 hb; have NB111_112 := bN BK111 hg; have NB112_111 := bM BK111 hg; replace BK111 := KB BK111 hb; clear hb hbox hg; obtain ⟨hnb6, hnc6⟩ := nn NB110_111; obtain ⟨hnb7, hnc7⟩ := nn NB110_112; have hcz8 := cz3 BK110; obtain ⟨hnb9, hnc9⟩ := nn NB112_111; have hcz10 := cz3 BK112) | ((with_reducible refine gate_callee (f := 67) rfl ?_); refine goesL_ (some 12) rfl rfl Tryd.func67 KR rfl #[.slice A0_2 l0_2.length c0_2] rfl TA ?_; (with_reducible refine (laws_toIntS.calls k _ _ l0_2 t113 _ ?side1 ?side2 A2.out).mono ?_); (case side1 => exact Kd.C_below HR0_2.out TB); (case side2 => exact HC0_2.out); rintro e w11 ⟨v114, rfl, ho0, hb⟩; refine ⟨_, rfl, ?_⟩; have HO115 := RL ho0; replace BK110 := KF BK110 hb; replace BK111 := KF BK111 hb; replace BK112 := KP BK112 #[.string a0_0, .string a0_1, .slice none 0 0] hb; replace HB := BS hb; clear hb; (try clear ho0); obtain ⟨Ao12, co12, eo12⟩ := Kd.R_slice HO115.out; subst eo12; have hcz13 := cz3 BK112; have hcz14 := cz3 BK111))
 refine bodyPost_ret (results_cell_row rfl _ _ gb111 44 #[.string a0_0, .string a0_1, .slice Ao12 t113.length co12] (0, 0) _ rfl (by (with_reducible repeat (first | refine blk_drewN ?_ _ | refine blk_drew ?_ | refine blk_alloc ?_ _)); refine blk_put (cs := #[.string a0_0, .string a0_1, .slice none 0 0]) ?_ 2 _ rfl; (with_reducible repeat (first | refine blk_drewN ?_ _ | refine blk_drew ?_ | refine blk_alloc ?_ _)); refine blk_put (cs := #[.string a0_0, .string (⟨#[]⟩ : ByteArray), .slice none 0 0]) ?_ 1 _ rfl; (with_reducible repeat (first | refine blk_drewN ?_ _ | refine blk_drew ?_ | refine blk_alloc ?_ _)); refine blk_put (cs := #[.string (⟨#[]⟩ : ByteArray), .string (⟨#[]⟩ : ByteArray), .slice none 0 0]) ?_ 0 _ rfl; (with_reducible repeat (first | refine blk_drewN ?_ _ | refine blk_drew ?_ | refine blk_alloc ?_ _)); refine blk_far ?_ NB111_112.out _; (with_reducible repeat (first | refine blk_drewN ?_ _ | refine blk_drew ?_ | refine blk_alloc ?_ _)); exact BK111.out) Tryd.underlying44 rfl KR) rfl ?_
 exact ⟨_, TE, by (with_reducible repeat (first | apply Kd.R_alloc | apply Kd.R_drewN | apply Kd.R_drew)); exact Kd.R_mono (Kd.R_far (p := ⟨gb111, 2, none⟩) (Kd.R_far (p := ⟨gb111, 1, none⟩) (Kd.R_far (p := ⟨gb111, 0, none⟩) (Kd.R_far (p := ⟨gb112, 2, none⟩) (Kd.R_types (Kd.R_types HO115.out BK112.out (by decide)) BK111.out (by decide)) (fun _ hk => hk.1.2) (.slice Ao12 t113.length co12)) (fun _ hk => hk.2) (.string a0_0)) (fun _ hk => hk.2) (.string a0_1)) (fun _ hk => hk.2) (.slice Ao12 t113.length co12)) (fun _ hk => trivial), TB⟩
end
section
/-! ### laws_toGapS: function 40 -/
def laws_toGapS.l0 : Nat → List (S_LGap) → List (S_Gap) → Int → Option ((List (S_Gap)))
 | 0, _, _, _ => none
 | k + 1, x0, x3, x4 => if x4 < (x0.length : Int) then (if 0 ≤ x4 then ((laws_toGap.f k ((rd_TLGap x0 x4).f0) ((rd_TLGap x0 x4).f1) ((rd_TLGap x0 x4).f2)).bind fun bt120 => (if x4 < (x3.length : Int) then (laws_toGapS.l0 k x0 (x3.set (x4 : Int).toNat (⟨bt120.1, bt120.2.1, bt120.2.2⟩ : S_Gap)) (wrap64 (x4 + 1))) else (none))) else (none)) else (some x3)
def laws_toGapS.f (k : Nat) (l0 : List (S_LGap)) : Option ((List (S_Gap))) := if 0 ≤ (l0.length : Int) then (if ((l0.length : Int) : Int).toNat ≤ 5026338869833 then (laws_toGapS.l0 k l0 (List.replicate ((l0.length : Int) : Int).toNat z_Gap) 0) else (none)) else (none)
theorem laws_toGapS.calls (k : Nat) (A0 : Option Addr) (c0 : Nat) (l0 : List (S_LGap)) (r : List (S_Gap)) (w : World) (hr0 : Kd.C k_LGap w A0 l0.length l0) (hc0 : l0.length ≤ c0) (h : laws_toGapS.f k l0 = some r) :
  Calls Tryd.prog 40 #[.slice A0 l0.length c0] w fun e w' => ∃ v0_ : Value, e = .returned (v0_) ∧ Kd.S k_Gap 44 w' w.heap.size (fun _ => True) v0_ r ∧ Below w.heap.size w w' := by
 have hu41 := Tryd.underlying41
 have hu44 := Tryd.underlying44
 have HR0 := Aside0.mk hr0
 have HC0 := Aside0.mk hc0
 clear hr0 hc0
 have HB := Aside0.mk (Below.refl w.heap.size w)
 have H : (if 0 ≤ (l0.length : Int) then (if ((l0.length : Int) : Int).toNat ≤ 5026338869833 then (laws_toGapS.l0 k l0 (List.replicate ((l0.length : Int) : Int).toNat z_Gap) 0) else (none)) else (none)) = some r := h
 clear h
 obtain ⟨c2, H⟩ := ifn H
 have c2b0 := eq_true c2
 have c2b1 : decide (0 ≤ (l0.length : Int)) = true := decide_eq_true c2
 clear c2
 obtain ⟨c3, H⟩ := ifn H
 have c3b0 := eq_true c3
 have c3b1 : decide (((l0.length : Int) : Int).toNat ≤ 5026338869833) = true := decide_eq_true c3
 clear c3
 obtain ⟨y116, hy116⟩ : ∃ y_ : List (S_Gap), y_ = (List.replicate ((l0.length : Int) : Int).toNat z_Gap) := ⟨_, rfl⟩
 replace H : (laws_toGapS.l0 k l0 y116 0) = some r := by first | (rw [hy116]; with_reducible exact H) | (have H2_ := (Option.bind_some _ _).symm.trans H; rw [hy116]; with_reducible exact H2_) | (have H2_ := (Option.bind_some _ _).symm.trans H; with_reducible exact H2_) | with_reducible exact H | (rw [hy116]; exact H) | exact H
 have Ny116 := Aside0.mk hy116
 clear hy116
 have H' := Aside0.mk H
 clear H
 go_enter Tryd.func40, Tryd.ntmps40
 go_wp2_with (first | ((with_reducible refine gate_dst (N := 7) rfl ?_); refine Kd.S_make k_Gap _ 44 rfl (N := 7) rfl 61 _ _ rfl (l0.length : Int) rfl rfl Tryd.underlying61 (.agg #[(.string ⟨#[]⟩), (.string ⟨#[]⟩), (.slice none 0 0)]) 56 info44 rfl (by decide) (by omega) z_Gap (ok := fun _ => True) (okp := fun _ => True) (k_Gap_mkM _ _ _ z_Gap (Kd.R_nil _ _ _ _ _)) (fun _ hk => hk) trivial TD (Nat.le_trans (Nat.mul_le_mul_right _ (TD : (l0.length : Int).toNat ≤ 5026338869833)) (by omega)) (Below.refl _ _) (Nat.le_refl _) ?_; intro v117 w4 ho5 hb hg_ hnew_; clear hg_ hnew_; (first | rw [← Ny116.out] at ho5 | (simp only [Int.reduceToNat] at ho5; rw [← Ny116.out] at ho5)); have HO118 := Aside0.mk (Kd.S_lower ho5 (below_size TB)); replace HB := BS hb; clear hb ho5))
 go_loopg [4] k (fun kq v4 w' => ∃ (x3_1 : List (S_Gap)) (x4_1 : Int), v4 = .int .i64 x4_1 ∧ Aside0 (laws_toGapS.l0 kq l0 x3_1 x4_1 = some r) ∧ Aside0 (kq ≤ k) ∧ Aside0 (Kd.S k_Gap 44 w' w.heap.size (fun _ => True) v117 x3_1) ∧ Aside0 (Below w.heap.size w w'))
 case atStart => exact ⟨(y116), (0), TF, H', ⟨Nat.le_refl _⟩, ⟨by (with_reducible repeat (first | apply Kd.S_alloc | apply Kd.S_drewN | apply Kd.S_drew)); exact HO118.out⟩, ⟨TB⟩⟩
 case round =>
  clear H'
  obtain ⟨x3_1, x4_1, rfl, HA, HK1, HO_3, HB⟩ := hrel
  cases gk with
  | zero => exact absurd HA.out (by simp [laws_toGapS.l0])
  | succ k1 =>
   have H := HA.out
   clear HA
   simp only [laws_toGapS.l0] at H
   by_cases c6 : x4_1 < (l0.length : Int)
   ·rw [if_pos c6] at H
    have c6b0 : decide (x4_1 < (l0.length : Int)) = true := decide_eq_true c6
    clear c6
    obtain ⟨c7, H⟩ := ifn H
    have c7b0 : decide (0 ≤ x4_1) = true := decide_eq_true c7
    clear c7
    obtain ⟨⟨t120, t121, t122⟩, A8, H⟩ := bnd H
    try dsimp only at H
    obtain ⟨c9, H⟩ := ifn H
    have c9b0 : decide (x4_1 < (x3_1.length : Int)) = true := decide_eq_true c9
    clear c9
    obtain ⟨y125, hy125⟩ : ∃ y_ : List (S_Gap), y_ = (x3_1.set (x4_1 : Int).toNat (⟨t120, t121, t122⟩ : S_Gap)) := ⟨_, rfl⟩
    replace H : (laws_toGapS.l0 k1 l0 y125 (wrap64 (x4_1 + 1))) = some r := by first | (rw [hy125]; with_reducible exact H) | (have H2_ := (Option.bind_some _ _).symm.trans H; rw [hy125]; with_reducible exact H2_) | (have H2_ := (Option.bind_some _ _).symm.trans H; with_reducible exact H2_) | with_reducible exact H | (rw [hy125]; exact H) | exact H
    have Ny125 := Aside0.mk hy125
    clear hy125
    have H' := Aside0.mk H
    clear H
    have p119 : 0 ≤ (x4_1 : Int) := TD
    have q119 : x4_1 < (l0.length : Int) := TD
    obtain ⟨ad119, A119_2, c119_2, e119, hx119_0, hx119_1, hx119_2, hl119_2, hi119_2⟩ := at_TLGap HR0.out x4_1 p119 q119
    cases e119
    replace hx119_0 := hBc HB hx119_0
    replace hx119_1 := hBc HB hx119_1
    replace hx119_2 := hBc HB hx119_2
    have HR119_2 := Aside0.mk hi119_2
    have HC119_2 := Aside0.mk hl119_2
    clear hi119_2 hl119_2
    replace p119 := eq_true p119
    replace q119 := eq_true q119
    go_wp2_with (first | ((with_reducible refine gate_callee (f := 24) rfl ?_); refine goesL_ (some 20) rfl rfl Tryd.func24 KR rfl #[.agg #[.string ((rd_TLGap l0 x4_1).f0), .string ((rd_TLGap l0 x4_1).f1), .slice A119_2 ((rd_TLGap l0 x4_1).f2).length c119_2]] rfl TA ?_; (with_reducible refine (laws_toGap.calls k1 ((rd_TLGap l0 x4_1).f0) ((rd_TLGap l0 x4_1).f1) _ _ ((rd_TLGap l0 x4_1).f2) t120 t121 t122 _ ?side1 ?side2 A8.out).mono ?_); (case side1 => exact CW ((Kd.C_below HR119_2.out HB.out))); (case side2 => exact HC119_2.out); rintro e w11 ⟨v123, rfl, ho0, hb⟩; refine ⟨_, rfl, ?_⟩; replace HO_3 := Aside0.mk (Kd.S_elder' (by (with_reducible repeat (first | apply Kd.S_alloc | apply Kd.S_drewN | apply Kd.S_drew)); exact HO_3.out) (Kd.R_base ho0) hb); have HO124 := RL ho0; replace HB := BS hb; clear hb; (try clear ho0); have p10 : 0 ≤ (x4_1 : Int) := TD; have q10 : (x4_1 : Int) < ((x3_1.length : Int) : Int) := TD; obtain ⟨go10, co10, eo10, gb10, gl10, cl10, HG10⟩ := Kd.S_form HO_3.out (by omega); (first | cases eo10 | (injection eo10 with ea_ en_ ec_; (first | subst ea_ | (injection ea_ with ea_; subst ea_)); subst ec_; clear en_)); have GB10 := Aside0.mk gb10; have GG10 := Aside0.mk HG10; clear gb10 gl10 HG10; obtain ⟨_, ce10, hcl10, hM10, hcc10, hfr10, _, _⟩ := Kd.S_elem HO_3.out z_Gap (x4_1 : Int) p10 q10; obtain ⟨ve10_2, rfl, ge10_2⟩ := k_Gap_openM hM10; have hx10_0 : w11.cell? ⟨go10, (x4_1 : Int).toNat * 3, none⟩ = some (.string ((rd_TGap x3_1 x4_1).f0)) := hcc10 0 _ rfl; have hx10_1 : w11.cell? ⟨go10, (x4_1 : Int).toNat * 3 + 1, none⟩ = some (.string ((rd_TGap x3_1 x4_1).f1)) := hcc10 1 _ rfl; have hx10_2 : w11.cell? ⟨go10, (x4_1 : Int).toNat * 3 + 2, none⟩ = some (ve10_2) := hcc10 2 _ rfl; have hf10_0 : w11.frozen? ⟨go10, (x4_1 : Int).toNat * 3, none⟩ = false := hfr10 0; have hf10_1 : w11.frozen? ⟨go10, (x4_1 : Int).toNat * 3 + 1, none⟩ = false := hfr10 1; have hf10_2 : w11.frozen? ⟨go10, (x4_1 : Int).toNat * 3 + 2, none⟩ = false := hfr10 2; clear hcl10 hcc10 hfr10 hM10; replace p10 := eq_true p10; replace q10 := eq_true q10; obtain ⟨Ao14, co14, eo14⟩ := Kd.R_slice HO124.out; subst eo14; have n_ := Aside0.mk (Kd.S_mono (ok' := (fun k_ => some k_ ≠ (.slice Ao14 t122.length co14 : Value).ownBlock)) HO_3.out (fun k_ hk => hk.2)); clear HO_3; have HO_3 := n_; clear n_; have HX12 := Aside0.mk (show Kd.S k_Gap 44 w11 w.heap.size (fun k_ => ((fun _ => True)) k_ ∧ ¬ ((fun k_ => some k_ = (.slice Ao14 t122.length co14 : Value).ownBlock)) k_) (.slice (some ⟨go10, 0, none⟩) x3_1.length co10) x3_1 from (by (with_reducible repeat (first | apply Kd.S_alloc | apply Kd.S_drewN | apply Kd.S_drew)); exact Kd.S_mono HO_3.out (fun k_ hk => ⟨trivial, fun e_ => hk e_⟩))); obtain ⟨oki12, ce12, hcl12, hM12, hcc12, hfr12, hoki12, hH12⟩ := Kd.S_elem HX12.out z_Gap (x4_1 : Int) TD (by have h_ : (x4_1 : Int) < ((x3_1.length : Int) : Int) := TD; first | exact h_ | (have e_ := (Kd.S_reads' HO_3.out).1; omega) | simpa using h_); obtain ⟨ve12_2, rfl, ge12_2⟩ := k_Gap_openM hM12; have HP12 := Kd.S_seg hH12 TD (by have h_ : (x4_1 : Int) < ((x3_1.length : Int) : Int) := TD; first | exact h_ | (have e_ := (Kd.S_reads' HO_3.out).1; omega) | simpa using h_) (seg := [.string t120, .string t121, .slice Ao14 t122.length co14]) (j := 0) (show 3 ≤ 3 from by decide) (x' := (⟨t120, t121, t122⟩ : S_Gap)) (k_Gap_mkM _ _ _ (⟨t120, t121, t122⟩ : S_Gap) (Kd.R_mono (Kd.R_tight rfl (Kd.R_mono (ok' := fun k_ => ((fun _ => True)) k_ ∧ k_ ≠ go10) (Kd.R_apart' (HO124.out) (Kd.S_typed HO_3.out) (by decide)) (fun k_ hk => ⟨trivial, fun e_ => (hk.2) (by rw [e_]; rfl)⟩))) (fun _ h_ => Or.inr (h_)))) (fun _ hk => hk) (fun k_ hk_ => ((Kd.R_mono (ok' := fun k_ => ((fun _ => True)) k_ ∧ k_ ≠ go10) (Kd.R_apart' (HO124.out) (Kd.S_typed HO_3.out) (by decide)) (fun k_ hk => ⟨trivial, fun e_ => (hk.2) (by rw [e_]; rfl)⟩))).1 k_ hk_.symm); have hx12_0 := hcc12 0 _ rfl; (try simp only [show (k_Gap).sz = 3 from rfl, Nat.mul_one, Nat.add_zero] at hx12_0); have hf12_0 := hfr12 0; (try simp only [show (k_Gap).sz = 3 from rfl, Nat.mul_one, Nat.add_zero] at hf12_0); have hx12_1 := hcc12 1 _ rfl; (try simp only [show (k_Gap).sz = 3 from rfl, Nat.mul_one, Nat.add_zero] at hx12_1); have hf12_1 := hfr12 1; (try simp only [show (k_Gap).sz = 3 from rfl, Nat.mul_one, Nat.add_zero] at hf12_1); have hx12_2 := hcc12 2 _ rfl; (try simp only [show (k_Gap).sz = 3 from rfl, Nat.mul_one, Nat.add_zero] at hx12_2); have hf12_2 := hfr12 2; (try simp only [show (k_Gap).sz = 3 from rfl, Nat.mul_one, Nat.add_zero] at hf12_2); clear hcl12 hcc12 hfr12 hM12 hoki12 hH12) | ((with_reducible refine gate_store (t := 44) (p := 21) rfl ?_); refine store_event (t := 44) (p := 21) (v := ?vo_w13) (w1 := (((w11.setCell ⟨go10, (x4_1 : Int).toNat * 3, none⟩ (.string t120)).setCell ⟨go10, (x4_1 : Int).toNat * 3 + 1, none⟩ (.string t121)).setCell ⟨go10, (x4_1 : Int).toNat * 3 + 2, none⟩ (.slice Ao14 t122.length co14))) ?hg ?ho ?hn ?hr ?_; (case ho => rfl); (case hg => rfl); (case hn => rfl); (case hr => first | (go_simp; done) | (go_simp; rfl)); intro w13 hw; have hg : w11.grownBy w13 (some go10) := (by rw [hw]; exact HP12.2); have hp_ : Kd.S k_Gap 44 w13 w.heap.size (fun _ => True) (.slice (some ⟨go10, 0, none⟩) x3_1.length co10) y125 := (by rw [hw, Ny125.out]; exact HP12.1); clear HP12; have n0_ := Aside0.mk (hp_); have n1_ := Aside0.mk ((by rw [hw]; exact below_set (below_set (below_set (HB.out) GB10.out) GB10.out) GB10.out : Below w.heap.size w w13)); clear HO_3; clear HB; clear HO124; have HO_3 := n0_; have HB := n1_; clear n0_ n1_; clear hg hw hp_))
    go_roundg k1
    case measure => have := HK1.out; omega
    case rel => exact ⟨(y125), (wrap64 (x4_1 + 1)), TF, H', ⟨TM⟩, ⟨by (with_reducible repeat (first | apply Kd.S_alloc | apply Kd.S_drewN | apply Kd.S_drew)); exact HO_3.out⟩, ⟨TB⟩⟩
   ·rw [if_neg c6] at H
    have c6b0 : decide (x4_1 < (l0.length : Int)) = false := decide_eq_false c6
    clear c6
    obtain rfl := Option.some.inj H
    go_wp2
    go_ret
    exact ⟨_, TE, by (with_reducible repeat (first | apply Kd.S_alloc | apply Kd.S_drewN | apply Kd.S_drew)); exact HO_3.out, TB⟩
end
section
/-! ### spec_l1Split: function 118 -/
def spec_l1Split.l0 : Nat → ByteArray → Int → List ByteArray → Int → Int → Option (List ByteArray)
 | 0, _, _, _, _, _ => none
 | k + 1, x0, x1, x5, x6, x7 => if x7 < (x0.size : Int) then (if 0 ≤ x7 then (if (bt x0 x7) = x1 then (if 0 ≤ x6 then (if x6 ≤ x7 then (if x7 ≤ (x0.size : Int) then (if x5.length < 8796093022208 then (spec_l1Split.l0 k x0 x1 (x5 ++ [x0.extract (x6 : Int).toNat (x7 : Int).toNat]) (wrap64 (x7 + 1)) (wrap64 (x7 + 1))) else (none)) else (none)) else (none)) else (none)) else (spec_l1Split.l0 k x0 x1 x5 x6 (wrap64 (x7 + 1)))) else (none)) else (if 0 ≤ x6 then (if x6 ≤ (x0.size : Int) then (if x5.length < 8796093022208 then (some (x5 ++ [x0.extract (x6 : Int).toNat x0.size])) else (none)) else (none)) else (none))
def spec_l1Split.f (k : Nat) (a0 : ByteArray) (a1 : Int) : Option (List ByteArray) := spec_l1Split.l0 k a0 a1 ([] : List ByteArray) 0 0
theorem spec_l1Split.calls (k : Nat) (a0 : ByteArray) (a1 : Int) (r : List ByteArray) (w : World) (h : spec_l1Split.f k a0 a1 = some r) :
  Calls Tryd.prog 118 #[.string a0, .int .u8 a1] w fun e w' => ∃ v0_ : Value, e = .returned (v0_) ∧ Kd.R Kd.string 9 w' w.heap.size (fun _ => True) v0_ r ∧ Below w.heap.size w w' := by
 have HB := Aside0.mk (Below.refl w.heap.size w)
 have H : (spec_l1Split.l0 k a0 a1 ([] : List ByteArray) 0 0) = some r := h
 clear h
 have H' := Aside0.mk H
 clear H
 go_enter Tryd.func118, Tryd.ntmps118
 go_wp2
 go_loopg [5, 6, 7] k (fun kq v5 v6 v7 w' => ∃ (x5_1 : List ByteArray) (x6_1 : Int) (x7_1 : Int), v6 = .int .i64 x6_1 ∧ v7 = .int .i64 x7_1 ∧ Aside0 (spec_l1Split.l0 kq a0 a1 x5_1 x6_1 x7_1 = some r) ∧ Aside0 (kq ≤ k) ∧ Aside0 (Kd.R Kd.string 9 w' w.heap.size (fun _ => True) v5 x5_1) ∧ Aside0 (Below w.heap.size w w'))
 case atStart => exact ⟨(([] : List ByteArray)), (0), (0), TF, TF, H', ⟨Nat.le_refl _⟩, ⟨TZ⟩, ⟨TB⟩⟩
 case round =>
  clear H'
  obtain ⟨x5_1, x6_1, x7_1, rfl, rfl, HA, HK1, HO_5, HB⟩ := hrel
  cases gk with
  | zero => exact absurd HA.out (by simp [spec_l1Split.l0])
  | succ k1 =>
   have H := HA.out
   clear HA
   simp only [spec_l1Split.l0] at H
   by_cases c3 : x7_1 < (a0.size : Int)
   ·rw [if_pos c3] at H
    have c3b0 : decide (x7_1 < (a0.size : Int)) = true := decide_eq_true c3
    clear c3
    obtain ⟨c4, H⟩ := ifn H
    have c4b0 : decide (0 ≤ x7_1) = true := decide_eq_true c4
    clear c4
    by_cases c6 : (bt a0 x7_1) = a1
    ·rw [if_pos c6] at H
     have c6b0 : ((bt a0 x7_1) == a1) = true := beq_iff_eq.mpr c6
     have c6b1 : ((bt a0 x7_1) != a1) = false := bne_eq_false_iff_eq.mpr c6
     clear c6
     obtain ⟨c7, H⟩ := ifn H
     have c7b0 := eq_true c7
     have c7b1 : decide (0 ≤ x6_1) = true := decide_eq_true c7
     clear c7
     obtain ⟨c8, H⟩ := ifn H
     have c8b0 := eq_true c8
     have c8b1 : decide (x6_1 ≤ x7_1) = true := decide_eq_true c8
     clear c8
     obtain ⟨c9, H⟩ := ifn H
     have c9b0 := eq_true c9
     have c9b1 : decide (x7_1 ≤ (a0.size : Int)) = true := decide_eq_true c9
     clear c9
     obtain ⟨c10, H⟩ := ifn H
     have LMc10 := Aside0.mk c10
     clear c10
     obtain ⟨y126, hy126⟩ : ∃ y_ : List ByteArray, y_ = (x5_1 ++ [a0.extract (x6_1 : Int).toNat (x7_1 : Int).toNat]) := ⟨_, rfl⟩
     replace H : (spec_l1Split.l0 k1 a0 a1 y126 (wrap64 (x7_1 + 1)) (wrap64 (x7_1 + 1))) = some r := by first | (rw [hy126]; with_reducible exact H) | (have H2_ := (Option.bind_some _ _).symm.trans H; rw [hy126]; with_reducible exact H2_) | (have H2_ := (Option.bind_some _ _).symm.trans H; with_reducible exact H2_) | with_reducible exact H | (rw [hy126]; exact H) | exact H
     have Ny126 := Aside0.mk hy126
     clear hy126
     have H' := Aside0.mk H
     clear H
     have p5 : 0 ≤ (x7_1 : Int) := TD
     have q5 : x7_1 < (a0.size : Int) := TD
     have hx5 := bt_at a0 x7_1
     replace p5 := eq_true p5
     replace q5 := eq_true q5
     go_wp2_with (first | ((with_reducible refine gate_builtin (b := .append) (xs := #[.tmp 19, .tmp 24]) rfl ?_); at_builtin; refine Kd.R_append Kd.string (w0 := w) w.heap.size rfl (.tmp 19) (.tmp 24) 48 9 (.string ⟨#[]⟩) 16 rfl Tryd.underlying48 info9 rfl (by decide) (by omega) u5 x5_1 (a0.extract (x6_1 : Int).toNat (x7_1 : Int).toNat) [.string (a0.extract (x6_1 : Int).toNat (x7_1 : Int).toNat)] (fun _ => True) (fun _ => False) rfl rfl ?aP (fun _ hk => hk.elim) ?aF ?aO ?aB ?aS ?aL ?_; (case aP => exact rfl); (case aB => exact TB); (case aF => exact (fun _ _ => trivial)); (case aO => exact (RW HO_5).out); (case aS => exact (below_size TB)); (case aL => have := LMc10.out; omega); intro v127 w11 ho hb hg hat; rw [← Ny126.out] at ho; have n0_ := Aside0.mk (hb); have n1_ := Aside0.mk (ho); clear HB; clear HO_5; have HB := n0_; have HO128 := n1_; clear n0_ n1_; clear ho hb hg hat))
     go_roundg k1
     case measure => have := HK1.out; omega
     case rel => exact ⟨(y126), (wrap64 (x7_1 + 1)), (wrap64 (x7_1 + 1)), TF, TF, H', ⟨TM⟩, RW HO128, ⟨TB⟩⟩
    ·rw [if_neg c6] at H
     have c6b0 : ((bt a0 x7_1) == a1) = false := beq_eq_false_iff_ne.mpr c6
     have c6b1 : ((bt a0 x7_1) != a1) = true := bne_iff_ne.mpr c6
     have H' := Aside0.mk H
     clear H
     have p5 : 0 ≤ (x7_1 : Int) := TD
     have q5 : x7_1 < (a0.size : Int) := TD
     have hx5 := bt_at a0 x7_1
     replace p5 := eq_true p5
     replace q5 := eq_true q5
     go_wp2
     go_roundg k1
     case measure => have := HK1.out; omega
     case rel => exact ⟨(x5_1), (x6_1), (wrap64 (x7_1 + 1)), TF, TF, H', ⟨TM⟩, RW HO_5, ⟨TB⟩⟩
   ·rw [if_neg c3] at H
    have c3b0 : decide (x7_1 < (a0.size : Int)) = false := decide_eq_false c3
    clear c3
    obtain ⟨c12, H⟩ := ifn H
    have c12b0 := eq_true c12
    have c12b1 : decide (0 ≤ x6_1) = true := decide_eq_true c12
    clear c12
    obtain ⟨c13, H⟩ := ifn H
    have c13b0 := eq_true c13
    have c13b1 : decide (x6_1 ≤ (a0.size : Int)) = true := decide_eq_true c13
    clear c13
    obtain ⟨c14, H⟩ := ifn H
    have LMc14 := Aside0.mk c14
    clear c14
    obtain ⟨y129, hy129⟩ : ∃ y_ : List ByteArray, y_ = (x5_1 ++ [a0.extract (x6_1 : Int).toNat a0.size]) := ⟨_, rfl⟩
    replace H : (some y129) = some r := by first | (rw [hy129]; with_reducible exact H) | (have H2_ := (Option.bind_some _ _).symm.trans H; rw [hy129]; with_reducible exact H2_) | (have H2_ := (Option.bind_some _ _).symm.trans H; with_reducible exact H2_) | with_reducible exact H | (rw [hy129]; exact H) | exact H
    have Ny129 := Aside0.mk hy129
    clear hy129
    obtain rfl := Option.some.inj H
    go_wp2_with (first | ((with_reducible refine gate_builtin (b := .append) (xs := #[.tmp 28, .tmp 32]) rfl ?_); at_builtin; refine Kd.R_append Kd.string (w0 := w) w.heap.size rfl (.tmp 28) (.tmp 32) 48 9 (.string ⟨#[]⟩) 16 rfl Tryd.underlying48 info9 rfl (by decide) (by omega) u5 x5_1 (a0.extract (x6_1 : Int).toNat a0.size) [.string (a0.extract (x6_1 : Int).toNat a0.size)] (fun _ => True) (fun _ => False) rfl rfl ?aP (fun _ hk => hk.elim) ?aF ?aO ?aB ?aS ?aL ?_; (case aP => exact rfl); (case aB => exact TB); (case aF => exact (fun _ _ => trivial)); (case aO => exact (RW HO_5).out); (case aS => exact (below_size TB)); (case aL => have := LMc14.out; omega); intro v130 w15 ho hb hg hat; rw [← Ny129.out] at ho; have n0_ := Aside0.mk (hb); have n1_ := Aside0.mk (ho); clear HB; clear HO_5; have HB := n0_; have HO131 := n1_; clear n0_ n1_; clear ho hb hg hat))
    go_ret
    exact ⟨_, TE, (RW HO131).out, TB⟩
end
section
/-! ### spec_l1In: function 53 -/
def spec_l1In.f (a0 : Int) (a1 : Int) (a2 : Int) : Option (Bool) := if a0 ≥ a1 then (some (decide (a0 ≤ a2))) else (some false)
theorem spec_l1In.calls (a0 : Int) (a1 : Int) (a2 : Int) (r : Bool) (w : World) (h : spec_l1In.f a0 a1 a2 = some r) :
  Calls Tryd.prog 53 #[.int .i64 a0, .int .i64 a1, .int .i64 a2] w fun e w' => e = .returned (.bool r) ∧ Drawn0 w w' := by
 have H : (if a0 ≥ a1 then (some (decide (a0 ≤ a2))) else (some false)) = some r := h
 clear h
 by_cases c4 : a0 ≥ a1
 ·rw [if_pos c4] at H
  have c4b0 : decide (a1 ≤ a0) = true := decide_eq_true c4
  clear c4
  obtain rfl := Option.some.inj H
  go_enter Tryd.func53, Tryd.ntmps53
  go_wp2
  go_ret
  exact ⟨TF, TN⟩
 ·rw [if_neg c4] at H
  have c4b0 : decide (a1 ≤ a0) = false := decide_eq_false c4
  clear c4
  obtain rfl := Option.some.inj H
  go_enter Tryd.func53, Tryd.ntmps53
  go_wp2
  go_ret
  exact ⟨TF, TN⟩
end
section
/-! ### spec_l1Label: function 119 -/
def spec_l1Label.l0 : Nat → ByteArray → Int → Option (Bool)
 | 0, _, _ => none
 | k + 1, x0, x3 => if x3 < (x0.size : Int) then (if 0 ≤ x3 then (if (bt x0 x3) ≥ 97 then (if (bt x0 x3) ≤ 122 then (spec_l1Label.l0 k x0 (wrap64 (x3 + 1))) else (if (bt x0 x3) ≥ 48 then (if (bt x0 x3) ≤ 57 then (spec_l1Label.l0 k x0 (wrap64 (x3 + 1))) else (if (bt x0 x3) = 45 then (spec_l1Label.l0 k x0 (wrap64 (x3 + 1))) else (if ((bt x0 x3) = 95) then (spec_l1Label.l0 k x0 (wrap64 (x3 + 1))) else (some false)))) else (if (bt x0 x3) = 45 then (spec_l1Label.l0 k x0 (wrap64 (x3 + 1))) else (if ((bt x0 x3) = 95) then (spec_l1Label.l0 k x0 (wrap64 (x3 + 1))) else (some false))))) else (if (bt x0 x3) ≥ 48 then (if (bt x0 x3) ≤ 57 then (spec_l1Label.l0 k x0 (wrap64 (x3 + 1))) else (if (bt x0 x3) = 45 then (spec_l1Label.l0 k x0 (wrap64 (x3 + 1))) else (if ((bt x0 x3) = 95) then (spec_l1Label.l0 k x0 (wrap64 (x3 + 1))) else (some false)))) else (if (bt x0 x3) = 45 then (spec_l1Label.l0 k x0 (wrap64 (x3 + 1))) else (if ((bt x0 x3) = 95) then (spec_l1Label.l0 k x0 (wrap64 (x3 + 1))) else (some false))))) else (none)) else ((spec_l1In.f (x0.size : Int) 1 20).bind fun t132 => (some t132))
def spec_l1Label.f (k : Nat) (a0 : ByteArray) : Option (Bool) := if a0.toList = ([42] : List UInt8) then (some true) else (spec_l1Label.l0 k a0 0)
theorem spec_l1Label.calls (k : Nat) (a0 : ByteArray) (r : Bool) (w : World) (h : spec_l1Label.f k a0 = some r) :
  Calls Tryd.prog 119 #[.string a0] w fun e w' => e = .returned (.bool r) ∧ Drawn0 w w' := by
 have H : (if a0.toList = ([42] : List UInt8) then (some true) else (spec_l1Label.l0 k a0 0)) = some r := h
 clear h
 by_cases c2 : a0.toList = ([42] : List UInt8)
 ·rw [if_pos c2] at H
  have c2b0 : (a0.toList == ([42] : List UInt8)) = true := beq_iff_eq.mpr c2
  have c2b1 : (a0.toList != ([42] : List UInt8)) = false := bne_eq_false_iff_eq.mpr c2
  clear c2
  obtain rfl := Option.some.inj H
  go_enter Tryd.func119, Tryd.ntmps119
  go_wp2
  go_ret
  exact ⟨TF, TN⟩
 ·rw [if_neg c2] at H
  have c2b0 : (a0.toList == ([42] : List UInt8)) = false := beq_eq_false_iff_ne.mpr c2
  have c2b1 : (a0.toList != ([42] : List UInt8)) = true := bne_iff_ne.mpr c2
  have H' := Aside0.mk H
  clear H
  go_enter Tryd.func119, Tryd.ntmps119
  go_wp2
  go_loopg [3] k (fun kq v3 w' => ∃ (x3_1 : Int), v3 = .int .i64 x3_1 ∧ Aside0 (spec_l1Label.l0 kq a0 x3_1 = some r) ∧ Aside0 (kq ≤ k) ∧ Drawn0 w w')
  case atStart => exact ⟨(0), TF, H', ⟨Nat.le_refl _⟩, TN⟩
  case round =>
   clear H'
   obtain ⟨x3_1, rfl, HA, HK1, ⟨m1, rfl⟩⟩ := hrel
   cases gk with
   | zero => exact absurd HA.out (by simp [spec_l1Label.l0])
   | succ k1 =>
    have H := HA.out
    clear HA
    simp only [spec_l1Label.l0] at H
    by_cases c3 : x3_1 < (a0.size : Int)
    ·rw [if_pos c3] at H
     have c3b0 : decide (x3_1 < (a0.size : Int)) = true := decide_eq_true c3
     clear c3
     obtain ⟨c4, H⟩ := ifn H
     have c4b0 : decide (0 ≤ x3_1) = true := decide_eq_true c4
     clear c4
     by_cases c6 : (bt a0 x3_1) ≥ 97
     ·rw [if_pos c6] at H
      have c6b0 : decide (97 ≤ (bt a0 x3_1)) = true := decide_eq_true c6
      clear c6
      by_cases c7 : (bt a0 x3_1) ≤ 122
      ·rw [if_pos c7] at H
       have c7b0 : decide ((bt a0 x3_1) ≤ 122) = true := decide_eq_true c7
       clear c7
       have H' := Aside0.mk H
       clear H
       have p5 : 0 ≤ (x3_1 : Int) := TD
       have q5 : x3_1 < (a0.size : Int) := TD
       have hx5 := bt_at a0 x3_1
       replace p5 := eq_true p5
       replace q5 := eq_true q5
       go_wp2
       go_roundg k1
       case measure => have := HK1.out; omega
       case rel => exact ⟨(wrap64 (x3_1 + 1)), TF, H', ⟨TM⟩, TN⟩
      ·rw [if_neg c7] at H
       have c7b0 : decide ((bt a0 x3_1) ≤ 122) = false := decide_eq_false c7
       clear c7
       by_cases c8 : (bt a0 x3_1) ≥ 48
       ·rw [if_pos c8] at H
        have c8b0 : decide (48 ≤ (bt a0 x3_1)) = true := decide_eq_true c8
        clear c8
        by_cases c9 : (bt a0 x3_1) ≤ 57
        ·rw [if_pos c9] at H
         have c9b0 : decide ((bt a0 x3_1) ≤ 57) = true := decide_eq_true c9
         clear c9
         have H' := Aside0.mk H
         clear H
         have p5 : 0 ≤ (x3_1 : Int) := TD
         have q5 : x3_1 < (a0.size : Int) := TD
         have hx5 := bt_at a0 x3_1
         replace p5 := eq_true p5
         replace q5 := eq_true q5
         go_wp2
         go_roundg k1
         case measure => have := HK1.out; omega
         case rel => exact ⟨(wrap64 (x3_1 + 1)), TF, H', ⟨TM⟩, TN⟩
        ·rw [if_neg c9] at H
         have c9b0 : decide ((bt a0 x3_1) ≤ 57) = false := decide_eq_false c9
         clear c9
         by_cases c10 : (bt a0 x3_1) = 45
         ·rw [if_pos c10] at H
          have c10b0 : ((bt a0 x3_1) == 45) = true := beq_iff_eq.mpr c10
          have c10b1 : ((bt a0 x3_1) != 45) = false := bne_eq_false_iff_eq.mpr c10
          clear c10
          have H' := Aside0.mk H
          clear H
          have p5 : 0 ≤ (x3_1 : Int) := TD
          have q5 : x3_1 < (a0.size : Int) := TD
          have hx5 := bt_at a0 x3_1
          replace p5 := eq_true p5
          replace q5 := eq_true q5
          go_wp2
          go_roundg k1
          case measure => have := HK1.out; omega
          case rel => exact ⟨(wrap64 (x3_1 + 1)), TF, H', ⟨TM⟩, TN⟩
         ·rw [if_neg c10] at H
          have c10b0 : ((bt a0 x3_1) == 45) = false := beq_eq_false_iff_ne.mpr c10
          have c10b1 : ((bt a0 x3_1) != 45) = true := bne_iff_ne.mpr c10
          by_cases c11 : ((bt a0 x3_1) = 95)
          ·rw [if_pos c11] at H
           have c11b0 : ((bt a0 x3_1) == 95) = true := beq_iff_eq.mpr c11
           have c11b1 : ((bt a0 x3_1) != 95) = false := bne_eq_false_iff_eq.mpr c11
           clear c11
           have H' := Aside0.mk H
           clear H
           have p5 : 0 ≤ (x3_1 : Int) := TD
           have q5 : x3_1 < (a0.size : Int) := TD
           have hx5 := bt_at a0 x3_1
           replace p5 := eq_true p5
           replace q5 := eq_true q5
           go_wp2
           go_roundg k1
           case measure => have := HK1.out; omega
           case rel => exact ⟨(wrap64 (x3_1 + 1)), TF, H', ⟨TM⟩, TN⟩
          ·rw [if_neg c11] at H
           have c11b0 : ((bt a0 x3_1) == 95) = false := beq_eq_false_iff_ne.mpr c11
           have c11b1 : ((bt a0 x3_1) != 95) = true := bne_iff_ne.mpr c11
           obtain rfl := Option.some.inj H
           have p5 : 0 ≤ (x3_1 : Int) := TD
           have q5 : x3_1 < (a0.size : Int) := TD
           have hx5 := bt_at a0 x3_1
           replace p5 := eq_true p5
           replace q5 := eq_true q5
           go_wp2
           go_ret
           exact ⟨TF, TN⟩
       ·rw [if_neg c8] at H
        have c8b0 : decide (48 ≤ (bt a0 x3_1)) = false := decide_eq_false c8
        clear c8
        by_cases c12 : (bt a0 x3_1) = 45
        ·rw [if_pos c12] at H
         have c12b0 : ((bt a0 x3_1) == 45) = true := beq_iff_eq.mpr c12
         have c12b1 : ((bt a0 x3_1) != 45) = false := bne_eq_false_iff_eq.mpr c12
         clear c12
         have H' := Aside0.mk H
         clear H
         have p5 : 0 ≤ (x3_1 : Int) := TD
         have q5 : x3_1 < (a0.size : Int) := TD
         have hx5 := bt_at a0 x3_1
         replace p5 := eq_true p5
         replace q5 := eq_true q5
         go_wp2
         go_roundg k1
         case measure => have := HK1.out; omega
         case rel => exact ⟨(wrap64 (x3_1 + 1)), TF, H', ⟨TM⟩, TN⟩
        ·rw [if_neg c12] at H
         have c12b0 : ((bt a0 x3_1) == 45) = false := beq_eq_false_iff_ne.mpr c12
         have c12b1 : ((bt a0 x3_1) != 45) = true := bne_iff_ne.mpr c12
         by_cases c13 : ((bt a0 x3_1) = 95)
         ·rw [if_pos c13] at H
          have c13b0 : ((bt a0 x3_1) == 95) = true := beq_iff_eq.mpr c13
          have c13b1 : ((bt a0 x3_1) != 95) = false := bne_eq_false_iff_eq.mpr c13
          clear c13
          have H' := Aside0.mk H
          clear H
          have p5 : 0 ≤ (x3_1 : Int) := TD
          have q5 : x3_1 < (a0.size : Int) := TD
          have hx5 := bt_at a0 x3_1
          replace p5 := eq_true p5
          replace q5 := eq_true q5
          go_wp2
          go_roundg k1
          case measure => have := HK1.out; omega
          case rel => exact ⟨(wrap64 (x3_1 + 1)), TF, H', ⟨TM⟩, TN⟩
         ·rw [if_neg c13] at H
          have c13b0 : ((bt a0 x3_1) == 95) = false := beq_eq_false_iff_ne.mpr c13
          have c13b1 : ((bt a0 x3_1) != 95) = true := bne_iff_ne.mpr c13
          obtain rfl := Option.some.inj H
          have p5 : 0 ≤ (x3_1 : Int) := TD
          have q5 : x3_1 < (a0.size : Int) := TD
          have hx5 := bt_at a0 x3_1
          replace p5 := eq_true p5
          replace q5 := eq_true q5
          go_wp2
          go_ret
          exact ⟨TF, TN⟩
     ·rw [if_neg c6] at H
      have c6b0 : decide (97 ≤ (bt a0 x3_1)) = false := decide_eq_false c6
      clear c6
      by_cases c14 : (bt a0 x3_1) ≥ 48
      ·rw [if_pos c14] at H
       have c14b0 : decide (48 ≤ (bt a0 x3_1)) = true := decide_eq_true c14
       clear c14
       by_cases c15 : (bt a0 x3_1) ≤ 57
       ·rw [if_pos c15] at H
        have c15b0 : decide ((bt a0 x3_1) ≤ 57) = true := decide_eq_true c15
        clear c15
        have H' := Aside0.mk H
        clear H
        have p5 : 0 ≤ (x3_1 : Int) := TD
        have q5 : x3_1 < (a0.size : Int) := TD
        have hx5 := bt_at a0 x3_1
        replace p5 := eq_true p5
        replace q5 := eq_true q5
        go_wp2
        go_roundg k1
        case measure => have := HK1.out; omega
        case rel => exact ⟨(wrap64 (x3_1 + 1)), TF, H', ⟨TM⟩, TN⟩
       ·rw [if_neg c15] at H
        have c15b0 : decide ((bt a0 x3_1) ≤ 57) = false := decide_eq_false c15
        clear c15
        by_cases c16 : (bt a0 x3_1) = 45
        ·rw [if_pos c16] at H
         have c16b0 : ((bt a0 x3_1) == 45) = true := beq_iff_eq.mpr c16
         have c16b1 : ((bt a0 x3_1) != 45) = false := bne_eq_false_iff_eq.mpr c16
         clear c16
         have H' := Aside0.mk H
         clear H
         have p5 : 0 ≤ (x3_1 : Int) := TD
         have q5 : x3_1 < (a0.size : Int) := TD
         have hx5 := bt_at a0 x3_1
         replace p5 := eq_true p5
         replace q5 := eq_true q5
         go_wp2
         go_roundg k1
         case measure => have := HK1.out; omega
         case rel => exact ⟨(wrap64 (x3_1 + 1)), TF, H', ⟨TM⟩, TN⟩
        ·rw [if_neg c16] at H
         have c16b0 : ((bt a0 x3_1) == 45) = false := beq_eq_false_iff_ne.mpr c16
         have c16b1 : ((bt a0 x3_1) != 45) = true := bne_iff_ne.mpr c16
         by_cases c17 : ((bt a0 x3_1) = 95)
         ·rw [if_pos c17] at H
          have c17b0 : ((bt a0 x3_1) == 95) = true := beq_iff_eq.mpr c17
          have c17b1 : ((bt a0 x3_1) != 95) = false := bne_eq_false_iff_eq.mpr c17
          clear c17
          have H' := Aside0.mk H
          clear H
          have p5 : 0 ≤ (x3_1 : Int) := TD
          have q5 : x3_1 < (a0.size : Int) := TD
          have hx5 := bt_at a0 x3_1
          replace p5 := eq_true p5
          replace q5 := eq_true q5
          go_wp2
          go_roundg k1
          case measure => have := HK1.out; omega
          case rel => exact ⟨(wrap64 (x3_1 + 1)), TF, H', ⟨TM⟩, TN⟩
         ·rw [if_neg c17] at H
          have c17b0 : ((bt a0 x3_1) == 95) = false := beq_eq_false_iff_ne.mpr c17
          have c17b1 : ((bt a0 x3_1) != 95) = true := bne_iff_ne.mpr c17
          obtain rfl := Option.some.inj H
          have p5 : 0 ≤ (x3_1 : Int) := TD
          have q5 : x3_1 < (a0.size : Int) := TD
          have hx5 := bt_at a0 x3_1
          replace p5 := eq_true p5
          replace q5 := eq_true q5
          go_wp2
          go_ret
          exact ⟨TF, TN⟩
      ·rw [if_neg c14] at H
       have c14b0 : decide (48 ≤ (bt a0 x3_1)) = false := decide_eq_false c14
       clear c14
       by_cases c18 : (bt a0 x3_1) = 45
       ·rw [if_pos c18] at H
        have c18b0 : ((bt a0 x3_1) == 45) = true := beq_iff_eq.mpr c18
        have c18b1 : ((bt a0 x3_1) != 45) = false := bne_eq_false_iff_eq.mpr c18
        clear c18
        have H' := Aside0.mk H
        clear H
        have p5 : 0 ≤ (x3_1 : Int) := TD
        have q5 : x3_1 < (a0.size : Int) := TD
        have hx5 := bt_at a0 x3_1
        replace p5 := eq_true p5
        replace q5 := eq_true q5
        go_wp2
        go_roundg k1
        case measure => have := HK1.out; omega
        case rel => exact ⟨(wrap64 (x3_1 + 1)), TF, H', ⟨TM⟩, TN⟩
       ·rw [if_neg c18] at H
        have c18b0 : ((bt a0 x3_1) == 45) = false := beq_eq_false_iff_ne.mpr c18
        have c18b1 : ((bt a0 x3_1) != 45) = true := bne_iff_ne.mpr c18
        by_cases c19 : ((bt a0 x3_1) = 95)
        ·rw [if_pos c19] at H
         have c19b0 : ((bt a0 x3_1) == 95) = true := beq_iff_eq.mpr c19
         have c19b1 : ((bt a0 x3_1) != 95) = false := bne_eq_false_iff_eq.mpr c19
         clear c19
         have H' := Aside0.mk H
         clear H
         have p5 : 0 ≤ (x3_1 : Int) := TD
         have q5 : x3_1 < (a0.size : Int) := TD
         have hx5 := bt_at a0 x3_1
         replace p5 := eq_true p5
         replace q5 := eq_true q5
         go_wp2
         go_roundg k1
         case measure => have := HK1.out; omega
         case rel => exact ⟨(wrap64 (x3_1 + 1)), TF, H', ⟨TM⟩, TN⟩
        ·rw [if_neg c19] at H
         have c19b0 : ((bt a0 x3_1) == 95) = false := beq_eq_false_iff_ne.mpr c19
         have c19b1 : ((bt a0 x3_1) != 95) = true := bne_iff_ne.mpr c19
         obtain rfl := Option.some.inj H
         have p5 : 0 ≤ (x3_1 : Int) := TD
         have q5 : x3_1 < (a0.size : Int) := TD
         have hx5 := bt_at a0 x3_1
         replace p5 := eq_true p5
         replace q5 := eq_true q5
         go_wp2
         go_ret
         exact ⟨TF, TN⟩
    ·rw [if_neg c3] at H
     have c3b0 : decide (x3_1 < (a0.size : Int)) = false := decide_eq_false c3
     clear c3
     obtain ⟨t132, A20, H⟩ := bnd H
     obtain rfl := Option.some.inj H
     go_wp2_with (first | ((with_reducible refine gate_callee (f := 53) rfl ?_); refine goesL_ (some 41) rfl rfl Tryd.func53 KR rfl #[.int .i64 (a0.size : Int), .int .i64 1, .int .i64 20] rfl TA ?_; (with_reducible refine (spec_l1In.calls (a0.size : Int) 1 20 t132 _ A20.out).mono ?_); rintro e w' ⟨rfl, ⟨nd, rfl⟩⟩; refine ⟨_, rfl, ?_⟩))
     go_ret
     exact ⟨TF, TN⟩
end
section
/-! ### spec_l1Labels: function 101 -/
def spec_l1Labels.l0 : Nat → ByteArray → List ByteArray → List ByteArray → Int → Int → Option (List ByteArray × Bool)
 | 0, _, _, _, _, _ => none
 | k + 1, x0, x4, x11, x12, x13 => if x13 < x12 then (if 0 ≤ x13 then (if x13 < (x11.length : Int) then ((spec_l1Label.f k (rdOf ByteArray.empty x11 x13)).bind fun t137 => (if t137 = true then (spec_l1Labels.l0 k x0 x4 x11 x12 (wrap64 (x13 + 1))) else (some (([] : List ByteArray), false)))) else (none)) else (none)) else (if (x0.size : Int) ≤ 60 then (some (x4, decide ((x4.length : Int) ≤ 8))) else (some (x4, false)))
def spec_l1Labels.f (k : Nat) (a0 : ByteArray) : Option (List ByteArray × Bool) := if a0.toList = ([] : List UInt8) then (some (([] : List ByteArray), true)) else ((spec_l1Split.f k a0 46).bind fun t133 => (spec_l1Labels.l0 k a0 t133 t133 (t133.length : Int) 0))
theorem spec_l1Labels.calls (k : Nat) (a0 : ByteArray) (r1 : List ByteArray) (r2 : Bool) (w : World) (h : spec_l1Labels.f k a0 = some (r1, r2)) :
  Calls Tryd.prog 101 #[.string a0] w fun e w' => ∃ v0_ : Value, e = .returned (.tuple #[v0_, .bool r2]) ∧ Kd.R Kd.string 9 w' w.heap.size (fun _ => True) v0_ r1 ∧ Below w.heap.size w w' := by
 have HB := Aside0.mk (Below.refl w.heap.size w)
 have H : (if a0.toList = ([] : List UInt8) then (some (([] : List ByteArray), true)) else ((spec_l1Split.f k a0 46).bind fun t133 => (spec_l1Labels.l0 k a0 t133 t133 (t133.length : Int) 0))) = some (r1, r2) := h
 clear h
 by_cases c2 : a0.toList = ([] : List UInt8)
 ·rw [if_pos c2] at H
  have c2b0 : (a0.toList == ([] : List UInt8)) = true := beq_iff_eq.mpr c2
  have c2b1 : (a0.toList != ([] : List UInt8)) = false := bne_eq_false_iff_eq.mpr c2
  clear c2
  simp only [Option.some.injEq, Prod.mk.injEq] at H
  obtain ⟨rfl, rfl⟩ := H
  go_enter Tryd.func101, Tryd.ntmps101
  go_wp2
  go_ret2
  exact ⟨_, by first | rfl | (simp [errW_none, errW_some] <;> rfl) | (simp [*, errW_none, errW_some] <;> rfl) | (simp [errW_none, errW_some]; rw [Bool.eq_iff_iff]; simp), TZ, TB⟩
 ·rw [if_neg c2] at H
  have c2b0 : (a0.toList == ([] : List UInt8)) = false := beq_eq_false_iff_ne.mpr c2
  have c2b1 : (a0.toList != ([] : List UInt8)) = true := bne_iff_ne.mpr c2
  obtain ⟨t133, A3, H⟩ := bnd H
  have H' := Aside0.mk H
  clear H
  go_enter Tryd.func101, Tryd.ntmps101
  go_wp2_with (first | ((with_reducible refine gate_callee (f := 118) rfl ?_); refine goesL_ (some 10) rfl rfl Tryd.func118 KR rfl #[.string a0, .int .u8 46] rfl TA ?_; (with_reducible refine (spec_l1Split.calls k a0 46 t133 _ A3.out).mono ?_); rintro e w4 ⟨v134, rfl, ho0, hb⟩; refine ⟨_, rfl, ?_⟩; have HO135 := RL ho0; replace HB := BS hb; clear hb; (try clear ho0); obtain ⟨Ao5, co5, eo5⟩ := Kd.R_slice HO135.out; subst eo5))
  go_loopg [13] k (fun kq v13 w' => ∃ (x13_1 : Int), v13 = .int .i64 x13_1 ∧ Aside0 (spec_l1Labels.l0 kq a0 t133 t133 (t133.length : Int) x13_1 = some (r1, r2)) ∧ Aside0 (kq ≤ k) ∧ Aside0 (Kd.R Kd.string 9 w' w.heap.size (fun _ => True) (.slice Ao5 t133.length co5) t133) ∧ Aside0 (Kd.R Kd.string 9 w' w.heap.size (fun _ => True) (.slice Ao5 t133.length co5) t133) ∧ Aside0 (Below w.heap.size w w'))
  case atStart => exact ⟨(0), TF, H', ⟨Nat.le_refl _⟩, RW HO135, RW HO135, ⟨TB⟩⟩
  case round =>
   clear H'
   obtain ⟨x13_1, rfl, HA, HK1, HO_4, HO_11, HB⟩ := hrel
   cases gk with
   | zero => exact absurd HA.out (by simp [spec_l1Labels.l0])
   | succ k1 =>
    have H := HA.out
    clear HA
    simp only [spec_l1Labels.l0] at H
    by_cases c6 : x13_1 < (t133.length : Int)
    ·rw [if_pos c6] at H
     have c6b0 : decide (x13_1 < (t133.length : Int)) = true := decide_eq_true c6
     clear c6
     obtain ⟨c7, H⟩ := ifn H
     have c7b0 : decide (0 ≤ x13_1) = true := decide_eq_true c7
     clear c7
     obtain ⟨c8, H⟩ := ifn H
     have c8b0 : decide (x13_1 < (t133.length : Int)) = true := decide_eq_true c8
     clear c8
     obtain ⟨t137, A9, H⟩ := bnd H
     by_cases c10 : t137 = true
     ·subst c10
      replace H := ift H
      have H' := Aside0.mk H
      clear H
      have p136 : 0 ≤ (x13_1 : Int) := TD
      have q136 : x13_1 < (t133.length : Int) := TD
      obtain ⟨ad136, e136, hx136_0⟩ := Kd.at_string (Kd.R_reads' HO_11.out).2.2 x13_1 p136 q136
      cases e136
      replace p136 := eq_true p136
      replace q136 := eq_true q136
      go_wp2_with (first | ((with_reducible refine gate_callee (f := 119) rfl ?_); refine goesL_ (some 18) rfl rfl Tryd.func119 KR rfl #[.string (rdOf ByteArray.empty t133 x13_1)] rfl TA ?_; (with_reducible refine (spec_l1Label.calls k1 (rdOf ByteArray.empty t133 x13_1) true _ A9.out).mono ?_); rintro e w' ⟨rfl, ⟨nd, rfl⟩⟩; refine ⟨_, rfl, ?_⟩))
      go_roundg k1
      case measure => have := HK1.out; omega
      case rel => exact ⟨(wrap64 (x13_1 + 1)), TF, H', ⟨TM⟩, RW HO_4, RW HO_11, ⟨TB⟩⟩
     ·replace c10 := Bool.eq_false_iff.mpr c10
      subst c10
      replace H := iff' H
      simp only [Option.some.injEq, Prod.mk.injEq] at H
      obtain ⟨rfl, rfl⟩ := H
      have p136 : 0 ≤ (x13_1 : Int) := TD
      have q136 : x13_1 < (t133.length : Int) := TD
      obtain ⟨ad136, e136, hx136_0⟩ := Kd.at_string (Kd.R_reads' HO_11.out).2.2 x13_1 p136 q136
      cases e136
      replace p136 := eq_true p136
      replace q136 := eq_true q136
      go_wp2_with (first | ((with_reducible refine gate_callee (f := 119) rfl ?_); refine goesL_ (some 18) rfl rfl Tryd.func119 KR rfl #[.string (rdOf ByteArray.empty t133 x13_1)] rfl TA ?_; (with_reducible refine (spec_l1Label.calls k1 (rdOf ByteArray.empty t133 x13_1) false _ A9.out).mono ?_); rintro e w' ⟨rfl, ⟨nd, rfl⟩⟩; refine ⟨_, rfl, ?_⟩))
      go_ret2
      exact ⟨_, by first | rfl | (simp [errW_none, errW_some] <;> rfl) | (simp [*, errW_none, errW_some] <;> rfl) | (simp [errW_none, errW_some]; rw [Bool.eq_iff_iff]; simp), TZ, TB⟩
    ·rw [if_neg c6] at H
     have c6b0 : decide (x13_1 < (t133.length : Int)) = false := decide_eq_false c6
     clear c6
     by_cases c11 : (a0.size : Int) ≤ 60
     ·rw [if_pos c11] at H
      have c11b0 : decide ((a0.size : Int) ≤ 60) = true := decide_eq_true c11
      have c11b1 : decide (a0.size ≤ 60) = true := decide_eq_true (by omega)
      clear c11
      simp only [Option.some.injEq, Prod.mk.injEq] at H
      obtain ⟨rfl, rfl⟩ := H
      go_wp2
      go_ret2
      exact ⟨_, by first | rfl | (simp [errW_none, errW_some] <;> rfl) | (simp [*, errW_none, errW_some] <;> rfl) | (simp [errW_none, errW_some]; rw [Bool.eq_iff_iff]; simp), (RW HO_4).out, TB⟩
     ·rw [if_neg c11] at H
      have c11b0 : decide ((a0.size : Int) ≤ 60) = false := decide_eq_false c11
      have c11b1 : decide (a0.size ≤ 60) = false := decide_eq_false (by omega)
      clear c11
      simp only [Option.some.injEq, Prod.mk.injEq] at H
      obtain ⟨rfl, rfl⟩ := H
      go_wp2
      go_ret2
      exact ⟨_, by first | rfl | (simp [errW_none, errW_some] <;> rfl) | (simp [*, errW_none, errW_some] <;> rfl) | (simp [errW_none, errW_some]; rw [Bool.eq_iff_iff]; simp), (RW HO_4).out, TB⟩
end
section
/-! ### spec_GoodName: function 65 -/
def spec_GoodName.f (k : Nat) (a0 : ByteArray) : Option (Bool) := (spec_l1Labels.f k a0).bind fun bt138 => (some bt138.2)
theorem spec_GoodName.calls (k : Nat) (a0 : ByteArray) (r : Bool) (w : World) (h : spec_GoodName.f k a0 = some r) :
  Calls Tryd.prog 65 #[.string a0] w fun e w' => e = .returned (.bool r) ∧ Below w.heap.size w w' := by
 have HB := Aside0.mk (Below.refl w.heap.size w)
 have H : ((spec_l1Labels.f k a0).bind fun bt138 => (some bt138.2)) = some r := h
 clear h
 obtain ⟨⟨t138, t139⟩, A2, H⟩ := bnd H
 try dsimp only at H
 obtain rfl := Option.some.inj H
 go_enter Tryd.func65, Tryd.ntmps65
 go_wp2_with (first | ((with_reducible refine gate_callee (f := 101) rfl ?_); refine goesL_ (some 7) rfl rfl Tryd.func101 KR rfl #[.string a0] rfl TA ?_; (with_reducible refine (spec_l1Labels.calls k a0 t138 t139 _ A2.out).mono ?_); rintro e w3 ⟨v140, rfl, ho0, hb⟩; refine ⟨_, rfl, ?_⟩; have HO141 := RL ho0; replace HB := BS hb; clear hb; (try clear ho0)))
 go_ret
 exact ⟨TE, TB⟩
end
section
/-! ### spec_l1Below: function 74 -/
def spec_l1Below.f (a0 : ByteArray) (a1 : ByteArray) : Option (Bool) := if a1.toList = ([] : List UInt8) then (some true) else (if a0.toList = a1.toList then (some true) else (if (wrap64 ((a0.size : Int) - (a1.size : Int))) > 0 then (if 0 ≤ (wrap64 ((a0.size : Int) - (a1.size : Int))) then (if (wrap64 ((a0.size : Int) - (a1.size : Int))) ≤ (a0.size : Int) then (if (a0.extract ((wrap64 ((a0.size : Int) - (a1.size : Int))) : Int).toNat a0.size).toList = a1.toList then (if 0 ≤ (wrap64 ((wrap64 ((a0.size : Int) - (a1.size : Int))) - 1)) then (if (wrap64 ((wrap64 ((a0.size : Int) - (a1.size : Int))) - 1)) < (a0.size : Int) then (some ((bt a0 (wrap64 ((wrap64 ((a0.size : Int) - (a1.size : Int))) - 1))) == 46)) else (none)) else (none)) else (some false)) else (none)) else (none)) else (some false)))
theorem spec_l1Below.calls (a0 : ByteArray) (a1 : ByteArray) (r : Bool) (w : World) (h : spec_l1Below.f a0 a1 = some r) :
  Calls Tryd.prog 74 #[.string a0, .string a1] w fun e w' => e = .returned (.bool r) ∧ Drawn0 w w' := by
 have H : (if a1.toList = ([] : List UInt8) then (some true) else (if a0.toList = a1.toList then (some true) else (if (wrap64 ((a0.size : Int) - (a1.size : Int))) > 0 then (if 0 ≤ (wrap64 ((a0.size : Int) - (a1.size : Int))) then (if (wrap64 ((a0.size : Int) - (a1.size : Int))) ≤ (a0.size : Int) then (if (a0.extract ((wrap64 ((a0.size : Int) - (a1.size : Int))) : Int).toNat a0.size).toList = a1.toList then (if 0 ≤ (wrap64 ((wrap64 ((a0.size : Int) - (a1.size : Int))) - 1)) then (if (wrap64 ((wrap64 ((a0.size : Int) - (a1.size : Int))) - 1)) < (a0.size : Int) then (some ((bt a0 (wrap64 ((wrap64 ((a0.size : Int) - (a1.size : Int))) - 1))) == 46)) else (none)) else (none)) else (some false)) else (none)) else (none)) else (some false)))) = some r := h
 clear h
 by_cases c3 : a1.toList = ([] : List UInt8)
 ·rw [if_pos c3] at H
  have c3b0 : (a1.toList == ([] : List UInt8)) = true := beq_iff_eq.mpr c3
  have c3b1 : (a1.toList != ([] : List UInt8)) = false := bne_eq_false_iff_eq.mpr c3
  clear c3
  obtain rfl := Option.some.inj H
  go_enter Tryd.func74, Tryd.ntmps74
  go_wp2
  go_ret
  exact ⟨TF, TN⟩
 ·rw [if_neg c3] at H
  have c3b0 : (a1.toList == ([] : List UInt8)) = false := beq_eq_false_iff_ne.mpr c3
  have c3b1 : (a1.toList != ([] : List UInt8)) = true := bne_iff_ne.mpr c3
  by_cases c4 : a0.toList = a1.toList
  ·rw [if_pos c4] at H
   have c4b0 : (a0.toList == a1.toList) = true := beq_iff_eq.mpr c4
   have c4b1 : (a0.toList != a1.toList) = false := bne_eq_false_iff_eq.mpr c4
   clear c4
   obtain rfl := Option.some.inj H
   go_enter Tryd.func74, Tryd.ntmps74
   go_wp2
   go_ret
   exact ⟨TF, TN⟩
  ·rw [if_neg c4] at H
   have c4b0 : (a0.toList == a1.toList) = false := beq_eq_false_iff_ne.mpr c4
   have c4b1 : (a0.toList != a1.toList) = true := bne_iff_ne.mpr c4
   by_cases c5 : (wrap64 ((a0.size : Int) - (a1.size : Int))) > 0
   ·rw [if_pos c5] at H
    have c5b0 : decide (0 < (wrap64 ((a0.size : Int) - (a1.size : Int)))) = true := decide_eq_true c5
    clear c5
    obtain ⟨ji6, hji6⟩ : ∃ j_ : Int, (wrap64 ((a0.size : Int) - (a1.size : Int))) = j_ := ⟨_, rfl⟩
    replace H : (if 0 ≤ (ji6) then (if (ji6) ≤ (a0.size : Int) then (if (a0.extract ((ji6) : Int).toNat a0.size).toList = a1.toList then (if 0 ≤ (wrap64 ((ji6) - 1)) then (if (wrap64 ((ji6) - 1)) < (a0.size : Int) then (some ((bt a0 (wrap64 ((ji6) - 1))) == 46)) else (none)) else (none)) else (some false)) else (none)) else (none)) = some r := by first | (rw [hji6] at H; exact H) | (simp only [hji6] at H ⊢; exact H)
    (try rw [hji6] at c5b0)
    have hji6w : (IntKind.i64.wrap ((a0.size : Int) - (a1.size : Int))) = ji6 := (i64_w _).trans hji6
    obtain ⟨c7, H⟩ := ifn H
    have c7b0 := eq_true c7
    have c7b1 : decide (0 ≤ (ji6)) = true := decide_eq_true c7
    clear c7
    obtain ⟨c8, H⟩ := ifn H
    have c8b0 := eq_true c8
    have c8b1 : decide ((ji6) ≤ (a0.size : Int)) = true := decide_eq_true c8
    clear c8
    by_cases c9 : (a0.extract ((ji6) : Int).toNat a0.size).toList = a1.toList
    ·rw [if_pos c9] at H
     have c9b0 : ((a0.extract ((ji6) : Int).toNat a0.size).toList == a1.toList) = true := beq_iff_eq.mpr c9
     have c9b1 : ((a0.extract ((ji6) : Int).toNat a0.size).toList != a1.toList) = false := bne_eq_false_iff_eq.mpr c9
     clear c9
     obtain ⟨ji10, hji10⟩ : ∃ j_ : Int, (wrap64 ((ji6) - 1)) = j_ := ⟨_, rfl⟩
     replace H : (if 0 ≤ (ji10) then (if (ji10) < (a0.size : Int) then (some ((bt a0 (ji10)) == 46)) else (none)) else (none)) = some r := by first | (rw [hji10] at H; exact H) | (simp only [hji10] at H ⊢; exact H)
     have hji10w : (IntKind.i64.wrap ((ji6) - 1)) = ji10 := (i64_w _).trans hji10
     obtain ⟨c11, H⟩ := ifn H
     have c11b0 : decide (0 ≤ (ji10)) = true := decide_eq_true c11
     clear c11
     obtain ⟨c12, H⟩ := ifn H
     have c12b0 : decide ((ji10) < (a0.size : Int)) = true := decide_eq_true c12
     clear c12
     obtain rfl := Option.some.inj H
     have p13 : 0 ≤ ((ji10) : Int) := TD
     have q13 : (ji10) < (a0.size : Int) := TD
     have hx13 := bt_at a0 (ji10)
     replace p13 := eq_true p13
     replace q13 := eq_true q13
     go_enter Tryd.func74, Tryd.ntmps74
     go_wp2
     go_ret
     exact ⟨by first | rfl | (simp; done) | (simp only [← hji6, ← hji10] <;> (first | rfl | simp)) | (simp [*]; done), TN⟩
    ·rw [if_neg c9] at H
     have c9b0 : ((a0.extract ((ji6) : Int).toNat a0.size).toList == a1.toList) = false := beq_eq_false_iff_ne.mpr c9
     have c9b1 : ((a0.extract ((ji6) : Int).toNat a0.size).toList != a1.toList) = true := bne_iff_ne.mpr c9
     obtain rfl := Option.some.inj H
     go_enter Tryd.func74, Tryd.ntmps74
     go_wp2
     go_ret
     exact ⟨by first | rfl | (simp; done) | (simp only [← hji6] <;> (first | rfl | simp)) | (simp [*]; done), TN⟩
   ·rw [if_neg c5] at H
    have c5b0 : decide (0 < (wrap64 ((a0.size : Int) - (a1.size : Int)))) = false := decide_eq_false c5
    clear c5
    obtain rfl := Option.some.inj H
    go_enter Tryd.func74, Tryd.ntmps74
    go_wp2
    go_ret
    exact ⟨TF, TN⟩
end
section
/-! ### spec_l1Compare: function 75 -/
mutual
def spec_l1Compare.l0 : Nat → List ByteArray → List ByteArray → Int → Option (Int)
 | 0, _, _, _ => none
 | k + 1, x5, x7, x9 => if x9 ≤ (x5.length : Int) then (spec_l1Compare.j1 k x5 x7 x9 (decide (x9 ≤ (x7.length : Int)))) else (spec_l1Compare.j1 k x5 x7 x9 false)
def spec_l1Compare.j1 : Nat → List ByteArray → List ByteArray → Int → Bool → Option (Int)
 | 0, _, _, _, _ => none
 | k + 1, x5, x7, x9, x31 => if x31 = true then (if 0 ≤ (wrap64 ((x5.length : Int) - x9)) then (if (wrap64 ((x5.length : Int) - x9)) < (x5.length : Int) then (if 0 ≤ (wrap64 ((x7.length : Int) - x9)) then (if (wrap64 ((x7.length : Int) - x9)) < (x7.length : Int) then (if (Op.bytesLess ((rdOf ByteArray.empty x5 (wrap64 ((x5.length : Int) - x9))).toList) ((rdOf ByteArray.empty x7 (wrap64 ((x7.length : Int) - x9))).toList)) = true then (some (-1)) else (if (rdOf ByteArray.empty x5 (wrap64 ((x5.length : Int) - x9))).toList = (rdOf ByteArray.empty x7 (wrap64 ((x7.length : Int) - x9))).toList then (spec_l1Compare.l0 k x5 x7 (wrap64 (x9 + 1))) else (some 1))) else (none)) else (none)) else (none)) else (none)) else (if (x5.length : Int) < (x7.length : Int) then (some (-1)) else (if (x5.length : Int) > (x7.length : Int) then (some 1) else (some 0)))
end
def spec_l1Compare.f (k : Nat) (a0 : ByteArray) (a1 : ByteArray) : Option (Int) := (spec_l1Labels.f k a0).bind fun bt142 => ((spec_l1Labels.f k a1).bind fun bt146 => (spec_l1Compare.l0 k bt142.1 bt146.1 1))
theorem spec_l1Compare.calls (k : Nat) (a0 : ByteArray) (a1 : ByteArray) (r : Int) (w : World) (h : spec_l1Compare.f k a0 a1 = some r) :
  Calls Tryd.prog 75 #[.string a0, .string a1] w fun e w' => e = .returned (.int .i64 r) ∧ Below w.heap.size w w' := by
 have HB := Aside0.mk (Below.refl w.heap.size w)
 have H : ((spec_l1Labels.f k a0).bind fun bt142 => ((spec_l1Labels.f k a1).bind fun bt146 => (spec_l1Compare.l0 k bt142.1 bt146.1 1))) = some r := h
 clear h
 obtain ⟨⟨t142, t143⟩, A3, H⟩ := bnd H
 try dsimp only at H
 obtain ⟨⟨t146, t147⟩, A4, H⟩ := bnd H
 try dsimp only at H
 have H' := Aside0.mk H
 clear H
 go_enter Tryd.func75, Tryd.ntmps75
 go_wp2_with (first | ((with_reducible refine gate_callee (f := 101) rfl ?_); refine goesL_ (some 14) rfl rfl Tryd.func101 KR rfl #[.string a0] rfl TA ?_; (with_reducible refine (spec_l1Labels.calls k a0 t142 t143 _ A3.out).mono ?_); rintro e w5 ⟨v144, rfl, ho0, hb⟩; refine ⟨_, rfl, ?_⟩; have HO145 := RL ho0; replace HB := BS hb; clear hb; (try clear ho0)) | ((with_reducible refine gate_callee (f := 101) rfl ?_); refine goesL_ (some 19) rfl rfl Tryd.func101 KR rfl #[.string a1] rfl TA ?_; (with_reducible refine (spec_l1Labels.calls k a1 t146 t147 _ A4.out).mono ?_); rintro e w6 ⟨v148, rfl, ho0, hb⟩; refine ⟨_, rfl, ?_⟩; have HO149 := RL (NW ho0 HO145); replace HO145 := EL HO145 ho0 hb; replace HB := BS hb; clear hb; (try clear ho0)))
 go_loopg [9] k (fun kq v9 w' => ∃ (x9_1 : Int), v9 = .int .i64 x9_1 ∧ Aside0 (spec_l1Compare.l0 kq t142 t146 x9_1 = some r) ∧ Aside0 (kq ≤ k) ∧ Aside0 (Kd.R Kd.string 9 w' w.heap.size (fun k_ => some k_ ≠ (v148 : Value).ownBlock) v144 t142) ∧ Aside0 (Kd.R Kd.string 9 w' w.heap.size (fun k_ => some k_ ≠ (v144 : Value).ownBlock) v148 t146) ∧ Aside0 (Below w.heap.size w w'))
 case atStart => exact ⟨(1), TF, H', ⟨Nat.le_refl _⟩, MO HO145, MO HO149, ⟨TB⟩⟩
 case round =>
  clear H'
  obtain ⟨x9_1, rfl, HA, HK1, HO_5, HO_7, HB⟩ := hrel
  cases gk with
  | zero => exact absurd HA.out (by simp [spec_l1Compare.l0])
  | succ k1 =>
   have H := HA.out
   clear HA
   simp only [spec_l1Compare.l0] at H
   have HC7 := Aside0.mk H
   clear H
   go_upto_region 4 with (fail)
   go_cut [31] (fun v31 wc => ∃ (kq : Nat) (x31_6 : Bool), v31 = .bool x31_6 ∧ Aside0 (spec_l1Compare.j1 kq t142 t146 x9_1 x31_6 = some r) ∧ Aside0 (kq ≤ k1) ∧ Aside0 (Kd.R Kd.string 9 wc w.heap.size (fun k_ => some k_ ≠ (v148 : Value).ownBlock) v144 t142) ∧ Aside0 (Kd.R Kd.string 9 wc w.heap.size (fun k_ => some k_ ≠ (v144 : Value).ownBlock) v148 t146) ∧ Aside0 (Below w.heap.size w wc))
   case first =>
    have H := HC7.out
    clear HC7
    by_cases c8 : x9_1 ≤ (t142.length : Int)
    ·rw [if_pos c8] at H
     have c8b0 : decide (x9_1 ≤ (t142.length : Int)) = true := decide_eq_true c8
     clear c8
     (first | rw [c8b0] | (simp only [i64_w, i32_w]; rw [c8b0]) | skip)
     have H' := Aside0.mk H
     clear H
     obtain ⟨Ao9, co9, eo9⟩ := Kd.R_slice HO_5.out
     subst eo9
     obtain ⟨Ao10, co10, eo10⟩ := Kd.R_slice HO_7.out
     subst eo10
     go_wp2
     go_meet
     case rel => exact ⟨_, (decide (x9_1 ≤ (t146.length : Int))), TF, H', ⟨by have := HK1.out; first | omega | exact Nat.le_refl _⟩, RW HO_5, RW HO_7, ⟨TB⟩⟩
    ·rw [if_neg c8] at H
     have c8b0 : decide (x9_1 ≤ (t142.length : Int)) = false := decide_eq_false c8
     clear c8
     (first | rw [c8b0] | (simp only [i64_w, i32_w]; rw [c8b0]) | skip)
     have H' := Aside0.mk H
     clear H
     obtain ⟨Ao11, co11, eo11⟩ := Kd.R_slice HO_5.out
     subst eo11
     go_wp2
     go_meet
     case rel => exact ⟨_, (false), TF, H', ⟨by have := HK1.out; first | omega | exact Nat.le_refl _⟩, RW HO_5, RW HO_7, ⟨TB⟩⟩
   case rest =>
    clear HC7
    obtain ⟨kq, x31_6, rfl, HA, HJ6, HO_5, HO_7, HB⟩ := hcut
    cases kq with
    | zero => exact absurd HA.out (by simp [spec_l1Compare.j1])
    | succ kj6 =>
     have H := HA.out
     clear HA
     simp only [spec_l1Compare.j1] at H
     by_cases c12 : x31_6 = true
     ·subst c12
      replace H := ift H
      obtain ⟨ji13, hji13⟩ : ∃ j_ : Int, (wrap64 ((t142.length : Int) - x9_1)) = j_ := ⟨_, rfl⟩
      replace H : (if 0 ≤ (ji13) then (if (ji13) < (t142.length : Int) then (if 0 ≤ (wrap64 ((t146.length : Int) - x9_1)) then (if (wrap64 ((t146.length : Int) - x9_1)) < (t146.length : Int) then (if (Op.bytesLess ((rdOf ByteArray.empty t142 (ji13)).toList) ((rdOf ByteArray.empty t146 (wrap64 ((t146.length : Int) - x9_1))).toList)) = true then (some (-1)) else (if (rdOf ByteArray.empty t142 (ji13)).toList = (rdOf ByteArray.empty t146 (wrap64 ((t146.length : Int) - x9_1))).toList then (spec_l1Compare.l0 kj6 t142 t146 (wrap64 (x9_1 + 1))) else (some 1))) else (none)) else (none)) else (none)) else (none)) = some r := by first | (rw [hji13] at H; exact H) | (simp only [hji13] at H ⊢; exact H)
      have hji13w : (IntKind.i64.wrap ((t142.length : Int) - x9_1)) = ji13 := (i64_w _).trans hji13
      obtain ⟨c14, H⟩ := ifn H
      have c14b0 : decide (0 ≤ (ji13)) = true := decide_eq_true c14
      clear c14
      obtain ⟨c15, H⟩ := ifn H
      have c15b0 : decide ((ji13) < (t142.length : Int)) = true := decide_eq_true c15
      clear c15
      obtain ⟨ji16, hji16⟩ : ∃ j_ : Int, (wrap64 ((t146.length : Int) - x9_1)) = j_ := ⟨_, rfl⟩
      replace H : (if 0 ≤ (ji16) then (if (ji16) < (t146.length : Int) then (if (Op.bytesLess ((rdOf ByteArray.empty t142 (ji13)).toList) ((rdOf ByteArray.empty t146 (ji16)).toList)) = true then (some (-1)) else (if (rdOf ByteArray.empty t142 (ji13)).toList = (rdOf ByteArray.empty t146 (ji16)).toList then (spec_l1Compare.l0 kj6 t142 t146 (wrap64 (x9_1 + 1))) else (some 1))) else (none)) else (none)) = some r := by first | (rw [hji16] at H; exact H) | (simp only [hji16] at H ⊢; exact H)
      have hji16w : (IntKind.i64.wrap ((t146.length : Int) - x9_1)) = ji16 := (i64_w _).trans hji16
      obtain ⟨c17, H⟩ := ifn H
      have c17b0 : decide (0 ≤ (ji16)) = true := decide_eq_true c17
      clear c17
      obtain ⟨c18, H⟩ := ifn H
      have c18b0 : decide ((ji16) < (t146.length : Int)) = true := decide_eq_true c18
      clear c18
      by_cases c19 : (Op.bytesLess ((rdOf ByteArray.empty t142 (ji13)).toList) ((rdOf ByteArray.empty t146 (ji16)).toList)) = true
      ·rw [if_pos c19] at H
       have c19b0 : (Op.bytesLess ((rdOf ByteArray.empty t142 (ji13)).toList) ((rdOf ByteArray.empty t146 (ji16)).toList)) = true := c19
       clear c19
       obtain rfl := Option.some.inj H
       obtain ⟨Ao20, co20, eo20⟩ := Kd.R_slice HO_5.out
       subst eo20
       have p150 : 0 ≤ ((ji13) : Int) := TD
       have q150 : (ji13) < (t142.length : Int) := TD
       obtain ⟨ad150, e150, hx150_0⟩ := Kd.at_string (Kd.R_reads' HO_5.out).2.2 (ji13) p150 q150
       cases e150
       replace p150 := eq_true p150
       replace q150 := eq_true q150
       obtain ⟨Ao21, co21, eo21⟩ := Kd.R_slice HO_7.out
       subst eo21
       have p151 : 0 ≤ ((ji16) : Int) := TD
       have q151 : (ji16) < (t146.length : Int) := TD
       obtain ⟨ad151, e151, hx151_0⟩ := Kd.at_string (Kd.R_reads' HO_7.out).2.2 (ji16) p151 q151
       cases e151
       replace p151 := eq_true p151
       replace q151 := eq_true q151
       go_wp2
       go_ret
       exact ⟨by first | rfl | (simp [errW_none, errW_some] <;> rfl) | (simp only [← hji13, ← hji16]; first | rfl | (simp [errW_none, errW_some] <;> rfl)) | (simp [*, errW_none, errW_some] <;> rfl), TB⟩
      ·rw [if_neg c19] at H
       have c19b0 : (Op.bytesLess ((rdOf ByteArray.empty t142 (ji13)).toList) ((rdOf ByteArray.empty t146 (ji16)).toList)) = false := by simpa using c19
       clear c19
       by_cases c22 : (rdOf ByteArray.empty t142 (ji13)).toList = (rdOf ByteArray.empty t146 (ji16)).toList
       ·rw [if_pos c22] at H
        have c22b0 : ((rdOf ByteArray.empty t142 (ji13)).toList == (rdOf ByteArray.empty t146 (ji16)).toList) = true := beq_iff_eq.mpr c22
        have c22b1 : ((rdOf ByteArray.empty t142 (ji13)).toList != (rdOf ByteArray.empty t146 (ji16)).toList) = false := bne_eq_false_iff_eq.mpr c22
        clear c22
        have H' := Aside0.mk H
        clear H
        obtain ⟨Ao23, co23, eo23⟩ := Kd.R_slice HO_5.out
        subst eo23
        have p150 : 0 ≤ ((ji13) : Int) := TD
        have q150 : (ji13) < (t142.length : Int) := TD
        obtain ⟨ad150, e150, hx150_0⟩ := Kd.at_string (Kd.R_reads' HO_5.out).2.2 (ji13) p150 q150
        cases e150
        replace p150 := eq_true p150
        replace q150 := eq_true q150
        obtain ⟨Ao24, co24, eo24⟩ := Kd.R_slice HO_7.out
        subst eo24
        have p151 : 0 ≤ ((ji16) : Int) := TD
        have q151 : (ji16) < (t146.length : Int) := TD
        obtain ⟨ad151, e151, hx151_0⟩ := Kd.at_string (Kd.R_reads' HO_7.out).2.2 (ji16) p151 q151
        cases e151
        replace p151 := eq_true p151
        replace q151 := eq_true q151
        go_wp2
        go_roundg kj6
        case measure => have := HK1.out; have := HJ6.out; omega
        case rel => exact ⟨(wrap64 (x9_1 + 1)), TF, H', ⟨by have := HK1.out; have := HJ6.out; omega⟩, RW HO_5, RW HO_7, ⟨TB⟩⟩
       ·rw [if_neg c22] at H
        have c22b0 : ((rdOf ByteArray.empty t142 (ji13)).toList == (rdOf ByteArray.empty t146 (ji16)).toList) = false := beq_eq_false_iff_ne.mpr c22
        have c22b1 : ((rdOf ByteArray.empty t142 (ji13)).toList != (rdOf ByteArray.empty t146 (ji16)).toList) = true := bne_iff_ne.mpr c22
        obtain rfl := Option.some.inj H
        obtain ⟨Ao25, co25, eo25⟩ := Kd.R_slice HO_5.out
        subst eo25
        have p150 : 0 ≤ ((ji13) : Int) := TD
        have q150 : (ji13) < (t142.length : Int) := TD
        obtain ⟨ad150, e150, hx150_0⟩ := Kd.at_string (Kd.R_reads' HO_5.out).2.2 (ji13) p150 q150
        cases e150
        replace p150 := eq_true p150
        replace q150 := eq_true q150
        obtain ⟨Ao26, co26, eo26⟩ := Kd.R_slice HO_7.out
        subst eo26
        have p151 : 0 ≤ ((ji16) : Int) := TD
        have q151 : (ji16) < (t146.length : Int) := TD
        obtain ⟨ad151, e151, hx151_0⟩ := Kd.at_string (Kd.R_reads' HO_7.out).2.2 (ji16) p151 q151
        cases e151
        replace p151 := eq_true p151
        replace q151 := eq_true q151
        go_wp2
        go_ret
        exact ⟨by first | rfl | (simp [errW_none, errW_some] <;> rfl) | (simp only [← hji13, ← hji16]; first | rfl | (simp [errW_none, errW_some] <;> rfl)) | (simp [*, errW_none, errW_some] <;> rfl), TB⟩
     ·replace c12 := Bool.eq_false_iff.mpr c12
      subst c12
      replace H := iff' H
      by_cases c27 : (t142.length : Int) < (t146.length : Int)
      ·rw [if_pos c27] at H
       have c27b0 : decide ((t142.length : Int) < (t146.length : Int)) = true := decide_eq_true c27
       have c27b1 : decide (t142.length < t146.length) = true := decide_eq_true (Int.ofNat_lt.mp c27)
       clear c27
       obtain rfl := Option.some.inj H
       obtain ⟨Ao28, co28, eo28⟩ := Kd.R_slice HO_5.out
       subst eo28
       obtain ⟨Ao29, co29, eo29⟩ := Kd.R_slice HO_7.out
       subst eo29
       go_wp2
       go_ret
       exact ⟨TE, TB⟩
      ·rw [if_neg c27] at H
       have c27b0 : decide ((t142.length : Int) < (t146.length : Int)) = false := decide_eq_false c27
       have c27b1 : decide (t142.length < t146.length) = false := decide_eq_false (fun h => c27 (Int.ofNat_lt.mpr h))
       clear c27
       by_cases c30 : (t142.length : Int) > (t146.length : Int)
       ·rw [if_pos c30] at H
        have c30b0 : decide ((t146.length : Int) < (t142.length : Int)) = true := decide_eq_true c30
        have c30b1 : decide (t146.length < t142.length) = true := decide_eq_true (Int.ofNat_lt.mp c30)
        clear c30
        obtain rfl := Option.some.inj H
        obtain ⟨Ao31, co31, eo31⟩ := Kd.R_slice HO_5.out
        subst eo31
        obtain ⟨Ao32, co32, eo32⟩ := Kd.R_slice HO_7.out
        subst eo32
        go_wp2
        go_ret
        exact ⟨TE, TB⟩
       ·rw [if_neg c30] at H
        have c30b0 : decide ((t146.length : Int) < (t142.length : Int)) = false := decide_eq_false c30
        have c30b1 : decide (t146.length < t142.length) = false := decide_eq_false (fun h => c30 (Int.ofNat_lt.mpr h))
        clear c30
        obtain rfl := Option.some.inj H
        obtain ⟨Ao33, co33, eo33⟩ := Kd.R_slice HO_5.out
        subst eo33
        obtain ⟨Ao34, co34, eo34⟩ := Kd.R_slice HO_7.out
        subst eo34
        go_wp2
        go_ret
        exact ⟨TE, TB⟩
end
section
/-! ### spec_l1Has: function 103 -/
def spec_l1Has.l0 : Nat → Int → List Int → Int → Int → Option (Bool)
 | 0, _, _, _, _ => none
 | k + 1, x1, x7, x8, x9 => if x9 < x8 then (if 0 ≤ x9 then (if x9 < (x7.length : Int) then (if (rd x7 x9) = x1 then (some true) else (spec_l1Has.l0 k x1 x7 x8 (wrap64 (x9 + 1)))) else (none)) else (none)) else (some false)
def spec_l1Has.f (k : Nat) (l0 : List Int) (a1 : Int) : Option (Bool) := spec_l1Has.l0 k a1 l0 (l0.length : Int) 0
theorem spec_l1Has.calls (k : Nat) (A0 : Option Addr) (c0 : Nat) (l0 : List Int) (a1 : Int) (r : Bool) (w : World) (hr0 : Kd.C (Kd.int .i64) w A0 l0.length l0) (hc0 : l0.length ≤ c0) (h : spec_l1Has.f k l0 a1 = some r) :
  Calls Tryd.prog 103 #[.slice A0 l0.length c0, .int .i64 a1] w fun e w' => e = .returned (.bool r) ∧ Drawn0 w w' := by
 have HR0 := Aside0.mk hr0
 have HC0 := Aside0.mk hc0
 clear hr0 hc0
 have H : (spec_l1Has.l0 k a1 l0 (l0.length : Int) 0) = some r := h
 clear h
 have H' := Aside0.mk H
 clear H
 go_enter Tryd.func103, Tryd.ntmps103
 go_wp2
 go_loopg [9] k (fun kq v9 w' => ∃ (x9_1 : Int), v9 = .int .i64 x9_1 ∧ Aside0 (spec_l1Has.l0 kq a1 l0 (l0.length : Int) x9_1 = some r) ∧ Aside0 (kq ≤ k) ∧ Drawn0 w w')
 case atStart => exact ⟨(0), TF, H', ⟨Nat.le_refl _⟩, TN⟩
 case round =>
  clear H'
  obtain ⟨x9_1, rfl, HA, HK1, ⟨m1, rfl⟩⟩ := hrel
  cases gk with
  | zero => exact absurd HA.out (by simp [spec_l1Has.l0])
  | succ k1 =>
   have H := HA.out
   clear HA
   simp only [spec_l1Has.l0] at H
   by_cases c3 : x9_1 < (l0.length : Int)
   ·rw [if_pos c3] at H
    have c3b0 : decide (x9_1 < (l0.length : Int)) = true := decide_eq_true c3
    clear c3
    obtain ⟨c4, H⟩ := ifn H
    have c4b0 : decide (0 ≤ x9_1) = true := decide_eq_true c4
    clear c4
    obtain ⟨c5, H⟩ := ifn H
    have c5b0 : decide (x9_1 < (l0.length : Int)) = true := decide_eq_true c5
    clear c5
    by_cases c6 : (rd l0 x9_1) = a1
    ·rw [if_pos c6] at H
     have c6b0 : ((rd l0 x9_1) == a1) = true := beq_iff_eq.mpr c6
     have c6b1 : ((rd l0 x9_1) != a1) = false := bne_eq_false_iff_eq.mpr c6
     clear c6
     obtain rfl := Option.some.inj H
     have p393 : 0 ≤ (x9_1 : Int) := TD
     have q393 : x9_1 < (l0.length : Int) := TD
     obtain ⟨ad393, e393, hx393_0⟩ := Kd.at_int HR0.out x9_1 p393 q393
     cases e393
     replace p393 := eq_true p393
     replace q393 := eq_true q393
     go_wp2
     go_ret
     exact ⟨TF, TN⟩
    ·rw [if_neg c6] at H
     have c6b0 : ((rd l0 x9_1) == a1) = false := beq_eq_false_iff_ne.mpr c6
     have c6b1 : ((rd l0 x9_1) != a1) = true := bne_iff_ne.mpr c6
     have H' := Aside0.mk H
     clear H
     have p393 : 0 ≤ (x9_1 : Int) := TD
     have q393 : x9_1 < (l0.length : Int) := TD
     obtain ⟨ad393, e393, hx393_0⟩ := Kd.at_int HR0.out x9_1 p393 q393
     cases e393
     replace p393 := eq_true p393
     replace q393 := eq_true q393
     go_wp2
     go_roundg k1
     case measure => have := HK1.out; omega
     case rel => exact ⟨(wrap64 (x9_1 + 1)), TF, H', ⟨TM⟩, TN⟩
   ·rw [if_neg c3] at H
    have c3b0 : decide (x9_1 < (l0.length : Int)) = false := decide_eq_false c3
    clear c3
    obtain rfl := Option.some.inj H
    go_wp2
    go_ret
    exact ⟨TF, TN⟩
end
section
/-! ### spec_l3Type: function 76 -/
def spec_l3Type.f (k : Nat) (a0 : Int) : Option (Bool) := (spec_l1Has.f k (([1, 2, 5, 6, 15, 16] : List Int)) a0).bind fun t397 => (some t397)
theorem spec_l3Type.calls (k : Nat) (a0 : Int) (r : Bool) (w : World) (h : spec_l3Type.f k a0 = some r) :
  Calls Tryd.prog 76 #[.int .i64 a0] w fun e w' => e = .returned (.bool r) ∧ Below w.heap.size w w' := by
 have HB := Aside0.mk (Below.refl w.heap.size w)
 have H : ((spec_l1Has.f k (([1, 2, 5, 6, 15, 16] : List Int)) a0).bind fun t397 => (some t397)) = some r := h
 clear h
 obtain ⟨y394, hy394⟩ : ∃ y_ : List Int, y_ = (([1, 2, 5, 6, 15, 16] : List Int)) := ⟨_, rfl⟩
 replace H : ((spec_l1Has.f k y394 a0).bind fun t397 => (some t397)) = some r := by first | (rw [hy394]; with_reducible exact H) | (have H2_ := (Option.bind_some _ _).symm.trans H; rw [hy394]; with_reducible exact H2_) | (have H2_ := (Option.bind_some _ _).symm.trans H; with_reducible exact H2_) | with_reducible exact H | (rw [hy394]; exact H) | exact H
 have Ny394 := Aside0.mk hy394
 clear hy394
 obtain ⟨t397, A2, H⟩ := bnd H
 obtain rfl := Option.some.inj H
 go_enter Tryd.func76, Tryd.ntmps76
 go_wp2_with (first | ((with_reducible refine gate_dst (N := 3) rfl ?_); refine Kd.R_lit (Kd.int .i64) _ 3 ?hg (N := 3) ?hd (xs := ([1, 2, 5, 6, 15, 16] : List Int)) (inner := [.int .i64 1, .int .i64 2, .int .i64 5, .int .i64 6, .int .i64 15, .int .i64 16]) (ok := fun _ => True) (okp := fun _ => True) ?hr ?hp (fun _ hk => hk) trivial (Below.refl _ _) (Nat.le_refl _) (by simp) ?_; (case hd => rfl); (case hg => rfl); (case hr => first | (go_simp; done) | (go_simp; rfl)); (case hp => exact (Reps.one (show Kd.M (Kd.int .i64) _ _ _ 1 [.int .i64 1] from rfl) (Reps.one (show Kd.M (Kd.int .i64) _ _ _ 2 [.int .i64 2] from rfl) (Reps.one (show Kd.M (Kd.int .i64) _ _ _ 5 [.int .i64 5] from rfl) (Reps.one (show Kd.M (Kd.int .i64) _ _ _ 6 [.int .i64 6] from rfl) (Reps.one (show Kd.M (Kd.int .i64) _ _ _ 15 [.int .i64 15] from rfl) (Reps.one (show Kd.M (Kd.int .i64) _ _ _ 16 [.int .i64 16] from rfl) (Reps.none _ _)))))))); intro v395 w3 ho4 hb hg_ hnew_; clear hg_ hnew_; (first | rw [← Ny394.out] at ho4 | (simp only [Int.reduceToNat] at ho4; rw [← Ny394.out] at ho4)); have HO396 := RL ho4; replace HB := BS hb; clear hb ho4; obtain ⟨Ao5, co5, eo5⟩ := Kd.R_slice HO396.out; subst eo5) | ((with_reducible refine gate_callee (f := 103) rfl ?_); refine goesL_ (some 5) rfl rfl Tryd.func103 KR rfl #[.slice Ao5 y394.length co5, .int .i64 a0] rfl TA ?_; (with_reducible refine (spec_l1Has.calls k _ _ y394 a0 t397 _ ?side1 ?side2 A2.out).mono ?_); (case side1 => exact CW ((Kd.R_reads' HO396.out).2.2)); (case side2 => exact RI HO396); rintro e w' ⟨rfl, ⟨nd, rfl⟩⟩; refine ⟨_, rfl, ?_⟩))
 go_ret
 exact ⟨TE, TB⟩
end
section
/-! ### spec_GoodGaps: function 39 -/
mutual
def spec_GoodGaps.j0 : Nat → ByteArray → List (S_Gap) → Bool → Option (Bool)
 | 0, _, _, _ => none
 | k + 1, x0, x1, x25 => if x25 = true then (some false) else (spec_GoodGaps.l0 k x0 x1 x1 (x1.length : Int) 0)
def spec_GoodGaps.l0 : Nat → ByteArray → List (S_Gap) → List (S_Gap) → Int → Int → Option (Bool)
 | 0, _, _, _, _, _ => none
 | k + 1, x0, x1, x26, x27, x28 => if x28 < x27 then (if 0 ≤ x28 then (if x28 < (x26.length : Int) then ((spec_GoodName.f k ((rd_TGap x26 x28).f0)).bind fun t403 => (if t403 = true then ((spec_l1Below.f ((rd_TGap x26 x28).f0) x0).bind fun t404 => (if t404 = true then (if x28 > 0 then (if 0 ≤ (wrap64 (x28 - 1)) then (if (wrap64 (x28 - 1)) < (x1.length : Int) then ((spec_l1Compare.f k ((rd_TGap x1 (wrap64 (x28 - 1))).f0) ((rd_TGap x26 x28).f0)).bind fun t406 => (if t406 ≥ 0 then (spec_GoodGaps.j2 k x0 x1 x26 x27 x28 true ((rd_TGap x26 x28).f0) ((rd_TGap x26 x28).f1) ((rd_TGap x26 x28).f2)) else (if (x1.length : Int) = 0 then (none) else (if 0 ≤ (Int.tmod (wrap64 (x28 + 1)) (x1.length : Int)) then (if (Int.tmod (wrap64 (x28 + 1)) (x1.length : Int)) < (x1.length : Int) then (if ((rd_TGap x26 x28).f1).toList = ((rd_TGap x1 (Int.tmod (wrap64 (x28 + 1)) (x1.length : Int))).f0).toList then (spec_GoodGaps.j2 k x0 x1 x26 x27 x28 ((((rd_TGap x26 x28).f2).length : Int) == 0) ((rd_TGap x26 x28).f0) ((rd_TGap x26 x28).f1) ((rd_TGap x26 x28).f2)) else (spec_GoodGaps.j2 k x0 x1 x26 x27 x28 true ((rd_TGap x26 x28).f0) ((rd_TGap x26 x28).f1) ((rd_TGap x26 x28).f2))) else (none)) else (none))))) else (none)) else (none)) else (if (x1.length : Int) = 0 then (none) else (if 0 ≤ (Int.tmod (wrap64 (x28 + 1)) (x1.length : Int)) then (if (Int.tmod (wrap64 (x28 + 1)) (x1.length : Int)) < (x1.length : Int) then (if ((rd_TGap x26 x28).f1).toList = ((rd_TGap x1 (Int.tmod (wrap64 (x28 + 1)) (x1.length : Int))).f0).toList then (spec_GoodGaps.j2 k x0 x1 x26 x27 x28 ((((rd_TGap x26 x28).f2).length : Int) == 0) ((rd_TGap x26 x28).f0) ((rd_TGap x26 x28).f1) ((rd_TGap x26 x28).f2)) else (spec_GoodGaps.j2 k x0 x1 x26 x27 x28 true ((rd_TGap x26 x28).f0) ((rd_TGap x26 x28).f1) ((rd_TGap x26 x28).f2))) else (none)) else (none)))) else (spec_GoodGaps.j2 k x0 x1 x26 x27 x28 true ((rd_TGap x26 x28).f0) ((rd_TGap x26 x28).f1) ((rd_TGap x26 x28).f2)))) else (spec_GoodGaps.j2 k x0 x1 x26 x27 x28 true ((rd_TGap x26 x28).f0) ((rd_TGap x26 x28).f1) ((rd_TGap x26 x28).f2)))) else (none)) else (none)) else (some true)
def spec_GoodGaps.j2 : Nat → ByteArray → List (S_Gap) → List (S_Gap) → Int → Int → Bool → ByteArray → ByteArray → List Int → Option (Bool)
 | 0, _, _, _, _, _, _, _, _, _ => none
 | k + 1, x0, x1, x26, x27, x28, x79, x403000, x403001, x403002 => if x79 = true then (some false) else (spec_GoodGaps.l1 k x0 x1 x26 x27 x28 x403002 (x403002.length : Int) 0 x403000 x403001 x403002)
def spec_GoodGaps.l1 : Nat → ByteArray → List (S_Gap) → List (S_Gap) → Int → Int → List Int → Int → Int → ByteArray → ByteArray → List Int → Option (Bool)
 | 0, _, _, _, _, _, _, _, _, _, _, _ => none
 | k + 1, x0, x1, x26, x27, x28, x81, x82, x83, x403000, x403001, x403002 => if x83 < x82 then (if 0 ≤ x83 then (if x83 < (x81.length : Int) then ((spec_l3Type.f k (rd x81 x83)).bind fun t410 => (if t410 = true then (if x83 > 0 then (if 0 ≤ (wrap64 (x83 - 1)) then (if (wrap64 (x83 - 1)) < (x403002.length : Int) then (if (rd x403002 (wrap64 (x83 - 1))) ≥ (rd x81 x83) then (some false) else (spec_GoodGaps.l1 k x0 x1 x26 x27 x28 x81 x82 (wrap64 (x83 + 1)) x403000 x403001 x403002)) else (none)) else (none)) else (spec_GoodGaps.l1 k x0 x1 x26 x27 x28 x81 x82 (wrap64 (x83 + 1)) x403000 x403001 x403002)) else (some false))) else (none)) else (none)) else (spec_GoodGaps.l0 k x0 x1 x26 x27 (wrap64 (x28 + 1)))
end
def spec_GoodGaps.f (k : Nat) (a0 : ByteArray) (l1 : List (S_Gap)) : Option (Bool) := (spec_GoodName.f k a0).bind fun t398 => (if t398 = true then ((spec_l1In.f (l1.length : Int) 1 40).bind fun t399 => (if t399 = true then (if 0 < (l1.length : Int) then (spec_GoodGaps.j0 k a0 l1 (((rd_TGap l1 0).f0).toList != a0.toList)) else (none)) else (spec_GoodGaps.j0 k a0 l1 true))) else (spec_GoodGaps.j0 k a0 l1 true))
def spec_GoodGaps.T6 : Bool × List (List Nat × List Nat) := (true, [([], []), ([0], [0]), ([1], [1]), ([2], [2]), ([3, 2], [3]), ([4], [4]), ([5, 4], [4, 5]), ([4], [4]), ([6, 7, 4, 4], [4, 6, 7]), ([8, 4], [4, 8]), ([4, 9], [4, 9]), ([10, 8], [10]), ([11], [11]), ([12, 11], [11, 12]), ([13, 11, 11], [11, 13]), ([14], [14]), ([14], [14]), ([16, 14], [14, 16]), ([15, 17, 14], [14, 15, 17]), ([18, 14], [14, 18]), ([19, 14], [14, 19]), ([14], [14]), ([21, 14], [14, 21]), ([20, 22, 14, 14], [14, 20, 22]), ([23, 14], [14, 23]), ([14, 24, 11], [11, 14, 24]), ([11, 25], [11, 25]), ([26, 23], [26]), ([27], [27]), ([28, 27], [27, 28]), ([27], [27]), ([27], [27]), ([31, 27], [27, 31]), ([27], [27]), ([33, 27], [27, 33]), ([32, 34, 27], [27, 32, 34]), ([30, 35, 27], [27, 30, 35]), ([36, 27], [27, 36]), ([37, 27], [27, 37]), ([29, 38, 27], [27, 29, 38]), ([27, 39], [27, 39]), ([40, 27], [40]), ([41], [41]), ([42, 41], [41, 42]), ([43, 41], [41, 43]), ([44, 41], [41, 44]), ([41, 45], [41, 45])])
def spec_GoodGaps.B6 : List Nat := [0, 1, 3, 7, 15, 31, 63, 31, 255, 511, 1023, 2047, 4095, 8191, 16383, 32767, 32767, 98303, 262143, 524287, 1048575, 32767, 2129919, 8388607, 16777215, 33554431, 67108863, 134217727, 268435455, 536870911, 268435455, 268435455, 2415919103, 268435455, 8858370047, 32480690175, 67914170367, 136633647103, 274072600575, 549755813887, 1099511627775, 2199023255551, 4398046511103, 8796093022207, 17592186044415, 35184372088831, 70368744177663]
theorem spec_GoodGaps.tab6 : rtab .any (opsOf Tryd.f39 6) = spec_GoodGaps.T6 := by kernel_rfl
theorem spec_GoodGaps.bits6 : waitsOk spec_GoodGaps.T6.2 spec_GoodGaps.B6 = true := by kernel_rfl
theorem spec_GoodGaps.calls (k : Nat) (a0 : ByteArray) (A1 : Option Addr) (c1 : Nat) (l1 : List (S_Gap)) (r : Bool) (w : World) (hr1 : Kd.C k_Gap w A1 l1.length l1) (hc1 : l1.length ≤ c1) (h : spec_GoodGaps.f k a0 l1 = some r) :
  Calls Tryd.prog 39 #[.string a0, .slice A1 l1.length c1] w fun e w' => e = .returned (.bool r) ∧ Below w.heap.size w w' := by
 have hu44 := Tryd.underlying44
 have HR1 := Aside0.mk hr1
 have HC1 := Aside0.mk hc1
 clear hr1 hc1
 have HB := Aside0.mk (Below.refl w.heap.size w)
 have H : ((spec_GoodName.f k a0).bind fun t398 => (if t398 = true then ((spec_l1In.f (l1.length : Int) 1 40).bind fun t399 => (if t399 = true then (if 0 < (l1.length : Int) then (spec_GoodGaps.j0 k a0 l1 (((rd_TGap l1 0).f0).toList != a0.toList)) else (none)) else (spec_GoodGaps.j0 k a0 l1 true))) else (spec_GoodGaps.j0 k a0 l1 true))) = some r := h
 clear h
 have HC3 := Aside0.mk H
 clear H
 go_enter Tryd.func39, Tryd.ntmps39
 go_upto_region 1 with (fail)
 go_cut [25] (fun v25 wc => ∃ (kq : Nat) (x25_2 : Bool), v25 = .bool x25_2 ∧ Aside0 (spec_GoodGaps.j0 kq a0 l1 x25_2 = some r) ∧ Aside0 (kq ≤ k) ∧ Aside0 (Below w.heap.size w wc))
 case first =>
  have H := HC3.out
  clear HC3
  obtain ⟨t398, A4, H⟩ := bnd H
  by_cases c5 : t398 = true
  ·subst c5
   replace H := ift H
   obtain ⟨t399, A6, H⟩ := bnd H
   by_cases c7 : t399 = true
   ·subst c7
    replace H := ift H
    obtain ⟨c8, H⟩ := ifn H
    have c8b0 : decide (0 < (l1.length : Int)) = true := decide_eq_true c8
    have c8b1 : decide (0 < l1.length) = true := decide_eq_true (by omega)
    clear c8
    (first | rw [c8b0] | (simp only [i64_w, i32_w]; rw [c8b0]) | rw [c8b1] | skip)
    have H' := Aside0.mk H
    clear H
    go_wp2_with (first | ((with_reducible refine gate_callee (f := 65) rfl ?_); refine goesL_ (some 10) rfl rfl Tryd.func65 KR rfl #[.string a0] rfl TA ?_; (with_reducible refine (spec_GoodName.calls k a0 true _ A4.out).mono ?_); rintro e w9 ⟨rfl, hb⟩; refine ⟨_, rfl, ?_⟩; replace HB := BS hb; clear hb) | (go_at_call 53; (with_reducible refine (spec_l1In.calls (l1.length : Int) 1 40 true _ A6.out).mono ?_); rintro e w' ⟨rfl, ⟨nd, rfl⟩⟩; have p400 : 0 ≤ (0 : Int) := (by omega); have q400 : 0 < (l1.length : Int) := TD; obtain ⟨ad400, A400_2, c400_2, e400, hx400_0, hx400_1, hx400_2, hl400_2, hi400_2⟩ := at_TGap HR1.out 0 p400 q400; have hw400_2 := hx400_2; cases e400; have qi400 : (0 < l1.length) = True := eq_true (by omega); (try rw [show ((0 : Int)).toNat = 0 from rfl] at hx400_0); (try rw [show 0 * 3 = 0 from rfl] at hx400_0); (try rw [Addr.add_zero'] at hx400_0); (try rw [show ((0 : Int)).toNat = 0 from rfl] at hx400_1); (try rw [show 0 * 3 = 0 from rfl] at hx400_1); (try rw [Addr.add_zero'] at hx400_1); (try rw [show ((0 : Int)).toNat = 0 from rfl] at hx400_2); (try rw [show 0 * 3 = 0 from rfl] at hx400_2); (try rw [Addr.add_zero'] at hx400_2); replace hx400_0 := hBc HB hx400_0; replace hx400_1 := hBc HB hx400_1; replace hx400_2 := hBc HB hx400_2; have HR400_2 := Aside0.mk hi400_2; have HC400_2 := Aside0.mk hl400_2; clear hi400_2 hl400_2; replace p400 := eq_true p400; replace q400 := eq_true q400))
    go_meet
    case rel => exact ⟨_, ((((rd_TGap l1 0).f0).toList != a0.toList)), TF, H', ⟨by first | omega | exact Nat.le_refl _⟩, ⟨TB⟩⟩
   ·replace c7 := Bool.eq_false_iff.mpr c7
    subst c7
    replace H := iff' H
    have H' := Aside0.mk H
    clear H
    go_wp2_with (first | ((with_reducible refine gate_callee (f := 65) rfl ?_); refine goesL_ (some 10) rfl rfl Tryd.func65 KR rfl #[.string a0] rfl TA ?_; (with_reducible refine (spec_GoodName.calls k a0 true _ A4.out).mono ?_); rintro e w10 ⟨rfl, hb⟩; refine ⟨_, rfl, ?_⟩; replace HB := BS hb; clear hb) | (go_at_call 53; (with_reducible refine (spec_l1In.calls (l1.length : Int) 1 40 false _ A6.out).mono ?_); rintro e w' ⟨rfl, ⟨nd, rfl⟩⟩))
    go_meet
    case rel => exact ⟨_, (true), TF, H', ⟨by first | omega | exact Nat.le_refl _⟩, ⟨TB⟩⟩
  ·replace c5 := Bool.eq_false_iff.mpr c5
   subst c5
   replace H := iff' H
   have H' := Aside0.mk H
   clear H
   go_wp2_with (first | ((with_reducible refine gate_callee (f := 65) rfl ?_); refine goesL_ (some 10) rfl rfl Tryd.func65 KR rfl #[.string a0] rfl TA ?_; (with_reducible refine (spec_GoodName.calls k a0 false _ A4.out).mono ?_); rintro e w11 ⟨rfl, hb⟩; refine ⟨_, rfl, ?_⟩; replace HB := BS hb; clear hb))
   go_meet
   case rel => exact ⟨_, (true), TF, H', ⟨by first | omega | exact Nat.le_refl _⟩, ⟨TB⟩⟩
 case rest =>
  clear HC3
  obtain ⟨kq, x25_2, rfl, HA, HJ2, HB⟩ := hcut
  cases kq with
  | zero => exact absurd HA.out (by simp [spec_GoodGaps.j0])
  | succ kj2 =>
   have H := HA.out
   clear HA
   simp only [spec_GoodGaps.j0] at H
   by_cases c12 : x25_2 = true
   ·subst c12
    replace H := ift H
    obtain rfl := Option.some.inj H
    go_wp2
    go_ret
    exact ⟨TE, TB⟩
   ·replace c12 := Bool.eq_false_iff.mpr c12
    subst c12
    replace H := iff' H
    have H' := Aside0.mk H
    clear H
    go_wp2
    go_loopg [28] kj2 (fun kq v28 w' => ∃ (x28_2 : Int), v28 = .int .i64 x28_2 ∧ Aside0 (spec_GoodGaps.l0 kq a0 l1 l1 (l1.length : Int) x28_2 = some r) ∧ Aside0 (kq ≤ kj2) ∧ Aside0 (Below w.heap.size w w'))
    case atStart => exact ⟨(0), TF, H', ⟨Nat.le_refl _⟩, ⟨TB⟩⟩
    case round =>
     clear H'
     obtain ⟨x28_2, rfl, HA, HK2, HB⟩ := hrel
     cases gk with
     | zero => exact absurd HA.out (by simp [spec_GoodGaps.l0])
     | succ k2 =>
      have H := HA.out
      clear HA
      simp only [spec_GoodGaps.l0] at H
      by_cases c13 : x28_2 < (l1.length : Int)
      ·rw [if_pos c13] at H
       have c13b0 : decide (x28_2 < (l1.length : Int)) = true := decide_eq_true c13
       clear c13
       obtain ⟨c14, H⟩ := ifn H
       have c14b0 : decide (0 ≤ x28_2) = true := decide_eq_true c14
       clear c14
       obtain ⟨c15, H⟩ := ifn H
       have c15b0 : decide (x28_2 < (l1.length : Int)) = true := decide_eq_true c15
       clear c15
       have HC16 := Aside0.mk H
       clear H
       have p401 : 0 ≤ (x28_2 : Int) := TD
       have q401 : x28_2 < (l1.length : Int) := TD
       obtain ⟨ad401, A401_2, c401_2, e401, hx401_0, hx401_1, hx401_2, hl401_2, hi401_2⟩ := at_TGap HR1.out x28_2 p401 q401
       have hw401_2 := hx401_2
       cases e401
       replace hx401_0 := hBc HB hx401_0
       replace hx401_1 := hBc HB hx401_1
       replace hx401_2 := hBc HB hx401_2
       have HR401_2 := Aside0.mk hi401_2
       have HC401_2 := Aside0.mk hl401_2
       clear hi401_2 hl401_2
       replace p401 := eq_true p401
       replace q401 := eq_true q401
       go_upto_region 6 with (first | ((with_reducible refine gate_dst (N := 6) rfl ?_); (try (refine gate_guard (by rfl) ?_; dsimp only)); refine bE 6 #[.string (⟨#[]⟩ : ByteArray), .string (⟨#[]⟩ : ByteArray), .slice none 0 0] 44 ?_; intro gb402 hg w17 hbox hb; have BK402 := Aside0.mk (hbox); have GE402 := bG hg; replace HB := BS hb; clear hb hbox hg; have hcz18 := cz3 BK402))
       (try simp only [Act.put, List.setIfInBounds_toArray, List.set_cons_zero, List.set_cons_succ])
       go_cut [79] (fun v79 wc => ∃ (kq : Nat) (x79_15 : Bool), v79 = .bool x79_15 ∧ Aside0 (spec_GoodGaps.j2 kq a0 l1 l1 (l1.length : Int) x28_2 x79_15 ((rd_TGap l1 x28_2).f0) ((rd_TGap l1 x28_2).f1) ((rd_TGap l1 x28_2).f2) = some r) ∧ Aside0 (kq ≤ k2) ∧ Aside0 (wc.heap[gb402]? = some (.cells #[.string ((rd_TGap l1 x28_2).f0), .string ((rd_TGap l1 x28_2).f1), (.slice A401_2 ((rd_TGap l1 x28_2).f2).length c401_2)] 44 (0, 0))) ∧ Aside0 (Below w.heap.size w wc))
       case first =>
        have H := HC16.out
        clear HC16
        obtain ⟨t403, A19, H⟩ := bnd H
        by_cases c20 : t403 = true
        ·subst c20
         replace H := ift H
         obtain ⟨t404, A21, H⟩ := bnd H
         by_cases c22 : t404 = true
         ·subst c22
          replace H := ift H
          by_cases c23 : x28_2 > 0
          ·rw [if_pos c23] at H
           have c23b0 : decide (0 < x28_2) = true := decide_eq_true c23
           clear c23
           (first | rw [c23b0] | (simp only [i64_w, i32_w]; rw [c23b0]) | skip)
           obtain ⟨ji24, hji24⟩ : ∃ j_ : Int, (wrap64 (x28_2 - 1)) = j_ := ⟨_, rfl⟩
           replace H : (if 0 ≤ (ji24) then (if (ji24) < (l1.length : Int) then ((spec_l1Compare.f k2 ((rd_TGap l1 (ji24)).f0) ((rd_TGap l1 x28_2).f0)).bind fun t406 => (if t406 ≥ 0 then (spec_GoodGaps.j2 k2 a0 l1 l1 (l1.length : Int) x28_2 true ((rd_TGap l1 x28_2).f0) ((rd_TGap l1 x28_2).f1) ((rd_TGap l1 x28_2).f2)) else (if (l1.length : Int) = 0 then (none) else (if 0 ≤ (Int.tmod (wrap64 (x28_2 + 1)) (l1.length : Int)) then (if (Int.tmod (wrap64 (x28_2 + 1)) (l1.length : Int)) < (l1.length : Int) then (if ((rd_TGap l1 x28_2).f1).toList = ((rd_TGap l1 (Int.tmod (wrap64 (x28_2 + 1)) (l1.length : Int))).f0).toList then (spec_GoodGaps.j2 k2 a0 l1 l1 (l1.length : Int) x28_2 ((((rd_TGap l1 x28_2).f2).length : Int) == 0) ((rd_TGap l1 x28_2).f0) ((rd_TGap l1 x28_2).f1) ((rd_TGap l1 x28_2).f2)) else (spec_GoodGaps.j2 k2 a0 l1 l1 (l1.length : Int) x28_2 true ((rd_TGap l1 x28_2).f0) ((rd_TGap l1 x28_2).f1) ((rd_TGap l1 x28_2).f2))) else (none)) else (none))))) else (none)) else (none)) = some r := by first | (rw [hji24] at H; exact H) | (simp only [hji24] at H ⊢; exact H)
           (try rw [hji24] at A19)
           (try rw [hji24] at A21)
           have hji24w : (IntKind.i64.wrap (x28_2 - 1)) = ji24 := (i64_w _).trans hji24
           obtain ⟨c25, H⟩ := ifn H
           have c25b0 : decide (0 ≤ (ji24)) = true := decide_eq_true c25
           clear c25
           obtain ⟨c26, H⟩ := ifn H
           have c26b0 : decide ((ji24) < (l1.length : Int)) = true := decide_eq_true c26
           clear c26
           obtain ⟨t406, A27, H⟩ := bnd H
           by_cases c28 : t406 ≥ 0
           ·rw [if_pos c28] at H
            have c28b0 : decide (0 ≤ t406) = true := decide_eq_true c28
            clear c28
            have H' := Aside0.mk H
            clear H
            try go_wp2
            have n0_ : Aside0 ((((w17.setCell ⟨gb402, 0, none⟩ (.string ((rd_TGap l1 x28_2).f0))).setCell ⟨gb402, 1, none⟩ (.string ((rd_TGap l1 x28_2).f1))).setCell ⟨gb402, 2, none⟩ (.slice A401_2 ((rd_TGap l1 x28_2).f2).length c401_2)).heap[gb402]? = some (.cells #[.string ((rd_TGap l1 x28_2).f0), .string ((rd_TGap l1 x28_2).f1), .slice A401_2 ((rd_TGap l1 x28_2).f2).length c401_2] 44 (0, 0))) := ⟨TS⟩
            have n1_ : Aside0 (Below w.heap.size w (((w17.setCell ⟨gb402, 0, none⟩ (.string ((rd_TGap l1 x28_2).f0))).setCell ⟨gb402, 1, none⟩ (.string ((rd_TGap l1 x28_2).f1))).setCell ⟨gb402, 2, none⟩ (.slice A401_2 ((rd_TGap l1 x28_2).f2).length c401_2))) := ⟨TB⟩
            (try clear BK402)
            (try clear HB)
            generalize (((w17.setCell ⟨gb402, 0, none⟩ (.string ((rd_TGap l1 x28_2).f0))).setCell ⟨gb402, 1, none⟩ (.string ((rd_TGap l1 x28_2).f1))).setCell ⟨gb402, 2, none⟩ (.slice A401_2 ((rd_TGap l1 x28_2).f2).length c401_2)) = w29 at n0_ n1_ ⊢
            have BK402 := n0_
            have HB := n1_
            clear n0_ n1_
            replace BK402 := Aside0.mk (blk_drew BK402.out)
            replace HB := Aside0.mk (below_drew1 HB.out)
            have p405 : 0 ≤ ((ji24) : Int) := TD
            have q405 : (ji24) < (l1.length : Int) := TD
            obtain ⟨ad405, A405_2, c405_2, e405, hx405_0, hx405_1, hx405_2, hl405_2, hi405_2⟩ := at_TGap HR1.out (ji24) p405 q405
            have hw405_2 := hx405_2
            have hw405_1 := hx405_1
            have hw405_0 := hx405_0
            obtain rfl : ad401 = ad405 := (by injection e405)
            replace hx405_0 := hBc HB hx405_0
            replace hx405_1 := hBc HB hx405_1
            replace hx405_2 := hBc HB hx405_2
            have HR405_2 := Aside0.mk hi405_2
            have HC405_2 := Aside0.mk hl405_2
            clear hi405_2 hl405_2
            replace p405 := eq_true p405
            replace q405 := eq_true q405
            refine start_ (n := 47) (S := fun w' => w'.cell? ⟨gb402, 0, none⟩ = some (.string ((rd_TGap l1 x28_2).f0)) ∧ w'.cell? ⟨gb402, 1, none⟩ = some (.string ((rd_TGap l1 x28_2).f1)) ∧ w'.cell? ⟨gb402, 2, none⟩ = some (.slice A401_2 ((rd_TGap l1 x28_2).f2).length c401_2) ∧ w'.cell? (ad401.add (((ji24)).toNat * 3)) = some (.string ((rd_TGap l1 (ji24)).f0)) ∧ w'.cell? ⟨(ad401.add (((ji24)).toNat * 3)).block, (ad401.add (((ji24)).toNat * 3)).off + 1, none⟩ = some (.string ((rd_TGap l1 (ji24)).f1)) ∧ w'.cell? ⟨(ad401.add (((ji24)).toNat * 3)).block, (ad401.add (((ji24)).toNat * 3)).off + 2, none⟩ = some (.slice A405_2 ((rd_TGap l1 (ji24)).f2).length c405_2)) (ds := []) #[false, false, false, false, false, false, false, false, false, false, false, false, false, false, false, false, false, false, false, false, false, false, false, false, false, false, false, false, false, false, false, false, false, false, false, false, false, false, false, false, false, false, false, false, false, false, false] KR rfl rfl ⟨bc 0 BK402, bc 1 BK402, bc 2 BK402, ((HB.out.cell (World.block_lt_of_cell? w _ hw405_0)).trans hw405_0), ((HB.out.cell (World.block_lt_of_cell? w _ hw405_1)).trans hw405_1), ((HB.out.cell (World.block_lt_of_cell? w _ hw405_2)).trans hw405_2)⟩ (fun hHeld => ?_); refine with_tabW spec_GoodGaps.tab6 spec_GoodGaps.bits6 (fun HT_ HW_ => ?_)
            generalize w29.drew = w30 at BK402 HB HR405_2 hx405_0 hx405_1 hx405_2 hHeld ⊢
            refine pA 0 33 (mL 47 1) HT_ rfl rfl ?_
            refine tA 1 34 (mL 47 3) HT_ HW_ hHeld rfl rfl (by rintro w' ⟨s0, s1, s2, s3, s4, s5⟩; go_simp; with_reducible rfl) ?_
            refine one_ (i := 2) (N := some 35) (mL 47 7) rfl rfl (one_of HT_.out KR) (by decide) (fun K hK => ?_)
            refine goes_ Tryd.func65 KR rfl #[.string ((rd_TGap l1 x28_2).f0)] (by rfl) rfl rfl TA ?_
            with_reducible refine (spec_GoodName.calls k2 ((rd_TGap l1 x28_2).f0) true _ A19.out).mono ?_
            rintro e w31 ⟨rfl, hb⟩
            refine ⟨_, rfl, ?_⟩
            replace BK402 := KB BK402 hb
            replace HB := BS hb
            (try clear hb)
            (try clear hb2)
            (try clear hk)
            (try clear hi)
            refine hK.out _ _ ⟨bc 0 BK402, bc 1 BK402, bc 2 BK402, ((HB.out.cell (World.block_lt_of_cell? w _ hw405_0)).trans hw405_0), ((HB.out.cell (World.block_lt_of_cell? w _ hw405_1)).trans hw405_1), ((HB.out.cell (World.block_lt_of_cell? w _ hw405_2)).trans hw405_2)⟩ (fun hHeld => ?_)
            clear hK K
            refine nA ?_
            refine pA 3 36 (mL 47 15) HT_ rfl rfl ?_
            refine pA 4 37 (mL 47 31) HT_ rfl rfl ?_
            refine pA 5 38 (mL 47 63) HT_ rfl rfl ?_
            refine pA 7 40 (mL 47 191) HT_ rfl rfl ?_
            refine tA 6 39 (mL 47 255) HT_ HW_ hHeld rfl rfl (by rintro w' ⟨s0, s1, s2, s3, s4, s5⟩; go_simp; with_reducible rfl) ?_
            refine one_ (i := 8) (N := some 41) (mL 47 511) rfl rfl (one_of HT_.out KR) (by decide) (fun K hK => ?_)
            refine goes_ Tryd.func74 KR rfl #[.string ((rd_TGap l1 x28_2).f0), .string a0] (by rfl) rfl rfl TA ?_
            with_reducible refine (spec_l1Below.calls ((rd_TGap l1 x28_2).f0) a0 true _ A21.out).mono ?_
            rintro e w' ⟨rfl, ⟨nd, rfl⟩⟩
            refine ⟨_, rfl, ?_⟩
            refine hK.out _ _ ⟨bc 0 BK402, bc 1 BK402, bc 2 BK402, ((HB.out.cell (World.block_lt_of_cell? w _ hw405_0)).trans hw405_0), ((HB.out.cell (World.block_lt_of_cell? w _ hw405_1)).trans hw405_1), ((HB.out.cell (World.block_lt_of_cell? w _ hw405_2)).trans hw405_2)⟩ (fun hHeld => ?_)
            clear hK K
            refine nA ?_
            refine pA 9 42 (mL 47 1023) HT_ rfl rfl ?_
            refine pA 10 43 (mL 47 2047) HT_ rfl rfl ?_
            refine pA 11 44 (mL 47 4095) HT_ rfl rfl ?_
            refine pA 12 45 (mL 47 8191) HT_ rfl rfl ?_
            refine pA 13 46 (mL 47 16383) HT_ rfl rfl ?_
            refine pA 14 47 (mL 47 32767) HT_ rfl rfl ?_
            refine pA 15 48 (mL 47 65535) HT_ rfl rfl ?_
            refine pA 16 49 (mL 47 131071) HT_ rfl rfl ?_
            refine pA 17 50 (mL 47 262143) HT_ rfl rfl ?_
            refine pA 18 51 (mL 47 524287) HT_ rfl rfl ?_
            refine pA 19 52 (mL 47 1048575) HT_ rfl rfl ?_
            refine pA 21 54 (mL 47 3145727) HT_ rfl rfl ?_
            refine tA 20 53 (mL 47 4194303) HT_ HW_ hHeld rfl rfl (by rintro w' ⟨s0, s1, s2, s3, s4, s5⟩; go_simp; with_reducible rfl) ?_
            refine tA 22 55 (mL 47 8388607) HT_ HW_ hHeld rfl rfl (by rintro w' ⟨s0, s1, s2, s3, s4, s5⟩; go_simp; with_reducible rfl) ?_
            refine one_ (i := 23) (N := some 56) (mL 47 16777215) rfl rfl (one_of HT_.out KR) (by decide) (fun K hK => ?_)
            refine goes_ Tryd.func75 KR rfl #[.string ((rd_TGap l1 (ji24)).f0), .string ((rd_TGap l1 x28_2).f0)] (by rfl) rfl rfl (by (try simp only [List.map_toArray, List.map_cons, List.map_nil]); first | done | (simp only [hji24]; rfl) | rfl | (simp only [List.length_drop, List.length_take]; rfl)) ?_
            with_reducible refine (spec_l1Compare.calls k2 ((rd_TGap l1 (ji24)).f0) ((rd_TGap l1 x28_2).f0) t406 _ A27.out).mono ?_
            rintro e w32 ⟨rfl, hb⟩
            refine ⟨_, rfl, ?_⟩
            replace BK402 := KB BK402 hb
            replace HB := BS hb
            (try clear hb)
            (try clear hb2)
            (try clear hk)
            (try clear hi)
            refine hK.out _ _ ⟨bc 0 BK402, bc 1 BK402, bc 2 BK402, ((HB.out.cell (World.block_lt_of_cell? w _ hw405_0)).trans hw405_0), ((HB.out.cell (World.block_lt_of_cell? w _ hw405_1)).trans hw405_1), ((HB.out.cell (World.block_lt_of_cell? w _ hw405_2)).trans hw405_2)⟩ (fun hHeld => ?_)
            clear hK K
            refine nA ?_
            refine pA 24 57 (mL 47 33554431) HT_ rfl rfl ?_
            refine pA 25 58 (mL 47 67108863) HT_ rfl rfl ?_
            refine pA 26 59 (mL 47 134217727) HT_ rfl rfl ?_
            refine pA 27 60 (mL 47 268435455) HT_ rfl rfl ?_
            refine pU 28 61 (mL 47 536870911) HT_ rfl rfl ?_
            refine pU 29 62 (mL 47 1073741823) HT_ rfl rfl ?_
            refine pU 30 63 (mL 47 2147483647) HT_ rfl rfl ?_
            refine pU 31 64 (mL 47 4294967295) HT_ rfl rfl ?_
            refine pU 32 65 (mL 47 8589934591) HT_ rfl rfl ?_
            refine pU 33 66 (mL 47 17179869183) HT_ rfl rfl ?_
            refine pU 34 67 (mL 47 34359738367) HT_ rfl rfl ?_
            refine pU 35 68 (mL 47 68719476735) HT_ rfl rfl ?_
            refine pU 36 69 (mL 47 137438953471) HT_ rfl rfl ?_
            refine pU 37 70 (mL 47 274877906943) HT_ rfl rfl ?_
            refine pU 38 71 (mL 47 549755813887) HT_ rfl rfl ?_
            refine pU 39 72 (mL 47 1099511627775) HT_ rfl rfl ?_
            refine pA 40 73 (mL 47 2199023255551) HT_ rfl rfl ?_
            refine pA 41 74 (mL 47 4398046511103) HT_ rfl rfl ?_
            refine pU 42 75 (mL 47 8796093022207) HT_ rfl rfl ?_
            refine pU 43 76 (mL 47 17592186044415) HT_ rfl rfl ?_
            refine pU 44 77 (mL 47 35184372088831) HT_ rfl rfl ?_
            refine pU 45 78 (mL 47 70368744177663) HT_ rfl rfl ?_
            refine pA 46 79 (mL 47 140737488355327) HT_ rfl rfl ?_
            refine done_ (done_of HT_.out KR) ?_
            try go_wp2
            go_meet
            case rel => exact ⟨_, (true), TF, H', ⟨by have := HJ2.out; have := HK2.out; first | omega | exact Nat.le_refl _⟩, KW BK402, ⟨TB⟩⟩
           ·rw [if_neg c28] at H
            have c28b0 : decide (0 ≤ t406) = false := decide_eq_false c28
            clear c28
            obtain ⟨c33, H⟩ := ifm H
            have c33b0 : ((l1.length : Int) == 0) = false := beq_eq_false_iff_ne.mpr c33
            have c33b1 : ((l1.length : Int) != 0) = true := bne_iff_ne.mpr c33
            have c33b2 : ¬ (l1 = []) := fun h_ => c33 (by rw [h_]; rfl)
            obtain ⟨ji34, hji34⟩ : ∃ j_ : Int, (Int.tmod (wrap64 (x28_2 + 1)) (l1.length : Int)) = j_ := ⟨_, rfl⟩
            replace H : (if 0 ≤ (ji34) then (if (ji34) < (l1.length : Int) then (if ((rd_TGap l1 x28_2).f1).toList = ((rd_TGap l1 (ji34)).f0).toList then (spec_GoodGaps.j2 k2 a0 l1 l1 (l1.length : Int) x28_2 ((((rd_TGap l1 x28_2).f2).length : Int) == 0) ((rd_TGap l1 x28_2).f0) ((rd_TGap l1 x28_2).f1) ((rd_TGap l1 x28_2).f2)) else (spec_GoodGaps.j2 k2 a0 l1 l1 (l1.length : Int) x28_2 true ((rd_TGap l1 x28_2).f0) ((rd_TGap l1 x28_2).f1) ((rd_TGap l1 x28_2).f2))) else (none)) else (none)) = some r := by first | (rw [hji34] at H; exact H) | (simp only [hji34] at H ⊢; exact H)
            (try rw [hji34] at A19)
            (try rw [hji34] at A21)
            (try rw [hji34] at A27)
            obtain ⟨c35, H⟩ := ifn H
            have c35b0 : decide (0 ≤ (ji34)) = true := decide_eq_true c35
            clear c35
            obtain ⟨c36, H⟩ := ifn H
            have c36b0 : decide ((ji34) < (l1.length : Int)) = true := decide_eq_true c36
            clear c36
            by_cases c37 : ((rd_TGap l1 x28_2).f1).toList = ((rd_TGap l1 (ji34)).f0).toList
            ·rw [if_pos c37] at H
             have c37b0 : (((rd_TGap l1 x28_2).f1).toList == ((rd_TGap l1 (ji34)).f0).toList) = true := beq_iff_eq.mpr c37
             have c37b1 : (((rd_TGap l1 x28_2).f1).toList != ((rd_TGap l1 (ji34)).f0).toList) = false := bne_eq_false_iff_eq.mpr c37
             clear c37
             have H' := Aside0.mk H
             clear H
             try go_wp2
             have n0_ : Aside0 ((((w17.setCell ⟨gb402, 0, none⟩ (.string ((rd_TGap l1 x28_2).f0))).setCell ⟨gb402, 1, none⟩ (.string ((rd_TGap l1 x28_2).f1))).setCell ⟨gb402, 2, none⟩ (.slice A401_2 ((rd_TGap l1 x28_2).f2).length c401_2)).heap[gb402]? = some (.cells #[.string ((rd_TGap l1 x28_2).f0), .string ((rd_TGap l1 x28_2).f1), .slice A401_2 ((rd_TGap l1 x28_2).f2).length c401_2] 44 (0, 0))) := ⟨TS⟩
             have n1_ : Aside0 (Below w.heap.size w (((w17.setCell ⟨gb402, 0, none⟩ (.string ((rd_TGap l1 x28_2).f0))).setCell ⟨gb402, 1, none⟩ (.string ((rd_TGap l1 x28_2).f1))).setCell ⟨gb402, 2, none⟩ (.slice A401_2 ((rd_TGap l1 x28_2).f2).length c401_2))) := ⟨TB⟩
             (try clear BK402)
             (try clear HB)
             generalize (((w17.setCell ⟨gb402, 0, none⟩ (.string ((rd_TGap l1 x28_2).f0))).setCell ⟨gb402, 1, none⟩ (.string ((rd_TGap l1 x28_2).f1))).setCell ⟨gb402, 2, none⟩ (.slice A401_2 ((rd_TGap l1 x28_2).f2).length c401_2)) = w38 at n0_ n1_ ⊢
             have BK402 := n0_
             have HB := n1_
             clear n0_ n1_
             replace BK402 := Aside0.mk (blk_drew BK402.out)
             replace HB := Aside0.mk (below_drew1 HB.out)
             have p405 : 0 ≤ ((ji24) : Int) := TD
             have q405 : (ji24) < (l1.length : Int) := TD
             obtain ⟨ad405, A405_2, c405_2, e405, hx405_0, hx405_1, hx405_2, hl405_2, hi405_2⟩ := at_TGap HR1.out (ji24) p405 q405
             have hw405_2 := hx405_2
             have hw405_1 := hx405_1
             have hw405_0 := hx405_0
             obtain rfl : ad401 = ad405 := (by injection e405)
             replace hx405_0 := hBc HB hx405_0
             replace hx405_1 := hBc HB hx405_1
             replace hx405_2 := hBc HB hx405_2
             have HR405_2 := Aside0.mk hi405_2
             have HC405_2 := Aside0.mk hl405_2
             clear hi405_2 hl405_2
             replace p405 := eq_true p405
             replace q405 := eq_true q405
             have p407 : 0 ≤ ((ji34) : Int) := TD
             have q407 : (ji34) < (l1.length : Int) := TD
             obtain ⟨ad407, A407_2, c407_2, e407, hx407_0, hx407_1, hx407_2, hl407_2, hi407_2⟩ := at_TGap HR1.out (ji34) p407 q407
             have hw407_2 := hx407_2
             have hw407_1 := hx407_1
             have hw407_0 := hx407_0
             obtain rfl : ad401 = ad407 := (by injection e407)
             replace hx407_0 := hBc HB hx407_0
             replace hx407_1 := hBc HB hx407_1
             replace hx407_2 := hBc HB hx407_2
             have HR407_2 := Aside0.mk hi407_2
             have HC407_2 := Aside0.mk hl407_2
             clear hi407_2 hl407_2
             replace p407 := eq_true p407
             replace q407 := eq_true q407
             refine start_ (n := 47) (S := fun w' => w'.cell? ⟨gb402, 0, none⟩ = some (.string ((rd_TGap l1 x28_2).f0)) ∧ w'.cell? ⟨gb402, 1, none⟩ = some (.string ((rd_TGap l1 x28_2).f1)) ∧ w'.cell? ⟨gb402, 2, none⟩ = some (.slice A401_2 ((rd_TGap l1 x28_2).f2).length c401_2) ∧ w'.cell? (ad401.add (((ji24)).toNat * 3)) = some (.string ((rd_TGap l1 (ji24)).f0)) ∧ w'.cell? ⟨(ad401.add (((ji24)).toNat * 3)).block, (ad401.add (((ji24)).toNat * 3)).off + 1, none⟩ = some (.string ((rd_TGap l1 (ji24)).f1)) ∧ w'.cell? ⟨(ad401.add (((ji24)).toNat * 3)).block, (ad401.add (((ji24)).toNat * 3)).off + 2, none⟩ = some (.slice A405_2 ((rd_TGap l1 (ji24)).f2).length c405_2) ∧ w'.cell? (ad401.add (((ji34)).toNat * 3)) = some (.string ((rd_TGap l1 (ji34)).f0)) ∧ w'.cell? ⟨(ad401.add (((ji34)).toNat * 3)).block, (ad401.add (((ji34)).toNat * 3)).off + 1, none⟩ = some (.string ((rd_TGap l1 (ji34)).f1)) ∧ w'.cell? ⟨(ad401.add (((ji34)).toNat * 3)).block, (ad401.add (((ji34)).toNat * 3)).off + 2, none⟩ = some (.slice A407_2 ((rd_TGap l1 (ji34)).f2).length c407_2)) (ds := []) #[false, false, false, false, false, false, false, false, false, false, false, false, false, false, false, false, false, false, false, false, false, false, false, false, false, false, false, false, false, false, false, false, false, false, false, false, false, false, false, false, false, false, false, false, false, false, false] KR rfl rfl ⟨bc 0 BK402, bc 1 BK402, bc 2 BK402, ((HB.out.cell (World.block_lt_of_cell? w _ hw405_0)).trans hw405_0), ((HB.out.cell (World.block_lt_of_cell? w _ hw405_1)).trans hw405_1), ((HB.out.cell (World.block_lt_of_cell? w _ hw405_2)).trans hw405_2), ((HB.out.cell (World.block_lt_of_cell? w _ hw407_0)).trans hw407_0), ((HB.out.cell (World.block_lt_of_cell? w _ hw407_1)).trans hw407_1), ((HB.out.cell (World.block_lt_of_cell? w _ hw407_2)).trans hw407_2)⟩ (fun hHeld => ?_); refine with_tabW spec_GoodGaps.tab6 spec_GoodGaps.bits6 (fun HT_ HW_ => ?_)
             generalize w38.drew = w39 at BK402 HB HR405_2 HR407_2 hx405_0 hx405_1 hx405_2 hx407_0 hx407_1 hx407_2 hHeld ⊢
             refine pA 0 33 (mL 47 1) HT_ rfl rfl ?_
             refine tA 1 34 (mL 47 3) HT_ HW_ hHeld rfl rfl (by rintro w' ⟨s0, s1, s2, s3, s4, s5, s6, s7, s8⟩; go_simp; with_reducible rfl) ?_
             refine one_ (i := 2) (N := some 35) (mL 47 7) rfl rfl (one_of HT_.out KR) (by decide) (fun K hK => ?_)
             refine goes_ Tryd.func65 KR rfl #[.string ((rd_TGap l1 x28_2).f0)] (by rfl) rfl rfl TA ?_
             with_reducible refine (spec_GoodName.calls k2 ((rd_TGap l1 x28_2).f0) true _ A19.out).mono ?_
             rintro e w40 ⟨rfl, hb⟩
             refine ⟨_, rfl, ?_⟩
             replace BK402 := KB BK402 hb
             replace HB := BS hb
             (try clear hb)
             (try clear hb2)
             (try clear hk)
             (try clear hi)
             refine hK.out _ _ ⟨bc 0 BK402, bc 1 BK402, bc 2 BK402, ((HB.out.cell (World.block_lt_of_cell? w _ hw405_0)).trans hw405_0), ((HB.out.cell (World.block_lt_of_cell? w _ hw405_1)).trans hw405_1), ((HB.out.cell (World.block_lt_of_cell? w _ hw405_2)).trans hw405_2), ((HB.out.cell (World.block_lt_of_cell? w _ hw407_0)).trans hw407_0), ((HB.out.cell (World.block_lt_of_cell? w _ hw407_1)).trans hw407_1), ((HB.out.cell (World.block_lt_of_cell? w _ hw407_2)).trans hw407_2)⟩ (fun hHeld => ?_)
             clear hK K
             refine nA ?_
             refine pA 3 36 (mL 47 15) HT_ rfl rfl ?_
             refine pA 4 37 (mL 47 31) HT_ rfl rfl ?_
             refine pA 5 38 (mL 47 63) HT_ rfl rfl ?_
             refine pA 7 40 (mL 47 191) HT_ rfl rfl ?_
             refine tA 6 39 (mL 47 255) HT_ HW_ hHeld rfl rfl (by rintro w' ⟨s0, s1, s2, s3, s4, s5, s6, s7, s8⟩; go_simp; with_reducible rfl) ?_
             refine one_ (i := 8) (N := some 41) (mL 47 511) rfl rfl (one_of HT_.out KR) (by decide) (fun K hK => ?_)
             refine goes_ Tryd.func74 KR rfl #[.string ((rd_TGap l1 x28_2).f0), .string a0] (by rfl) rfl rfl TA ?_
             with_reducible refine (spec_l1Below.calls ((rd_TGap l1 x28_2).f0) a0 true _ A21.out).mono ?_
             rintro e w' ⟨rfl, ⟨nd, rfl⟩⟩
             refine ⟨_, rfl, ?_⟩
             refine hK.out _ _ ⟨bc 0 BK402, bc 1 BK402, bc 2 BK402, ((HB.out.cell (World.block_lt_of_cell? w _ hw405_0)).trans hw405_0), ((HB.out.cell (World.block_lt_of_cell? w _ hw405_1)).trans hw405_1), ((HB.out.cell (World.block_lt_of_cell? w _ hw405_2)).trans hw405_2), ((HB.out.cell (World.block_lt_of_cell? w _ hw407_0)).trans hw407_0), ((HB.out.cell (World.block_lt_of_cell? w _ hw407_1)).trans hw407_1), ((HB.out.cell (World.block_lt_of_cell? w _ hw407_2)).trans hw407_2)⟩ (fun hHeld => ?_)
             clear hK K
             refine nA ?_
             refine pA 9 42 (mL 47 1023) HT_ rfl rfl ?_
             refine pA 10 43 (mL 47 2047) HT_ rfl rfl ?_
             refine pA 11 44 (mL 47 4095) HT_ rfl rfl ?_
             refine pA 12 45 (mL 47 8191) HT_ rfl rfl ?_
             refine pA 13 46 (mL 47 16383) HT_ rfl rfl ?_
             refine pA 14 47 (mL 47 32767) HT_ rfl rfl ?_
             refine pA 15 48 (mL 47 65535) HT_ rfl rfl ?_
             refine pA 16 49 (mL 47 131071) HT_ rfl rfl ?_
             refine pA 17 50 (mL 47 262143) HT_ rfl rfl ?_
             refine pA 18 51 (mL 47 524287) HT_ rfl rfl ?_
             refine pA 19 52 (mL 47 1048575) HT_ rfl rfl ?_
             refine pA 21 54 (mL 47 3145727) HT_ rfl rfl ?_
             refine tA 20 53 (mL 47 4194303) HT_ HW_ hHeld rfl rfl (by rintro w' ⟨s0, s1, s2, s3, s4, s5, s6, s7, s8⟩; go_simp; with_reducible rfl) ?_
             refine tA 22 55 (mL 47 8388607) HT_ HW_ hHeld rfl rfl (by rintro w' ⟨s0, s1, s2, s3, s4, s5, s6, s7, s8⟩; go_simp; with_reducible rfl) ?_
             refine one_ (i := 23) (N := some 56) (mL 47 16777215) rfl rfl (one_of HT_.out KR) (by decide) (fun K hK => ?_)
             refine goes_ Tryd.func75 KR rfl #[.string ((rd_TGap l1 (ji24)).f0), .string ((rd_TGap l1 x28_2).f0)] (by rfl) rfl rfl (by (try simp only [List.map_toArray, List.map_cons, List.map_nil]); first | done | (simp only [hji24]; rfl) | rfl | (simp only [List.length_drop, List.length_take]; rfl)) ?_
             with_reducible refine (spec_l1Compare.calls k2 ((rd_TGap l1 (ji24)).f0) ((rd_TGap l1 x28_2).f0) t406 _ A27.out).mono ?_
             rintro e w41 ⟨rfl, hb⟩
             refine ⟨_, rfl, ?_⟩
             replace BK402 := KB BK402 hb
             replace HB := BS hb
             (try clear hb)
             (try clear hb2)
             (try clear hk)
             (try clear hi)
             refine hK.out _ _ ⟨bc 0 BK402, bc 1 BK402, bc 2 BK402, ((HB.out.cell (World.block_lt_of_cell? w _ hw405_0)).trans hw405_0), ((HB.out.cell (World.block_lt_of_cell? w _ hw405_1)).trans hw405_1), ((HB.out.cell (World.block_lt_of_cell? w _ hw405_2)).trans hw405_2), ((HB.out.cell (World.block_lt_of_cell? w _ hw407_0)).trans hw407_0), ((HB.out.cell (World.block_lt_of_cell? w _ hw407_1)).trans hw407_1), ((HB.out.cell (World.block_lt_of_cell? w _ hw407_2)).trans hw407_2)⟩ (fun hHeld => ?_)
             clear hK K
             refine nA ?_
             refine pA 24 57 (mL 47 33554431) HT_ rfl rfl ?_
             refine pA 25 58 (mL 47 67108863) HT_ rfl rfl ?_
             refine pA 26 59 (mL 47 134217727) HT_ rfl rfl ?_
             refine pA 27 60 (mL 47 268435455) HT_ rfl rfl ?_
             refine pA 28 61 (mL 47 536870911) HT_ rfl rfl ?_
             refine pA 30 63 (mL 47 1610612735) HT_ rfl rfl ?_
             refine pA 31 64 (mL 47 3758096383) HT_ rfl rfl ?_
             refine pA 32 65 (mL 47 8053063679) HT_ rfl rfl ?_
             refine pA 33 66 (mL 47 16642998271) HT_ rfl rfl ?_
             refine pA 34 67 (mL 47 33822867455) HT_ rfl rfl ?_
             refine pA 35 68 (mL 47 68182605823) HT_ rfl rfl ?_
             refine pA 36 69 (mL 47 136902082559) HT_ rfl rfl ?_
             refine pA 37 70 (mL 47 274341036031) HT_ rfl rfl ?_
             refine tA 29 62 (mL 47 274877906943) HT_ HW_ hHeld rfl rfl (by rintro w' ⟨s0, s1, s2, s3, s4, s5, s6, s7, s8⟩; go_simp; with_reducible rfl) ?_
             refine tA 38 71 (mL 47 549755813887) HT_ HW_ hHeld rfl rfl (by rintro w' ⟨s0, s1, s2, s3, s4, s5, s6, s7, s8⟩; go_simp; with_reducible rfl) ?_
             refine pA 39 72 (mL 47 1099511627775) HT_ rfl rfl ?_
             refine pA 40 73 (mL 47 2199023255551) HT_ rfl rfl ?_
             refine pA 41 74 (mL 47 4398046511103) HT_ rfl rfl ?_
             refine pA 42 75 (mL 47 8796093022207) HT_ rfl rfl ?_
             refine tA 43 76 (mL 47 17592186044415) HT_ HW_ hHeld rfl rfl (by rintro w' ⟨s0, s1, s2, s3, s4, s5, s6, s7, s8⟩; go_simp; with_reducible rfl) ?_
             refine pA 44 77 (mL 47 35184372088831) HT_ rfl rfl ?_
             refine pA 45 78 (mL 47 70368744177663) HT_ rfl rfl ?_
             refine pA 46 79 (mL 47 140737488355327) HT_ rfl rfl ?_
             refine done_ (done_of HT_.out KR) ?_
             try go_wp2
             go_meet
             case rel => exact ⟨_, (((((rd_TGap l1 x28_2).f2).length : Int) == 0)), TF, H', ⟨by have := HJ2.out; have := HK2.out; first | omega | exact Nat.le_refl _⟩, KW BK402, ⟨TB⟩⟩
            ·rw [if_neg c37] at H
             have c37b0 : (((rd_TGap l1 x28_2).f1).toList == ((rd_TGap l1 (ji34)).f0).toList) = false := beq_eq_false_iff_ne.mpr c37
             have c37b1 : (((rd_TGap l1 x28_2).f1).toList != ((rd_TGap l1 (ji34)).f0).toList) = true := bne_iff_ne.mpr c37
             have H' := Aside0.mk H
             clear H
             try go_wp2
             have n0_ : Aside0 ((((w17.setCell ⟨gb402, 0, none⟩ (.string ((rd_TGap l1 x28_2).f0))).setCell ⟨gb402, 1, none⟩ (.string ((rd_TGap l1 x28_2).f1))).setCell ⟨gb402, 2, none⟩ (.slice A401_2 ((rd_TGap l1 x28_2).f2).length c401_2)).heap[gb402]? = some (.cells #[.string ((rd_TGap l1 x28_2).f0), .string ((rd_TGap l1 x28_2).f1), .slice A401_2 ((rd_TGap l1 x28_2).f2).length c401_2] 44 (0, 0))) := ⟨TS⟩
             have n1_ : Aside0 (Below w.heap.size w (((w17.setCell ⟨gb402, 0, none⟩ (.string ((rd_TGap l1 x28_2).f0))).setCell ⟨gb402, 1, none⟩ (.string ((rd_TGap l1 x28_2).f1))).setCell ⟨gb402, 2, none⟩ (.slice A401_2 ((rd_TGap l1 x28_2).f2).length c401_2))) := ⟨TB⟩
             (try clear BK402)
             (try clear HB)
             generalize (((w17.setCell ⟨gb402, 0, none⟩ (.string ((rd_TGap l1 x28_2).f0))).setCell ⟨gb402, 1, none⟩ (.string ((rd_TGap l1 x28_2).f1))).setCell ⟨gb402, 2, none⟩ (.slice A401_2 ((rd_TGap l1 x28_2).f2).length c401_2)) = w42 at n0_ n1_ ⊢
             have BK402 := n0_
             have HB := n1_
             clear n0_ n1_
             replace BK402 := Aside0.mk (blk_drew BK402.out)
             replace HB := Aside0.mk (below_drew1 HB.out)
             have p405 : 0 ≤ ((ji24) : Int) := TD
             have q405 : (ji24) < (l1.length : Int) := TD
             obtain ⟨ad405, A405_2, c405_2, e405, hx405_0, hx405_1, hx405_2, hl405_2, hi405_2⟩ := at_TGap HR1.out (ji24) p405 q405
             have hw405_2 := hx405_2
             have hw405_1 := hx405_1
             have hw405_0 := hx405_0
             obtain rfl : ad401 = ad405 := (by injection e405)
             replace hx405_0 := hBc HB hx405_0
             replace hx405_1 := hBc HB hx405_1
             replace hx405_2 := hBc HB hx405_2
             have HR405_2 := Aside0.mk hi405_2
             have HC405_2 := Aside0.mk hl405_2
             clear hi405_2 hl405_2
             replace p405 := eq_true p405
             replace q405 := eq_true q405
             have p407 : 0 ≤ ((ji34) : Int) := TD
             have q407 : (ji34) < (l1.length : Int) := TD
             obtain ⟨ad407, A407_2, c407_2, e407, hx407_0, hx407_1, hx407_2, hl407_2, hi407_2⟩ := at_TGap HR1.out (ji34) p407 q407
             have hw407_2 := hx407_2
             have hw407_1 := hx407_1
             have hw407_0 := hx407_0
             obtain rfl : ad401 = ad407 := (by injection e407)
             replace hx407_0 := hBc HB hx407_0
             replace hx407_1 := hBc HB hx407_1
             replace hx407_2 := hBc HB hx407_2
             have HR407_2 := Aside0.mk hi407_2
             have HC407_2 := Aside0.mk hl407_2
             clear hi407_2 hl407_2
             replace p407 := eq_true p407
             replace q407 := eq_true q407
             refine start_ (n := 47) (S := fun w' => w'.cell? ⟨gb402, 0, none⟩ = some (.string ((rd_TGap l1 x28_2).f0)) ∧ w'.cell? ⟨gb402, 1, none⟩ = some (.string ((rd_TGap l1 x28_2).f1)) ∧ w'.cell? ⟨gb402, 2, none⟩ = some (.slice A401_2 ((rd_TGap l1 x28_2).f2).length c401_2) ∧ w'.cell? (ad401.add (((ji24)).toNat * 3)) = some (.string ((rd_TGap l1 (ji24)).f0)) ∧ w'.cell? ⟨(ad401.add (((ji24)).toNat * 3)).block, (ad401.add (((ji24)).toNat * 3)).off + 1, none⟩ = some (.string ((rd_TGap l1 (ji24)).f1)) ∧ w'.cell? ⟨(ad401.add (((ji24)).toNat * 3)).block, (ad401.add (((ji24)).toNat * 3)).off + 2, none⟩ = some (.slice A405_2 ((rd_TGap l1 (ji24)).f2).length c405_2) ∧ w'.cell? (ad401.add (((ji34)).toNat * 3)) = some (.string ((rd_TGap l1 (ji34)).f0)) ∧ w'.cell? ⟨(ad401.add (((ji34)).toNat * 3)).block, (ad401.add (((ji34)).toNat * 3)).off + 1, none⟩ = some (.string ((rd_TGap l1 (ji34)).f1)) ∧ w'.cell? ⟨(ad401.add (((ji34)).toNat * 3)).block, (ad401.add (((ji34)).toNat * 3)).off + 2, none⟩ = some (.slice A407_2 ((rd_TGap l1 (ji34)).f2).length c407_2)) (ds := []) #[false, false, false, false, false, false, false, false, false, false, false, false, false, false, false, false, false, false, false, false, false, false, false, false, false, false, false, false, false, false, false, false, false, false, false, false, false, false, false, false, false, false, false, false, false, false, false] KR rfl rfl ⟨bc 0 BK402, bc 1 BK402, bc 2 BK402, ((HB.out.cell (World.block_lt_of_cell? w _ hw405_0)).trans hw405_0), ((HB.out.cell (World.block_lt_of_cell? w _ hw405_1)).trans hw405_1), ((HB.out.cell (World.block_lt_of_cell? w _ hw405_2)).trans hw405_2), ((HB.out.cell (World.block_lt_of_cell? w _ hw407_0)).trans hw407_0), ((HB.out.cell (World.block_lt_of_cell? w _ hw407_1)).trans hw407_1), ((HB.out.cell (World.block_lt_of_cell? w _ hw407_2)).trans hw407_2)⟩ (fun hHeld => ?_); refine with_tabW spec_GoodGaps.tab6 spec_GoodGaps.bits6 (fun HT_ HW_ => ?_)
             generalize w42.drew = w43 at BK402 HB HR405_2 HR407_2 hx405_0 hx405_1 hx405_2 hx407_0 hx407_1 hx407_2 hHeld ⊢
             refine pA 0 33 (mL 47 1) HT_ rfl rfl ?_
             refine tA 1 34 (mL 47 3) HT_ HW_ hHeld rfl rfl (by rintro w' ⟨s0, s1, s2, s3, s4, s5, s6, s7, s8⟩; go_simp; with_reducible rfl) ?_
             refine one_ (i := 2) (N := some 35) (mL 47 7) rfl rfl (one_of HT_.out KR) (by decide) (fun K hK => ?_)
             refine goes_ Tryd.func65 KR rfl #[.string ((rd_TGap l1 x28_2).f0)] (by rfl) rfl rfl TA ?_
             with_reducible refine (spec_GoodName.calls k2 ((rd_TGap l1 x28_2).f0) true _ A19.out).mono ?_
             rintro e w44 ⟨rfl, hb⟩
             refine ⟨_, rfl, ?_⟩
             replace BK402 := KB BK402 hb
             replace HB := BS hb
             (try clear hb)
             (try clear hb2)
             (try clear hk)
             (try clear hi)
             refine hK.out _ _ ⟨bc 0 BK402, bc 1 BK402, bc 2 BK402, ((HB.out.cell (World.block_lt_of_cell? w _ hw405_0)).trans hw405_0), ((HB.out.cell (World.block_lt_of_cell? w _ hw405_1)).trans hw405_1), ((HB.out.cell (World.block_lt_of_cell? w _ hw405_2)).trans hw405_2), ((HB.out.cell (World.block_lt_of_cell? w _ hw407_0)).trans hw407_0), ((HB.out.cell (World.block_lt_of_cell? w _ hw407_1)).trans hw407_1), ((HB.out.cell (World.block_lt_of_cell? w _ hw407_2)).trans hw407_2)⟩ (fun hHeld => ?_)
             clear hK K
             refine nA ?_
             refine pA 3 36 (mL 47 15) HT_ rfl rfl ?_
             refine pA 4 37 (mL 47 31) HT_ rfl rfl ?_
             refine pA 5 38 (mL 47 63) HT_ rfl rfl ?_
             refine pA 7 40 (mL 47 191) HT_ rfl rfl ?_
             refine tA 6 39 (mL 47 255) HT_ HW_ hHeld rfl rfl (by rintro w' ⟨s0, s1, s2, s3, s4, s5, s6, s7, s8⟩; go_simp; with_reducible rfl) ?_
             refine one_ (i := 8) (N := some 41) (mL 47 511) rfl rfl (one_of HT_.out KR) (by decide) (fun K hK => ?_)
             refine goes_ Tryd.func74 KR rfl #[.string ((rd_TGap l1 x28_2).f0), .string a0] (by rfl) rfl rfl TA ?_
             with_reducible refine (spec_l1Below.calls ((rd_TGap l1 x28_2).f0) a0 true _ A21.out).mono ?_
             rintro e w' ⟨rfl, ⟨nd, rfl⟩⟩
             refine ⟨_, rfl, ?_⟩
             refine hK.out _ _ ⟨bc 0 BK402, bc 1 BK402, bc 2 BK402, ((HB.out.cell (World.block_lt_of_cell? w _ hw405_0)).trans hw405_0), ((HB.out.cell (World.block_lt_of_cell? w _ hw405_1)).trans hw405_1), ((HB.out.cell (World.block_lt_of_cell? w _ hw405_2)).trans hw405_2), ((HB.out.cell (World.block_lt_of_cell? w _ hw407_0)).trans hw407_0), ((HB.out.cell (World.block_lt_of_cell? w _ hw407_1)).trans hw407_1), ((HB.out.cell (World.block_lt_of_cell? w _ hw407_2)).trans hw407_2)⟩ (fun hHeld => ?_)
             clear hK K
             refine nA ?_
             refine pA 9 42 (mL 47 1023) HT_ rfl rfl ?_
             refine pA 10 43 (mL 47 2047) HT_ rfl rfl ?_
             refine pA 11 44 (mL 47 4095) HT_ rfl rfl ?_
             refine pA 12 45 (mL 47 8191) HT_ rfl rfl ?_
             refine pA 13 46 (mL 47 16383) HT_ rfl rfl ?_
             refine pA 14 47 (mL 47 32767) HT_ rfl rfl ?_
             refine pA 15 48 (mL 47 65535) HT_ rfl rfl ?_
             refine pA 16 49 (mL 47 131071) HT_ rfl rfl ?_
             refine pA 17 50 (mL 47 262143) HT_ rfl rfl ?_
             refine pA 18 51 (mL 47 524287) HT_ rfl rfl ?_
             refine pA 19 52 (mL 47 1048575) HT_ rfl rfl ?_
             refine pA 21 54 (mL 47 3145727) HT_ rfl rfl ?_
             refine tA 20 53 (mL 47 4194303) HT_ HW_ hHeld rfl rfl (by rintro w' ⟨s0, s1, s2, s3, s4, s5, s6, s7, s8⟩; go_simp; with_reducible rfl) ?_
             refine tA 22 55 (mL 47 8388607) HT_ HW_ hHeld rfl rfl (by rintro w' ⟨s0, s1, s2, s3, s4, s5, s6, s7, s8⟩; go_simp; with_reducible rfl) ?_
             refine one_ (i := 23) (N := some 56) (mL 47 16777215) rfl rfl (one_of HT_.out KR) (by decide) (fun K hK => ?_)
             refine goes_ Tryd.func75 KR rfl #[.string ((rd_TGap l1 (ji24)).f0), .string ((rd_TGap l1 x28_2).f0)] (by rfl) rfl rfl (by (try simp only [List.map_toArray, List.map_cons, List.map_nil]); first | done | (simp only [hji24]; rfl) | rfl | (simp only [List.length_drop, List.length_take]; rfl)) ?_
             with_reducible refine (spec_l1Compare.calls k2 ((rd_TGap l1 (ji24)).f0) ((rd_TGap l1 x28_2).f0) t406 _ A27.out).mono ?_
             rintro e w45 ⟨rfl, hb⟩
             refine ⟨_, rfl, ?_⟩
             replace BK402 := KB BK402 hb
             replace HB := BS hb
             (try clear hb)
             (try clear hb2)
             (try clear hk)
             (try clear hi)
             refine hK.out _ _ ⟨bc 0 BK402, bc 1 BK402, bc 2 BK402, ((HB.out.cell (World.block_lt_of_cell? w _ hw405_0)).trans hw405_0), ((HB.out.cell (World.block_lt_of_cell? w _ hw405_1)).trans hw405_1), ((HB.out.cell (World.block_lt_of_cell? w _ hw405_2)).trans hw405_2), ((HB.out.cell (World.block_lt_of_cell? w _ hw407_0)).trans hw407_0), ((HB.out.cell (World.block_lt_of_cell? w _ hw407_1)).trans hw407_1), ((HB.out.cell (World.block_lt_of_cell? w _ hw407_2)).trans hw407_2)⟩ (fun hHeld => ?_)
             clear hK K
             refine nA ?_
             refine pA 24 57 (mL 47 33554431) HT_ rfl rfl ?_
             refine pA 25 58 (mL 47 67108863) HT_ rfl rfl ?_
             refine pA 26 59 (mL 47 134217727) HT_ rfl rfl ?_
             refine pA 27 60 (mL 47 268435455) HT_ rfl rfl ?_
             refine pA 28 61 (mL 47 536870911) HT_ rfl rfl ?_
             refine pA 30 63 (mL 47 1610612735) HT_ rfl rfl ?_
             refine pA 31 64 (mL 47 3758096383) HT_ rfl rfl ?_
             refine pA 32 65 (mL 47 8053063679) HT_ rfl rfl ?_
             refine pA 33 66 (mL 47 16642998271) HT_ rfl rfl ?_
             refine pA 34 67 (mL 47 33822867455) HT_ rfl rfl ?_
             refine pA 35 68 (mL 47 68182605823) HT_ rfl rfl ?_
             refine pA 36 69 (mL 47 136902082559) HT_ rfl rfl ?_
             refine pA 37 70 (mL 47 274341036031) HT_ rfl rfl ?_
             refine tA 29 62 (mL 47 274877906943) HT_ HW_ hHeld rfl rfl (by rintro w' ⟨s0, s1, s2, s3, s4, s5, s6, s7, s8⟩; go_simp; with_reducible rfl) ?_
             refine tA 38 71 (mL 47 549755813887) HT_ HW_ hHeld rfl rfl (by rintro w' ⟨s0, s1, s2, s3, s4, s5, s6, s7, s8⟩; go_simp; with_reducible rfl) ?_
             refine pA 39 72 (mL 47 1099511627775) HT_ rfl rfl ?_
             refine pA 40 73 (mL 47 2199023255551) HT_ rfl rfl ?_
             refine pA 41 74 (mL 47 4398046511103) HT_ rfl rfl ?_
             refine pU 42 75 (mL 47 8796093022207) HT_ rfl rfl ?_
             refine pU 43 76 (mL 47 17592186044415) HT_ rfl rfl ?_
             refine pU 44 77 (mL 47 35184372088831) HT_ rfl rfl ?_
             refine pU 45 78 (mL 47 70368744177663) HT_ rfl rfl ?_
             refine pA 46 79 (mL 47 140737488355327) HT_ rfl rfl ?_
             refine done_ (done_of HT_.out KR) ?_
             try go_wp2
             go_meet
             case rel => exact ⟨_, (true), TF, H', ⟨by have := HJ2.out; have := HK2.out; first | omega | exact Nat.le_refl _⟩, KW BK402, ⟨TB⟩⟩
          ·rw [if_neg c23] at H
           have c23b0 : decide (0 < x28_2) = false := decide_eq_false c23
           clear c23
           (first | rw [c23b0] | (simp only [i64_w, i32_w]; rw [c23b0]) | skip)
           obtain ⟨c46, H⟩ := ifm H
           have c46b0 : ((l1.length : Int) == 0) = false := beq_eq_false_iff_ne.mpr c46
           have c46b1 : ((l1.length : Int) != 0) = true := bne_iff_ne.mpr c46
           have c46b2 : ¬ (l1 = []) := fun h_ => c46 (by rw [h_]; rfl)
           obtain ⟨ji47, hji47⟩ : ∃ j_ : Int, (Int.tmod (wrap64 (x28_2 + 1)) (l1.length : Int)) = j_ := ⟨_, rfl⟩
           replace H : (if 0 ≤ (ji47) then (if (ji47) < (l1.length : Int) then (if ((rd_TGap l1 x28_2).f1).toList = ((rd_TGap l1 (ji47)).f0).toList then (spec_GoodGaps.j2 k2 a0 l1 l1 (l1.length : Int) x28_2 ((((rd_TGap l1 x28_2).f2).length : Int) == 0) ((rd_TGap l1 x28_2).f0) ((rd_TGap l1 x28_2).f1) ((rd_TGap l1 x28_2).f2)) else (spec_GoodGaps.j2 k2 a0 l1 l1 (l1.length : Int) x28_2 true ((rd_TGap l1 x28_2).f0) ((rd_TGap l1 x28_2).f1) ((rd_TGap l1 x28_2).f2))) else (none)) else (none)) = some r := by first | (rw [hji47] at H; exact H) | (simp only [hji47] at H ⊢; exact H)
           (try rw [hji47] at A19)
           (try rw [hji47] at A21)
           obtain ⟨c48, H⟩ := ifn H
           have c48b0 : decide (0 ≤ (ji47)) = true := decide_eq_true c48
           clear c48
           obtain ⟨c49, H⟩ := ifn H
           have c49b0 : decide ((ji47) < (l1.length : Int)) = true := decide_eq_true c49
           clear c49
           by_cases c50 : ((rd_TGap l1 x28_2).f1).toList = ((rd_TGap l1 (ji47)).f0).toList
           ·rw [if_pos c50] at H
            have c50b0 : (((rd_TGap l1 x28_2).f1).toList == ((rd_TGap l1 (ji47)).f0).toList) = true := beq_iff_eq.mpr c50
            have c50b1 : (((rd_TGap l1 x28_2).f1).toList != ((rd_TGap l1 (ji47)).f0).toList) = false := bne_eq_false_iff_eq.mpr c50
            clear c50
            have H' := Aside0.mk H
            clear H
            try go_wp2
            have n0_ : Aside0 ((((w17.setCell ⟨gb402, 0, none⟩ (.string ((rd_TGap l1 x28_2).f0))).setCell ⟨gb402, 1, none⟩ (.string ((rd_TGap l1 x28_2).f1))).setCell ⟨gb402, 2, none⟩ (.slice A401_2 ((rd_TGap l1 x28_2).f2).length c401_2)).heap[gb402]? = some (.cells #[.string ((rd_TGap l1 x28_2).f0), .string ((rd_TGap l1 x28_2).f1), .slice A401_2 ((rd_TGap l1 x28_2).f2).length c401_2] 44 (0, 0))) := ⟨TS⟩
            have n1_ : Aside0 (Below w.heap.size w (((w17.setCell ⟨gb402, 0, none⟩ (.string ((rd_TGap l1 x28_2).f0))).setCell ⟨gb402, 1, none⟩ (.string ((rd_TGap l1 x28_2).f1))).setCell ⟨gb402, 2, none⟩ (.slice A401_2 ((rd_TGap l1 x28_2).f2).length c401_2))) := ⟨TB⟩
            (try clear BK402)
            (try clear HB)
            generalize (((w17.setCell ⟨gb402, 0, none⟩ (.string ((rd_TGap l1 x28_2).f0))).setCell ⟨gb402, 1, none⟩ (.string ((rd_TGap l1 x28_2).f1))).setCell ⟨gb402, 2, none⟩ (.slice A401_2 ((rd_TGap l1 x28_2).f2).length c401_2)) = w51 at n0_ n1_ ⊢
            have BK402 := n0_
            have HB := n1_
            clear n0_ n1_
            replace BK402 := Aside0.mk (blk_drew BK402.out)
            replace HB := Aside0.mk (below_drew1 HB.out)
            have p408 : 0 ≤ ((ji47) : Int) := TD
            have q408 : (ji47) < (l1.length : Int) := TD
            obtain ⟨ad408, A408_2, c408_2, e408, hx408_0, hx408_1, hx408_2, hl408_2, hi408_2⟩ := at_TGap HR1.out (ji47) p408 q408
            have hw408_2 := hx408_2
            have hw408_1 := hx408_1
            have hw408_0 := hx408_0
            obtain rfl : ad401 = ad408 := (by injection e408)
            replace hx408_0 := hBc HB hx408_0
            replace hx408_1 := hBc HB hx408_1
            replace hx408_2 := hBc HB hx408_2
            have HR408_2 := Aside0.mk hi408_2
            have HC408_2 := Aside0.mk hl408_2
            clear hi408_2 hl408_2
            replace p408 := eq_true p408
            replace q408 := eq_true q408
            refine start_ (n := 47) (S := fun w' => w'.cell? ⟨gb402, 0, none⟩ = some (.string ((rd_TGap l1 x28_2).f0)) ∧ w'.cell? ⟨gb402, 1, none⟩ = some (.string ((rd_TGap l1 x28_2).f1)) ∧ w'.cell? ⟨gb402, 2, none⟩ = some (.slice A401_2 ((rd_TGap l1 x28_2).f2).length c401_2) ∧ w'.cell? (ad401.add (((ji47)).toNat * 3)) = some (.string ((rd_TGap l1 (ji47)).f0)) ∧ w'.cell? ⟨(ad401.add (((ji47)).toNat * 3)).block, (ad401.add (((ji47)).toNat * 3)).off + 1, none⟩ = some (.string ((rd_TGap l1 (ji47)).f1)) ∧ w'.cell? ⟨(ad401.add (((ji47)).toNat * 3)).block, (ad401.add (((ji47)).toNat * 3)).off + 2, none⟩ = some (.slice A408_2 ((rd_TGap l1 (ji47)).f2).length c408_2)) (ds := []) #[false, false, false, false, false, false, false, false, false, false, false, false, false, false, false, false, false, false, false, false, false, false, false, false, false, false, false, false, false, false, false, false, false, false, false, false, false, false, false, false, false, false, false, false, false, false, false] KR rfl rfl ⟨bc 0 BK402, bc 1 BK402, bc 2 BK402, ((HB.out.cell (World.block_lt_of_cell? w _ hw408_0)).trans hw408_0), ((HB.out.cell (World.block_lt_of_cell? w _ hw408_1)).trans hw408_1), ((HB.out.cell (World.block_lt_of_cell? w _ hw408_2)).trans hw408_2)⟩ (fun hHeld => ?_); refine with_tabW spec_GoodGaps.tab6 spec_GoodGaps.bits6 (fun HT_ HW_ => ?_)
            generalize w51.drew = w52 at BK402 HB HR408_2 hx408_0 hx408_1 hx408_2 hHeld ⊢
            refine pA 0 33 (mL 47 1) HT_ rfl rfl ?_
            refine tA 1 34 (mL 47 3) HT_ HW_ hHeld rfl rfl (by rintro w' ⟨s0, s1, s2, s3, s4, s5⟩; go_simp; with_reducible rfl) ?_
            refine one_ (i := 2) (N := some 35) (mL 47 7) rfl rfl (one_of HT_.out KR) (by decide) (fun K hK => ?_)
            refine goes_ Tryd.func65 KR rfl #[.string ((rd_TGap l1 x28_2).f0)] (by rfl) rfl rfl TA ?_
            with_reducible refine (spec_GoodName.calls k2 ((rd_TGap l1 x28_2).f0) true _ A19.out).mono ?_
            rintro e w53 ⟨rfl, hb⟩
            refine ⟨_, rfl, ?_⟩
            replace BK402 := KB BK402 hb
            replace HB := BS hb
            (try clear hb)
            (try clear hb2)
            (try clear hk)
            (try clear hi)
            refine hK.out _ _ ⟨bc 0 BK402, bc 1 BK402, bc 2 BK402, ((HB.out.cell (World.block_lt_of_cell? w _ hw408_0)).trans hw408_0), ((HB.out.cell (World.block_lt_of_cell? w _ hw408_1)).trans hw408_1), ((HB.out.cell (World.block_lt_of_cell? w _ hw408_2)).trans hw408_2)⟩ (fun hHeld => ?_)
            clear hK K
            refine nA ?_
            refine pA 3 36 (mL 47 15) HT_ rfl rfl ?_
            refine pA 4 37 (mL 47 31) HT_ rfl rfl ?_
            refine pA 5 38 (mL 47 63) HT_ rfl rfl ?_
            refine pA 7 40 (mL 47 191) HT_ rfl rfl ?_
            refine tA 6 39 (mL 47 255) HT_ HW_ hHeld rfl rfl (by rintro w' ⟨s0, s1, s2, s3, s4, s5⟩; go_simp; with_reducible rfl) ?_
            refine one_ (i := 8) (N := some 41) (mL 47 511) rfl rfl (one_of HT_.out KR) (by decide) (fun K hK => ?_)
            refine goes_ Tryd.func74 KR rfl #[.string ((rd_TGap l1 x28_2).f0), .string a0] (by rfl) rfl rfl TA ?_
            with_reducible refine (spec_l1Below.calls ((rd_TGap l1 x28_2).f0) a0 true _ A21.out).mono ?_
            rintro e w' ⟨rfl, ⟨nd, rfl⟩⟩
            refine ⟨_, rfl, ?_⟩
            refine hK.out _ _ ⟨bc 0 BK402, bc 1 BK402, bc 2 BK402, ((HB.out.cell (World.block_lt_of_cell? w _ hw408_0)).trans hw408_0), ((HB.out.cell (World.block_lt_of_cell? w _ hw408_1)).trans hw408_1), ((HB.out.cell (World.block_lt_of_cell? w _ hw408_2)).trans hw408_2)⟩ (fun hHeld => ?_)
            clear hK K
            refine nA ?_
            refine pA 9 42 (mL 47 1023) HT_ rfl rfl ?_
            refine pA 10 43 (mL 47 2047) HT_ rfl rfl ?_
            refine pA 11 44 (mL 47 4095) HT_ rfl rfl ?_
            refine pA 12 45 (mL 47 8191) HT_ rfl rfl ?_
            refine pA 13 46 (mL 47 16383) HT_ rfl rfl ?_
            refine pA 14 47 (mL 47 32767) HT_ rfl rfl ?_
            refine pU 15 48 (mL 47 65535) HT_ rfl rfl ?_
            refine pU 16 49 (mL 47 131071) HT_ rfl rfl ?_
            refine pU 17 50 (mL 47 262143) HT_ rfl rfl ?_
            refine pU 18 51 (mL 47 524287) HT_ rfl rfl ?_
            refine pU 19 52 (mL 47 1048575) HT_ rfl rfl ?_
            refine pU 20 53 (mL 47 2097151) HT_ rfl rfl ?_
            refine pU 21 54 (mL 47 4194303) HT_ rfl rfl ?_
            refine pU 22 55 (mL 47 8388607) HT_ rfl rfl ?_
            refine pU 23 56 (mL 47 16777215) HT_ rfl rfl ?_
            refine pU 24 57 (mL 47 33554431) HT_ rfl rfl ?_
            refine pA 25 58 (mL 47 67108863) HT_ rfl rfl ?_
            refine pA 26 59 (mL 47 134217727) HT_ rfl rfl ?_
            refine pA 27 60 (mL 47 268435455) HT_ rfl rfl ?_
            refine pA 28 61 (mL 47 536870911) HT_ rfl rfl ?_
            refine pA 30 63 (mL 47 1610612735) HT_ rfl rfl ?_
            refine pA 31 64 (mL 47 3758096383) HT_ rfl rfl ?_
            refine pA 32 65 (mL 47 8053063679) HT_ rfl rfl ?_
            refine pA 33 66 (mL 47 16642998271) HT_ rfl rfl ?_
            refine pA 34 67 (mL 47 33822867455) HT_ rfl rfl ?_
            refine pA 35 68 (mL 47 68182605823) HT_ rfl rfl ?_
            refine pA 36 69 (mL 47 136902082559) HT_ rfl rfl ?_
            refine pA 37 70 (mL 47 274341036031) HT_ rfl rfl ?_
            refine tA 29 62 (mL 47 274877906943) HT_ HW_ hHeld rfl rfl (by rintro w' ⟨s0, s1, s2, s3, s4, s5⟩; go_simp; with_reducible rfl) ?_
            refine tA 38 71 (mL 47 549755813887) HT_ HW_ hHeld rfl rfl (by rintro w' ⟨s0, s1, s2, s3, s4, s5⟩; go_simp; with_reducible rfl) ?_
            refine pA 39 72 (mL 47 1099511627775) HT_ rfl rfl ?_
            refine pA 40 73 (mL 47 2199023255551) HT_ rfl rfl ?_
            refine pA 41 74 (mL 47 4398046511103) HT_ rfl rfl ?_
            refine pA 42 75 (mL 47 8796093022207) HT_ rfl rfl ?_
            refine tA 43 76 (mL 47 17592186044415) HT_ HW_ hHeld rfl rfl (by rintro w' ⟨s0, s1, s2, s3, s4, s5⟩; go_simp; with_reducible rfl) ?_
            refine pA 44 77 (mL 47 35184372088831) HT_ rfl rfl ?_
            refine pA 45 78 (mL 47 70368744177663) HT_ rfl rfl ?_
            refine pA 46 79 (mL 47 140737488355327) HT_ rfl rfl ?_
            refine done_ (done_of HT_.out KR) ?_
            try go_wp2
            go_meet
            case rel => exact ⟨_, (((((rd_TGap l1 x28_2).f2).length : Int) == 0)), TF, H', ⟨by have := HJ2.out; have := HK2.out; first | omega | exact Nat.le_refl _⟩, KW BK402, ⟨TB⟩⟩
           ·rw [if_neg c50] at H
            have c50b0 : (((rd_TGap l1 x28_2).f1).toList == ((rd_TGap l1 (ji47)).f0).toList) = false := beq_eq_false_iff_ne.mpr c50
            have c50b1 : (((rd_TGap l1 x28_2).f1).toList != ((rd_TGap l1 (ji47)).f0).toList) = true := bne_iff_ne.mpr c50
            have H' := Aside0.mk H
            clear H
            try go_wp2
            have n0_ : Aside0 ((((w17.setCell ⟨gb402, 0, none⟩ (.string ((rd_TGap l1 x28_2).f0))).setCell ⟨gb402, 1, none⟩ (.string ((rd_TGap l1 x28_2).f1))).setCell ⟨gb402, 2, none⟩ (.slice A401_2 ((rd_TGap l1 x28_2).f2).length c401_2)).heap[gb402]? = some (.cells #[.string ((rd_TGap l1 x28_2).f0), .string ((rd_TGap l1 x28_2).f1), .slice A401_2 ((rd_TGap l1 x28_2).f2).length c401_2] 44 (0, 0))) := ⟨TS⟩
            have n1_ : Aside0 (Below w.heap.size w (((w17.setCell ⟨gb402, 0, none⟩ (.string ((rd_TGap l1 x28_2).f0))).setCell ⟨gb402, 1, none⟩ (.string ((rd_TGap l1 x28_2).f1))).setCell ⟨gb402, 2, none⟩ (.slice A401_2 ((rd_TGap l1 x28_2).f2).length c401_2))) := ⟨TB⟩
            (try clear BK402)
            (try clear HB)
            generalize (((w17.setCell ⟨gb402, 0, none⟩ (.string ((rd_TGap l1 x28_2).f0))).setCell ⟨gb402, 1, none⟩ (.string ((rd_TGap l1 x28_2).f1))).setCell ⟨gb402, 2, none⟩ (.slice A401_2 ((rd_TGap l1 x28_2).f2).length c401_2)) = w54 at n0_ n1_ ⊢
            have BK402 := n0_
            have HB := n1_
            clear n0_ n1_
            replace BK402 := Aside0.mk (blk_drew BK402.out)
            replace HB := Aside0.mk (below_drew1 HB.out)
            have p408 : 0 ≤ ((ji47) : Int) := TD
            have q408 : (ji47) < (l1.length : Int) := TD
            obtain ⟨ad408, A408_2, c408_2, e408, hx408_0, hx408_1, hx408_2, hl408_2, hi408_2⟩ := at_TGap HR1.out (ji47) p408 q408
            have hw408_2 := hx408_2
            have hw408_1 := hx408_1
            have hw408_0 := hx408_0
            obtain rfl : ad401 = ad408 := (by injection e408)
            replace hx408_0 := hBc HB hx408_0
            replace hx408_1 := hBc HB hx408_1
            replace hx408_2 := hBc HB hx408_2
            have HR408_2 := Aside0.mk hi408_2
            have HC408_2 := Aside0.mk hl408_2
            clear hi408_2 hl408_2
            replace p408 := eq_true p408
            replace q408 := eq_true q408
            refine start_ (n := 47) (S := fun w' => w'.cell? ⟨gb402, 0, none⟩ = some (.string ((rd_TGap l1 x28_2).f0)) ∧ w'.cell? ⟨gb402, 1, none⟩ = some (.string ((rd_TGap l1 x28_2).f1)) ∧ w'.cell? ⟨gb402, 2, none⟩ = some (.slice A401_2 ((rd_TGap l1 x28_2).f2).length c401_2) ∧ w'.cell? (ad401.add (((ji47)).toNat * 3)) = some (.string ((rd_TGap l1 (ji47)).f0)) ∧ w'.cell? ⟨(ad401.add (((ji47)).toNat * 3)).block, (ad401.add (((ji47)).toNat * 3)).off + 1, none⟩ = some (.string ((rd_TGap l1 (ji47)).f1)) ∧ w'.cell? ⟨(ad401.add (((ji47)).toNat * 3)).block, (ad401.add (((ji47)).toNat * 3)).off + 2, none⟩ = some (.slice A408_2 ((rd_TGap l1 (ji47)).f2).length c408_2)) (ds := []) #[false, false, false, false, false, false, false, false, false, false, false, false, false, false, false, false, false, false, false, false, false, false, false, false, false, false, false, false, false, false, false, false, false, false, false, false, false, false, false, false, false, false, false, false, false, false, false] KR rfl rfl ⟨bc 0 BK402, bc 1 BK402, bc 2 BK402, ((HB.out.cell (World.block_lt_of_cell? w _ hw408_0)).trans hw408_0), ((HB.out.cell (World.block_lt_of_cell? w _ hw408_1)).trans hw408_1), ((HB.out.cell (World.block_lt_of_cell? w _ hw408_2)).trans hw408_2)⟩ (fun hHeld => ?_); refine with_tabW spec_GoodGaps.tab6 spec_GoodGaps.bits6 (fun HT_ HW_ => ?_)
            generalize w54.drew = w55 at BK402 HB HR408_2 hx408_0 hx408_1 hx408_2 hHeld ⊢
            refine pA 0 33 (mL 47 1) HT_ rfl rfl ?_
            refine tA 1 34 (mL 47 3) HT_ HW_ hHeld rfl rfl (by rintro w' ⟨s0, s1, s2, s3, s4, s5⟩; go_simp; with_reducible rfl) ?_
            refine one_ (i := 2) (N := some 35) (mL 47 7) rfl rfl (one_of HT_.out KR) (by decide) (fun K hK => ?_)
            refine goes_ Tryd.func65 KR rfl #[.string ((rd_TGap l1 x28_2).f0)] (by rfl) rfl rfl TA ?_
            with_reducible refine (spec_GoodName.calls k2 ((rd_TGap l1 x28_2).f0) true _ A19.out).mono ?_
            rintro e w56 ⟨rfl, hb⟩
            refine ⟨_, rfl, ?_⟩
            replace BK402 := KB BK402 hb
            replace HB := BS hb
            (try clear hb)
            (try clear hb2)
            (try clear hk)
            (try clear hi)
            refine hK.out _ _ ⟨bc 0 BK402, bc 1 BK402, bc 2 BK402, ((HB.out.cell (World.block_lt_of_cell? w _ hw408_0)).trans hw408_0), ((HB.out.cell (World.block_lt_of_cell? w _ hw408_1)).trans hw408_1), ((HB.out.cell (World.block_lt_of_cell? w _ hw408_2)).trans hw408_2)⟩ (fun hHeld => ?_)
            clear hK K
            refine nA ?_
            refine pA 3 36 (mL 47 15) HT_ rfl rfl ?_
            refine pA 4 37 (mL 47 31) HT_ rfl rfl ?_
            refine pA 5 38 (mL 47 63) HT_ rfl rfl ?_
            refine pA 7 40 (mL 47 191) HT_ rfl rfl ?_
            refine tA 6 39 (mL 47 255) HT_ HW_ hHeld rfl rfl (by rintro w' ⟨s0, s1, s2, s3, s4, s5⟩; go_simp; with_reducible rfl) ?_
            refine one_ (i := 8) (N := some 41) (mL 47 511) rfl rfl (one_of HT_.out KR) (by decide) (fun K hK => ?_)
            refine goes_ Tryd.func74 KR rfl #[.string ((rd_TGap l1 x28_2).f0), .string a0] (by rfl) rfl rfl TA ?_
            with_reducible refine (spec_l1Below.calls ((rd_TGap l1 x28_2).f0) a0 true _ A21.out).mono ?_
            rintro e w' ⟨rfl, ⟨nd, rfl⟩⟩
            refine ⟨_, rfl, ?_⟩
            refine hK.out _ _ ⟨bc 0 BK402, bc 1 BK402, bc 2 BK402, ((HB.out.cell (World.block_lt_of_cell? w _ hw408_0)).trans hw408_0), ((HB.out.cell (World.block_lt_of_cell? w _ hw408_1)).trans hw408_1), ((HB.out.cell (World.block_lt_of_cell? w _ hw408_2)).trans hw408_2)⟩ (fun hHeld => ?_)
            clear hK K
            refine nA ?_
            refine pA 9 42 (mL 47 1023) HT_ rfl rfl ?_
            refine pA 10 43 (mL 47 2047) HT_ rfl rfl ?_
            refine pA 11 44 (mL 47 4095) HT_ rfl rfl ?_
            refine pA 12 45 (mL 47 8191) HT_ rfl rfl ?_
            refine pA 13 46 (mL 47 16383) HT_ rfl rfl ?_
            refine pA 14 47 (mL 47 32767) HT_ rfl rfl ?_
            refine pU 15 48 (mL 47 65535) HT_ rfl rfl ?_
            refine pU 16 49 (mL 47 131071) HT_ rfl rfl ?_
            refine pU 17 50 (mL 47 262143) HT_ rfl rfl ?_
            refine pU 18 51 (mL 47 524287) HT_ rfl rfl ?_
            refine pU 19 52 (mL 47 1048575) HT_ rfl rfl ?_
            refine pU 20 53 (mL 47 2097151) HT_ rfl rfl ?_
            refine pU 21 54 (mL 47 4194303) HT_ rfl rfl ?_
            refine pU 22 55 (mL 47 8388607) HT_ rfl rfl ?_
            refine pU 23 56 (mL 47 16777215) HT_ rfl rfl ?_
            refine pU 24 57 (mL 47 33554431) HT_ rfl rfl ?_
            refine pA 25 58 (mL 47 67108863) HT_ rfl rfl ?_
            refine pA 26 59 (mL 47 134217727) HT_ rfl rfl ?_
            refine pA 27 60 (mL 47 268435455) HT_ rfl rfl ?_
            refine pA 28 61 (mL 47 536870911) HT_ rfl rfl ?_
            refine pA 30 63 (mL 47 1610612735) HT_ rfl rfl ?_
            refine pA 31 64 (mL 47 3758096383) HT_ rfl rfl ?_
            refine pA 32 65 (mL 47 8053063679) HT_ rfl rfl ?_
            refine pA 33 66 (mL 47 16642998271) HT_ rfl rfl ?_
            refine pA 34 67 (mL 47 33822867455) HT_ rfl rfl ?_
            refine pA 35 68 (mL 47 68182605823) HT_ rfl rfl ?_
            refine pA 36 69 (mL 47 136902082559) HT_ rfl rfl ?_
            refine pA 37 70 (mL 47 274341036031) HT_ rfl rfl ?_
            refine tA 29 62 (mL 47 274877906943) HT_ HW_ hHeld rfl rfl (by rintro w' ⟨s0, s1, s2, s3, s4, s5⟩; go_simp; with_reducible rfl) ?_
            refine tA 38 71 (mL 47 549755813887) HT_ HW_ hHeld rfl rfl (by rintro w' ⟨s0, s1, s2, s3, s4, s5⟩; go_simp; with_reducible rfl) ?_
            refine pA 39 72 (mL 47 1099511627775) HT_ rfl rfl ?_
            refine pA 40 73 (mL 47 2199023255551) HT_ rfl rfl ?_
            refine pA 41 74 (mL 47 4398046511103) HT_ rfl rfl ?_
            refine pU 42 75 (mL 47 8796093022207) HT_ rfl rfl ?_
            refine pU 43 76 (mL 47 17592186044415) HT_ rfl rfl ?_
            refine pU 44 77 (mL 47 35184372088831) HT_ rfl rfl ?_
            refine pU 45 78 (mL 47 70368744177663) HT_ rfl rfl ?_
            refine pA 46 79 (mL 47 140737488355327) HT_ rfl rfl ?_
            refine done_ (done_of HT_.out KR) ?_
            try go_wp2
            go_meet
            case rel => exact ⟨_, (true), TF, H', ⟨by have := HJ2.out; have := HK2.out; first | omega | exact Nat.le_refl _⟩, KW BK402, ⟨TB⟩⟩
         ·replace c22 := Bool.eq_false_iff.mpr c22
          subst c22
          replace H := iff' H
          have H' := Aside0.mk H
          clear H
          try go_wp2
          have n0_ : Aside0 ((((w17.setCell ⟨gb402, 0, none⟩ (.string ((rd_TGap l1 x28_2).f0))).setCell ⟨gb402, 1, none⟩ (.string ((rd_TGap l1 x28_2).f1))).setCell ⟨gb402, 2, none⟩ (.slice A401_2 ((rd_TGap l1 x28_2).f2).length c401_2)).heap[gb402]? = some (.cells #[.string ((rd_TGap l1 x28_2).f0), .string ((rd_TGap l1 x28_2).f1), .slice A401_2 ((rd_TGap l1 x28_2).f2).length c401_2] 44 (0, 0))) := ⟨TS⟩
          have n1_ : Aside0 (Below w.heap.size w (((w17.setCell ⟨gb402, 0, none⟩ (.string ((rd_TGap l1 x28_2).f0))).setCell ⟨gb402, 1, none⟩ (.string ((rd_TGap l1 x28_2).f1))).setCell ⟨gb402, 2, none⟩ (.slice A401_2 ((rd_TGap l1 x28_2).f2).length c401_2))) := ⟨TB⟩
          (try clear BK402)
          (try clear HB)
          generalize (((w17.setCell ⟨gb402, 0, none⟩ (.string ((rd_TGap l1 x28_2).f0))).setCell ⟨gb402, 1, none⟩ (.string ((rd_TGap l1 x28_2).f1))).setCell ⟨gb402, 2, none⟩ (.slice A401_2 ((rd_TGap l1 x28_2).f2).length c401_2)) = w57 at n0_ n1_ ⊢
          have BK402 := n0_
          have HB := n1_
          clear n0_ n1_
          replace BK402 := Aside0.mk (blk_drew BK402.out)
          replace HB := Aside0.mk (below_drew1 HB.out)
          refine start_ (n := 47) (S := fun w' => w'.cell? ⟨gb402, 0, none⟩ = some (.string ((rd_TGap l1 x28_2).f0)) ∧ w'.cell? ⟨gb402, 1, none⟩ = some (.string ((rd_TGap l1 x28_2).f1)) ∧ w'.cell? ⟨gb402, 2, none⟩ = some (.slice A401_2 ((rd_TGap l1 x28_2).f2).length c401_2)) (ds := []) #[false, false, false, false, false, false, false, false, false, false, false, false, false, false, false, false, false, false, false, false, false, false, false, false, false, false, false, false, false, false, false, false, false, false, false, false, false, false, false, false, false, false, false, false, false, false, false] KR rfl rfl ⟨bc 0 BK402, bc 1 BK402, bc 2 BK402⟩ (fun hHeld => ?_); refine with_tabW spec_GoodGaps.tab6 spec_GoodGaps.bits6 (fun HT_ HW_ => ?_)
          generalize w57.drew = w58 at BK402 HB hHeld ⊢
          refine pA 0 33 (mL 47 1) HT_ rfl rfl ?_
          refine tA 1 34 (mL 47 3) HT_ HW_ hHeld rfl rfl (by rintro w' ⟨s0, s1, s2⟩; go_simp; with_reducible rfl) ?_
          refine one_ (i := 2) (N := some 35) (mL 47 7) rfl rfl (one_of HT_.out KR) (by decide) (fun K hK => ?_)
          refine goes_ Tryd.func65 KR rfl #[.string ((rd_TGap l1 x28_2).f0)] (by rfl) rfl rfl TA ?_
          with_reducible refine (spec_GoodName.calls k2 ((rd_TGap l1 x28_2).f0) true _ A19.out).mono ?_
          rintro e w59 ⟨rfl, hb⟩
          refine ⟨_, rfl, ?_⟩
          replace BK402 := KB BK402 hb
          replace HB := BS hb
          (try clear hb)
          (try clear hb2)
          (try clear hk)
          (try clear hi)
          refine hK.out _ _ ⟨bc 0 BK402, bc 1 BK402, bc 2 BK402⟩ (fun hHeld => ?_)
          clear hK K
          refine nA ?_
          refine pA 3 36 (mL 47 15) HT_ rfl rfl ?_
          refine pA 4 37 (mL 47 31) HT_ rfl rfl ?_
          refine pA 5 38 (mL 47 63) HT_ rfl rfl ?_
          refine pA 7 40 (mL 47 191) HT_ rfl rfl ?_
          refine tA 6 39 (mL 47 255) HT_ HW_ hHeld rfl rfl (by rintro w' ⟨s0, s1, s2⟩; go_simp; with_reducible rfl) ?_
          refine one_ (i := 8) (N := some 41) (mL 47 511) rfl rfl (one_of HT_.out KR) (by decide) (fun K hK => ?_)
          refine goes_ Tryd.func74 KR rfl #[.string ((rd_TGap l1 x28_2).f0), .string a0] (by rfl) rfl rfl TA ?_
          with_reducible refine (spec_l1Below.calls ((rd_TGap l1 x28_2).f0) a0 false _ A21.out).mono ?_
          rintro e w' ⟨rfl, ⟨nd, rfl⟩⟩
          refine ⟨_, rfl, ?_⟩
          refine hK.out _ _ ⟨bc 0 BK402, bc 1 BK402, bc 2 BK402⟩ (fun hHeld => ?_)
          clear hK K
          refine nA ?_
          refine pA 9 42 (mL 47 1023) HT_ rfl rfl ?_
          refine pA 10 43 (mL 47 2047) HT_ rfl rfl ?_
          refine pA 11 44 (mL 47 4095) HT_ rfl rfl ?_
          refine pU 12 45 (mL 47 8191) HT_ rfl rfl ?_
          refine pU 13 46 (mL 47 16383) HT_ rfl rfl ?_
          refine pU 14 47 (mL 47 32767) HT_ rfl rfl ?_
          refine pU 15 48 (mL 47 65535) HT_ rfl rfl ?_
          refine pU 16 49 (mL 47 131071) HT_ rfl rfl ?_
          refine pU 17 50 (mL 47 262143) HT_ rfl rfl ?_
          refine pU 18 51 (mL 47 524287) HT_ rfl rfl ?_
          refine pU 19 52 (mL 47 1048575) HT_ rfl rfl ?_
          refine pU 20 53 (mL 47 2097151) HT_ rfl rfl ?_
          refine pU 21 54 (mL 47 4194303) HT_ rfl rfl ?_
          refine pU 22 55 (mL 47 8388607) HT_ rfl rfl ?_
          refine pU 23 56 (mL 47 16777215) HT_ rfl rfl ?_
          refine pU 24 57 (mL 47 33554431) HT_ rfl rfl ?_
          refine pU 25 58 (mL 47 67108863) HT_ rfl rfl ?_
          refine pA 26 59 (mL 47 134217727) HT_ rfl rfl ?_
          refine pA 27 60 (mL 47 268435455) HT_ rfl rfl ?_
          refine pU 28 61 (mL 47 536870911) HT_ rfl rfl ?_
          refine pU 29 62 (mL 47 1073741823) HT_ rfl rfl ?_
          refine pU 30 63 (mL 47 2147483647) HT_ rfl rfl ?_
          refine pU 31 64 (mL 47 4294967295) HT_ rfl rfl ?_
          refine pU 32 65 (mL 47 8589934591) HT_ rfl rfl ?_
          refine pU 33 66 (mL 47 17179869183) HT_ rfl rfl ?_
          refine pU 34 67 (mL 47 34359738367) HT_ rfl rfl ?_
          refine pU 35 68 (mL 47 68719476735) HT_ rfl rfl ?_
          refine pU 36 69 (mL 47 137438953471) HT_ rfl rfl ?_
          refine pU 37 70 (mL 47 274877906943) HT_ rfl rfl ?_
          refine pU 38 71 (mL 47 549755813887) HT_ rfl rfl ?_
          refine pU 39 72 (mL 47 1099511627775) HT_ rfl rfl ?_
          refine pA 40 73 (mL 47 2199023255551) HT_ rfl rfl ?_
          refine pA 41 74 (mL 47 4398046511103) HT_ rfl rfl ?_
          refine pU 42 75 (mL 47 8796093022207) HT_ rfl rfl ?_
          refine pU 43 76 (mL 47 17592186044415) HT_ rfl rfl ?_
          refine pU 44 77 (mL 47 35184372088831) HT_ rfl rfl ?_
          refine pU 45 78 (mL 47 70368744177663) HT_ rfl rfl ?_
          refine pA 46 79 (mL 47 140737488355327) HT_ rfl rfl ?_
          refine done_ (done_of HT_.out KR) ?_
          try go_wp2
          go_meet
          case rel => exact ⟨_, (true), TF, H', ⟨by have := HJ2.out; have := HK2.out; first | omega | exact Nat.le_refl _⟩, KW BK402, ⟨TB⟩⟩
        ·replace c20 := Bool.eq_false_iff.mpr c20
         subst c20
         replace H := iff' H
         have H' := Aside0.mk H
         clear H
         try go_wp2
         have n0_ : Aside0 ((((w17.setCell ⟨gb402, 0, none⟩ (.string ((rd_TGap l1 x28_2).f0))).setCell ⟨gb402, 1, none⟩ (.string ((rd_TGap l1 x28_2).f1))).setCell ⟨gb402, 2, none⟩ (.slice A401_2 ((rd_TGap l1 x28_2).f2).length c401_2)).heap[gb402]? = some (.cells #[.string ((rd_TGap l1 x28_2).f0), .string ((rd_TGap l1 x28_2).f1), .slice A401_2 ((rd_TGap l1 x28_2).f2).length c401_2] 44 (0, 0))) := ⟨TS⟩
         have n1_ : Aside0 (Below w.heap.size w (((w17.setCell ⟨gb402, 0, none⟩ (.string ((rd_TGap l1 x28_2).f0))).setCell ⟨gb402, 1, none⟩ (.string ((rd_TGap l1 x28_2).f1))).setCell ⟨gb402, 2, none⟩ (.slice A401_2 ((rd_TGap l1 x28_2).f2).length c401_2))) := ⟨TB⟩
         (try clear BK402)
         (try clear HB)
         generalize (((w17.setCell ⟨gb402, 0, none⟩ (.string ((rd_TGap l1 x28_2).f0))).setCell ⟨gb402, 1, none⟩ (.string ((rd_TGap l1 x28_2).f1))).setCell ⟨gb402, 2, none⟩ (.slice A401_2 ((rd_TGap l1 x28_2).f2).length c401_2)) = w60 at n0_ n1_ ⊢
         have BK402 := n0_
         have HB := n1_
         clear n0_ n1_
         replace BK402 := Aside0.mk (blk_drew BK402.out)
         replace HB := Aside0.mk (below_drew1 HB.out)
         refine start_ (n := 47) (S := fun w' => w'.cell? ⟨gb402, 0, none⟩ = some (.string ((rd_TGap l1 x28_2).f0)) ∧ w'.cell? ⟨gb402, 1, none⟩ = some (.string ((rd_TGap l1 x28_2).f1)) ∧ w'.cell? ⟨gb402, 2, none⟩ = some (.slice A401_2 ((rd_TGap l1 x28_2).f2).length c401_2)) (ds := []) #[false, false, false, false, false, false, false, false, false, false, false, false, false, false, false, false, false, false, false, false, false, false, false, false, false, false, false, false, false, false, false, false, false, false, false, false, false, false, false, false, false, false, false, false, false, false, false] KR rfl rfl ⟨bc 0 BK402, bc 1 BK402, bc 2 BK402⟩ (fun hHeld => ?_); refine with_tabW spec_GoodGaps.tab6 spec_GoodGaps.bits6 (fun HT_ HW_ => ?_)
         generalize w60.drew = w61 at BK402 HB hHeld ⊢
         refine pA 0 33 (mL 47 1) HT_ rfl rfl ?_
         refine tA 1 34 (mL 47 3) HT_ HW_ hHeld rfl rfl (by rintro w' ⟨s0, s1, s2⟩; go_simp; with_reducible rfl) ?_
         refine one_ (i := 2) (N := some 35) (mL 47 7) rfl rfl (one_of HT_.out KR) (by decide) (fun K hK => ?_)
         refine goes_ Tryd.func65 KR rfl #[.string ((rd_TGap l1 x28_2).f0)] (by rfl) rfl rfl TA ?_
         with_reducible refine (spec_GoodName.calls k2 ((rd_TGap l1 x28_2).f0) false _ A19.out).mono ?_
         rintro e w62 ⟨rfl, hb⟩
         refine ⟨_, rfl, ?_⟩
         replace BK402 := KB BK402 hb
         replace HB := BS hb
         (try clear hb)
         (try clear hb2)
         (try clear hk)
         (try clear hi)
         refine hK.out _ _ ⟨bc 0 BK402, bc 1 BK402, bc 2 BK402⟩ (fun hHeld => ?_)
         clear hK K
         refine nA ?_
         refine pA 3 36 (mL 47 15) HT_ rfl rfl ?_
         refine pA 4 37 (mL 47 31) HT_ rfl rfl ?_
         refine pU 5 38 (mL 47 63) HT_ rfl rfl ?_
         refine pU 6 39 (mL 47 127) HT_ rfl rfl ?_
         refine pU 7 40 (mL 47 255) HT_ rfl rfl ?_
         refine pU 8 41 (mL 47 511) HT_ rfl rfl ?_
         refine pU 9 42 (mL 47 1023) HT_ rfl rfl ?_
         refine pA 10 43 (mL 47 2047) HT_ rfl rfl ?_
         refine pA 11 44 (mL 47 4095) HT_ rfl rfl ?_
         refine pU 12 45 (mL 47 8191) HT_ rfl rfl ?_
         refine pU 13 46 (mL 47 16383) HT_ rfl rfl ?_
         refine pU 14 47 (mL 47 32767) HT_ rfl rfl ?_
         refine pU 15 48 (mL 47 65535) HT_ rfl rfl ?_
         refine pU 16 49 (mL 47 131071) HT_ rfl rfl ?_
         refine pU 17 50 (mL 47 262143) HT_ rfl rfl ?_
         refine pU 18 51 (mL 47 524287) HT_ rfl rfl ?_
         refine pU 19 52 (mL 47 1048575) HT_ rfl rfl ?_
         refine pU 20 53 (mL 47 2097151) HT_ rfl rfl ?_
         refine pU 21 54 (mL 47 4194303) HT_ rfl rfl ?_
         refine pU 22 55 (mL 47 8388607) HT_ rfl rfl ?_
         refine pU 23 56 (mL 47 16777215) HT_ rfl rfl ?_
         refine pU 24 57 (mL 47 33554431) HT_ rfl rfl ?_
         refine pU 25 58 (mL 47 67108863) HT_ rfl rfl ?_
         refine pA 26 59 (mL 47 134217727) HT_ rfl rfl ?_
         refine pA 27 60 (mL 47 268435455) HT_ rfl rfl ?_
         refine pU 28 61 (mL 47 536870911) HT_ rfl rfl ?_
         refine pU 29 62 (mL 47 1073741823) HT_ rfl rfl ?_
         refine pU 30 63 (mL 47 2147483647) HT_ rfl rfl ?_
         refine pU 31 64 (mL 47 4294967295) HT_ rfl rfl ?_
         refine pU 32 65 (mL 47 8589934591) HT_ rfl rfl ?_
         refine pU 33 66 (mL 47 17179869183) HT_ rfl rfl ?_
         refine pU 34 67 (mL 47 34359738367) HT_ rfl rfl ?_
         refine pU 35 68 (mL 47 68719476735) HT_ rfl rfl ?_
         refine pU 36 69 (mL 47 137438953471) HT_ rfl rfl ?_
         refine pU 37 70 (mL 47 274877906943) HT_ rfl rfl ?_
         refine pU 38 71 (mL 47 549755813887) HT_ rfl rfl ?_
         refine pU 39 72 (mL 47 1099511627775) HT_ rfl rfl ?_
         refine pA 40 73 (mL 47 2199023255551) HT_ rfl rfl ?_
         refine pA 41 74 (mL 47 4398046511103) HT_ rfl rfl ?_
         refine pU 42 75 (mL 47 8796093022207) HT_ rfl rfl ?_
         refine pU 43 76 (mL 47 17592186044415) HT_ rfl rfl ?_
         refine pU 44 77 (mL 47 35184372088831) HT_ rfl rfl ?_
         refine pU 45 78 (mL 47 70368744177663) HT_ rfl rfl ?_
         refine pA 46 79 (mL 47 140737488355327) HT_ rfl rfl ?_
         refine done_ (done_of HT_.out KR) ?_
         try go_wp2
         go_meet
         case rel => exact ⟨_, (true), TF, H', ⟨by have := HJ2.out; have := HK2.out; first | omega | exact Nat.le_refl _⟩, KW BK402, ⟨TB⟩⟩
       case rest =>
        clear HC16
        obtain ⟨kq, x79_15, rfl, HA, HJ15, BK402, HB⟩ := hcut
        cases kq with
        | zero => exact absurd HA.out (by simp [spec_GoodGaps.j2])
        | succ kj15 =>
         have H := HA.out
         clear HA
         simp only [spec_GoodGaps.j2] at H
         by_cases c63 : x79_15 = true
         ·subst c63
          replace H := ift H
          obtain rfl := Option.some.inj H
          go_wp2
          go_ret
          exact ⟨TE, TB⟩
         ·replace c63 := Bool.eq_false_iff.mpr c63
          subst c63
          replace H := iff' H
          have H' := Aside0.mk H
          clear H
          have hcz64 := cz3 BK402
          go_wp2
          go_loopg [83] kj15 (fun kq v83 w' => ∃ (x83_4 : Int), v83 = .int .i64 x83_4 ∧ Aside0 (spec_GoodGaps.l1 kq a0 l1 l1 (l1.length : Int) x28_2 ((rd_TGap l1 x28_2).f2) (((rd_TGap l1 x28_2).f2).length : Int) x83_4 ((rd_TGap l1 x28_2).f0) ((rd_TGap l1 x28_2).f1) ((rd_TGap l1 x28_2).f2) = some r) ∧ Aside0 (kq ≤ kj15) ∧ Aside0 (w'.heap[gb402]? = some (.cells #[.string ((rd_TGap l1 x28_2).f0), .string ((rd_TGap l1 x28_2).f1), (.slice A401_2 ((rd_TGap l1 x28_2).f2).length c401_2)] 44 (0, 0))) ∧ Aside0 (Below w.heap.size w w'))
          case atStart => exact ⟨(0), TF, H', ⟨Nat.le_refl _⟩, KW BK402, ⟨TB⟩⟩
          case round =>
           clear H'
           obtain ⟨x83_4, rfl, HA, HK4, BK402, HB⟩ := hrel
           cases gk with
           | zero => exact absurd HA.out (by simp [spec_GoodGaps.l1])
           | succ k4 =>
            have H := HA.out
            clear HA
            simp only [spec_GoodGaps.l1] at H
            by_cases c65 : x83_4 < (((rd_TGap l1 x28_2).f2).length : Int)
            ·rw [if_pos c65] at H
             have c65b0 : decide (x83_4 < (((rd_TGap l1 x28_2).f2).length : Int)) = true := decide_eq_true c65
             clear c65
             obtain ⟨c66, H⟩ := ifn H
             have c66b0 : decide (0 ≤ x83_4) = true := decide_eq_true c66
             clear c66
             obtain ⟨c67, H⟩ := ifn H
             have c67b0 : decide (x83_4 < (((rd_TGap l1 x28_2).f2).length : Int)) = true := decide_eq_true c67
             clear c67
             obtain ⟨t410, A68, H⟩ := bnd H
             by_cases c69 : t410 = true
             ·subst c69
              replace H := ift H
              by_cases c70 : x83_4 > 0
              ·rw [if_pos c70] at H
               have c70b0 : decide (0 < x83_4) = true := decide_eq_true c70
               clear c70
               obtain ⟨ji71, hji71⟩ : ∃ j_ : Int, (wrap64 (x83_4 - 1)) = j_ := ⟨_, rfl⟩
               replace H : (if 0 ≤ (ji71) then (if (ji71) < (((rd_TGap l1 x28_2).f2).length : Int) then (if (rd ((rd_TGap l1 x28_2).f2) (ji71)) ≥ (rd ((rd_TGap l1 x28_2).f2) x83_4) then (some false) else (spec_GoodGaps.l1 k4 a0 l1 l1 (l1.length : Int) x28_2 ((rd_TGap l1 x28_2).f2) (((rd_TGap l1 x28_2).f2).length : Int) (wrap64 (x83_4 + 1)) ((rd_TGap l1 x28_2).f0) ((rd_TGap l1 x28_2).f1) ((rd_TGap l1 x28_2).f2))) else (none)) else (none)) = some r := by first | (rw [hji71] at H; exact H) | (simp only [hji71] at H ⊢; exact H)
               (try rw [hji71] at A68)
               have hji71w : (IntKind.i64.wrap (x83_4 - 1)) = ji71 := (i64_w _).trans hji71
               obtain ⟨c72, H⟩ := ifn H
               have c72b0 : decide (0 ≤ (ji71)) = true := decide_eq_true c72
               clear c72
               obtain ⟨c73, H⟩ := ifn H
               have c73b0 : decide ((ji71) < (((rd_TGap l1 x28_2).f2).length : Int)) = true := decide_eq_true c73
               clear c73
               by_cases c74 : (rd ((rd_TGap l1 x28_2).f2) (ji71)) ≥ (rd ((rd_TGap l1 x28_2).f2) x83_4)
               ·rw [if_pos c74] at H
                have c74b0 : decide ((rd ((rd_TGap l1 x28_2).f2) x83_4) ≤ (rd ((rd_TGap l1 x28_2).f2) (ji71))) = true := decide_eq_true c74
                clear c74
                obtain rfl := Option.some.inj H
                have p409 : 0 ≤ (x83_4 : Int) := TD
                have q409 : x83_4 < (((rd_TGap l1 x28_2).f2).length : Int) := TD
                obtain ⟨ad409, e409, hx409_0⟩ := Kd.at_int (Kd.C_below HR401_2.out HB.out) x83_4 p409 q409
                cases e409
                replace p409 := eq_true p409
                replace q409 := eq_true q409
                go_wp2_with (first | ((with_reducible refine gate_callee (f := 76) rfl ?_); refine goesL_ (some 89) rfl rfl Tryd.func76 KR rfl #[.int .i64 (rd ((rd_TGap l1 x28_2).f2) x83_4)] rfl TA ?_; (with_reducible refine (spec_l3Type.calls k4 (rd ((rd_TGap l1 x28_2).f2) x83_4) true _ A68.out).mono ?_); rintro e w75 ⟨rfl, hb⟩; refine ⟨_, rfl, ?_⟩; replace BK402 := KB BK402 hb; replace HB := BS hb; clear hb; have hcz76 := cz3 BK402; have p411 : 0 ≤ ((ji71) : Int) := TD; have q411 : (ji71) < (((rd_TGap l1 x28_2).f2).length : Int) := TD; obtain ⟨ad411, e411, hx411_0⟩ := Kd.at_int HR401_2.out (ji71) p411 q411; obtain rfl : ad409 = ad411 := (by injection e411); replace hx411_0 := hBc HB hx411_0; replace p411 := eq_true p411; replace q411 := eq_true q411))
                go_ret
                exact ⟨by first | rfl | (simp [errW_none, errW_some] <;> rfl) | (simp only [← hji71]; first | rfl | (simp [errW_none, errW_some] <;> rfl)) | (simp [*, errW_none, errW_some] <;> rfl), TB⟩
               ·rw [if_neg c74] at H
                have c74b0 : decide ((rd ((rd_TGap l1 x28_2).f2) x83_4) ≤ (rd ((rd_TGap l1 x28_2).f2) (ji71))) = false := decide_eq_false c74
                clear c74
                have H' := Aside0.mk H
                clear H
                have p409 : 0 ≤ (x83_4 : Int) := TD
                have q409 : x83_4 < (((rd_TGap l1 x28_2).f2).length : Int) := TD
                obtain ⟨ad409, e409, hx409_0⟩ := Kd.at_int (Kd.C_below HR401_2.out HB.out) x83_4 p409 q409
                cases e409
                replace p409 := eq_true p409
                replace q409 := eq_true q409
                go_wp2_with (first | ((with_reducible refine gate_callee (f := 76) rfl ?_); refine goesL_ (some 89) rfl rfl Tryd.func76 KR rfl #[.int .i64 (rd ((rd_TGap l1 x28_2).f2) x83_4)] rfl TA ?_; (with_reducible refine (spec_l3Type.calls k4 (rd ((rd_TGap l1 x28_2).f2) x83_4) true _ A68.out).mono ?_); rintro e w77 ⟨rfl, hb⟩; refine ⟨_, rfl, ?_⟩; replace BK402 := KB BK402 hb; replace HB := BS hb; clear hb; have hcz78 := cz3 BK402; have p411 : 0 ≤ ((ji71) : Int) := TD; have q411 : (ji71) < (((rd_TGap l1 x28_2).f2).length : Int) := TD; obtain ⟨ad411, e411, hx411_0⟩ := Kd.at_int HR401_2.out (ji71) p411 q411; obtain rfl : ad409 = ad411 := (by injection e411); replace hx411_0 := hBc HB hx411_0; replace p411 := eq_true p411; replace q411 := eq_true q411))
                go_roundg k4
                case measure => have := HJ2.out; have := HK2.out; have := HJ15.out; have := HK4.out; omega
                case rel => exact ⟨(wrap64 (x83_4 + 1)), TF, H', ⟨by have := HJ2.out; have := HK2.out; have := HJ15.out; have := HK4.out; omega⟩, KW BK402, ⟨TB⟩⟩
              ·rw [if_neg c70] at H
               have c70b0 : decide (0 < x83_4) = false := decide_eq_false c70
               clear c70
               have H' := Aside0.mk H
               clear H
               have p409 : 0 ≤ (x83_4 : Int) := TD
               have q409 : x83_4 < (((rd_TGap l1 x28_2).f2).length : Int) := TD
               obtain ⟨ad409, e409, hx409_0⟩ := Kd.at_int (Kd.C_below HR401_2.out HB.out) x83_4 p409 q409
               cases e409
               replace p409 := eq_true p409
               replace q409 := eq_true q409
               go_wp2_with (first | ((with_reducible refine gate_callee (f := 76) rfl ?_); refine goesL_ (some 89) rfl rfl Tryd.func76 KR rfl #[.int .i64 (rd ((rd_TGap l1 x28_2).f2) x83_4)] rfl TA ?_; (with_reducible refine (spec_l3Type.calls k4 (rd ((rd_TGap l1 x28_2).f2) x83_4) true _ A68.out).mono ?_); rintro e w79 ⟨rfl, hb⟩; refine ⟨_, rfl, ?_⟩; replace BK402 := KB BK402 hb; replace HB := BS hb; clear hb))
               go_roundg k4
               case measure => have := HJ2.out; have := HK2.out; have := HJ15.out; have := HK4.out; omega
               case rel => exact ⟨(wrap64 (x83_4 + 1)), TF, H', ⟨by have := HJ2.out; have := HK2.out; have := HJ15.out; have := HK4.out; omega⟩, KW BK402, ⟨TB⟩⟩
             ·replace c69 := Bool.eq_false_iff.mpr c69
              subst c69
              replace H := iff' H
              obtain rfl := Option.some.inj H
              have p409 : 0 ≤ (x83_4 : Int) := TD
              have q409 : x83_4 < (((rd_TGap l1 x28_2).f2).length : Int) := TD
              obtain ⟨ad409, e409, hx409_0⟩ := Kd.at_int (Kd.C_below HR401_2.out HB.out) x83_4 p409 q409
              cases e409
              replace p409 := eq_true p409
              replace q409 := eq_true q409
              go_wp2_with (first | ((with_reducible refine gate_callee (f := 76) rfl ?_); refine goesL_ (some 89) rfl rfl Tryd.func76 KR rfl #[.int .i64 (rd ((rd_TGap l1 x28_2).f2) x83_4)] rfl TA ?_; (with_reducible refine (spec_l3Type.calls k4 (rd ((rd_TGap l1 x28_2).f2) x83_4) false _ A68.out).mono ?_); rintro e w80 ⟨rfl, hb⟩; refine ⟨_, rfl, ?_⟩; replace BK402 := KB BK402 hb; replace HB := BS hb; clear hb))
              go_ret
              exact ⟨TE, TB⟩
            ·rw [if_neg c65] at H
             have c65b0 : decide (x83_4 < (((rd_TGap l1 x28_2).f2).length : Int)) = false := decide_eq_false c65
             clear c65
             have H' := Aside0.mk H
             clear H
             go_wp2
             go_roundg k4
             case measure => have := HJ2.out; have := HK2.out; have := HJ15.out; have := HK4.out; omega
             case rel => exact ⟨(wrap64 (x28_2 + 1)), TF, H', ⟨by have := HJ2.out; have := HK2.out; have := HJ15.out; have := HK4.out; omega⟩, ⟨TB⟩⟩
      ·rw [if_neg c13] at H
       have c13b0 : decide (x28_2 < (l1.length : Int)) = false := decide_eq_false c13
       clear c13
       obtain rfl := Option.some.inj H
       go_wp2
       go_ret
       exact ⟨TE, TB⟩
end
section
/-! ### spec_l8Covers: function 66 -/
def spec_l8Covers.f (k : Nat) (a0_0 : ByteArray) (a0_1 : ByteArray) (l0_2 : List Int) (a1 : ByteArray) : Option (Bool) := (spec_l1Compare.f k a0_0 a1).bind fun t153 => (if t153 ≥ 0 then (some false) else ((spec_l1Compare.f k a0_1 a0_0).bind fun t154 => (if t154 ≤ 0 then (some true) else ((spec_l1Compare.f k a1 a0_1).bind fun t155 => (some (decide (t155 < 0)))))))
theorem spec_l8Covers.calls (k : Nat) (a0_0 : ByteArray) (a0_1 : ByteArray) (A0_2 : Option Addr) (c0_2 : Nat) (l0_2 : List Int) (a1 : ByteArray) (r : Bool) (w : World) (hr0_2 : Kd.C (Kd.int .i64) w A0_2 l0_2.length l0_2) (hc0_2 : l0_2.length ≤ c0_2) (h : spec_l8Covers.f k a0_0 a0_1 l0_2 a1 = some r) :
  Calls Tryd.prog 66 #[.agg #[.string a0_0, .string a0_1, .slice A0_2 l0_2.length c0_2], .string a1] w fun e w' => e = .returned (.bool r) ∧ Below w.heap.size w w' := by
 have hu44 := Tryd.underlying44
 have HR0_2 := Aside0.mk hr0_2
 have HC0_2 := Aside0.mk hc0_2
 clear hr0_2 hc0_2
 have HB := Aside0.mk (Below.refl w.heap.size w)
 have H : ((spec_l1Compare.f k a0_0 a1).bind fun t153 => (if t153 ≥ 0 then (some false) else ((spec_l1Compare.f k a0_1 a0_0).bind fun t154 => (if t154 ≤ 0 then (some true) else ((spec_l1Compare.f k a1 a0_1).bind fun t155 => (some (decide (t155 < 0)))))))) = some r := h
 clear h
 obtain ⟨t153, A3, H⟩ := bnd H
 by_cases c4 : t153 ≥ 0
 ·rw [if_pos c4] at H
  have c4b0 : decide (0 ≤ t153) = true := decide_eq_true c4
  clear c4
  obtain rfl := Option.some.inj H
  go_enter Tryd.func66, Tryd.ntmps66
  go_wp2_with (first | ((with_reducible refine gate_dst (N := 2) rfl ?_); refine bE 2 #[.string a0_0, .string a0_1, .slice A0_2 l0_2.length c0_2] 44 ?_; intro gb152 hg w5 hbox hb; have BK152 := Aside0.mk (hbox); have GE152 := bG hg; replace HB := BS hb; clear hb hbox hg; have hcz6 := cz3 BK152) | ((with_reducible refine gate_callee (f := 75) rfl ?_); refine goesL_ (some 8) rfl rfl Tryd.func75 KR rfl #[.string a0_0, .string a1] rfl TA ?_; (with_reducible refine (spec_l1Compare.calls k a0_0 a1 t153 _ A3.out).mono ?_); rintro e w7 ⟨rfl, hb⟩; refine ⟨_, rfl, ?_⟩; replace BK152 := KB BK152 hb; replace HB := BS hb; clear hb))
  go_ret
  exact ⟨TE, TB⟩
 ·rw [if_neg c4] at H
  have c4b0 : decide (0 ≤ t153) = false := decide_eq_false c4
  clear c4
  obtain ⟨t154, A8, H⟩ := bnd H
  by_cases c9 : t154 ≤ 0
  ·rw [if_pos c9] at H
   have c9b0 : decide (t154 ≤ 0) = true := decide_eq_true c9
   clear c9
   obtain rfl := Option.some.inj H
   go_enter Tryd.func66, Tryd.ntmps66
   go_wp2_with (first | ((with_reducible refine gate_dst (N := 2) rfl ?_); refine bE 2 #[.string a0_0, .string a0_1, .slice A0_2 l0_2.length c0_2] 44 ?_; intro gb152 hg w10 hbox hb; have BK152 := Aside0.mk (hbox); have GE152 := bG hg; replace HB := BS hb; clear hb hbox hg; have hcz11 := cz3 BK152) | ((with_reducible refine gate_callee (f := 75) rfl ?_); refine goesL_ (some 8) rfl rfl Tryd.func75 KR rfl #[.string a0_0, .string a1] rfl TA ?_; (with_reducible refine (spec_l1Compare.calls k a0_0 a1 t153 _ A3.out).mono ?_); rintro e w12 ⟨rfl, hb⟩; refine ⟨_, rfl, ?_⟩; replace BK152 := KB BK152 hb; replace HB := BS hb; clear hb; have hcz13 := cz3 BK152) | ((with_reducible refine gate_callee (f := 75) rfl ?_); refine goesL_ (some 14) rfl rfl Tryd.func75 KR rfl #[.string a0_1, .string a0_0] rfl TA ?_; (with_reducible refine (spec_l1Compare.calls k a0_1 a0_0 t154 _ A8.out).mono ?_); rintro e w14 ⟨rfl, hb⟩; refine ⟨_, rfl, ?_⟩; replace BK152 := KB BK152 hb; replace HB := BS hb; clear hb))
   go_ret
   exact ⟨TE, TB⟩
  ·rw [if_neg c9] at H
   have c9b0 : decide (t154 ≤ 0) = false := decide_eq_false c9
   clear c9
   obtain ⟨t155, A15, H⟩ := bnd H
   obtain rfl := Option.some.inj H
   go_enter Tryd.func66, Tryd.ntmps66
   go_wp2_with (first | ((with_reducible refine gate_dst (N := 2) rfl ?_); refine bE 2 #[.string a0_0, .string a0_1, .slice A0_2 l0_2.length c0_2] 44 ?_; intro gb152 hg w16 hbox hb; have BK152 := Aside0.mk (hbox); have GE152 := bG hg; replace HB := BS hb; clear hb hbox hg; have hcz17 := cz3 BK152) | ((with_reducible refine gate_callee (f := 75) rfl ?_); refine goesL_ (some 8) rfl rfl Tryd.func75 KR rfl #[.string a0_0, .string a1] rfl TA ?_; (with_reducible refine (spec_l1Compare.calls k a0_0 a1 t153 _ A3.out).mono ?_); rintro e w18 ⟨rfl, hb⟩; refine ⟨_, rfl, ?_⟩; replace BK152 := KB BK152 hb; replace HB := BS hb; clear hb; have hcz19 := cz3 BK152) | ((with_reducible refine gate_callee (f := 75) rfl ?_); refine goesL_ (some 14) rfl rfl Tryd.func75 KR rfl #[.string a0_1, .string a0_0] rfl TA ?_; (with_reducible refine (spec_l1Compare.calls k a0_1 a0_0 t154 _ A8.out).mono ?_); rintro e w20 ⟨rfl, hb⟩; refine ⟨_, rfl, ?_⟩; replace BK152 := KB BK152 hb; replace HB := BS hb; clear hb; have hcz21 := cz3 BK152) | (go_at_call 75; (with_reducible refine (spec_l1Compare.calls k a1 a0_1 t155 _ A15.out).mono ?_); rintro e w22 ⟨rfl, hb⟩; replace BK152 := KB BK152 hb; replace HB := BS hb; clear hb))
   go_ret
   exact ⟨TE, TB⟩
end
section
/-! ### spec_l8For: function 88 -/
def spec_l8For.l0 : Nat → ByteArray → List (S_Gap) → Int → Int → Option (Int)
 | 0, _, _, _, _ => none
 | k + 1, x1, x7, x8, x9 => if x9 < x8 then (if 0 ≤ x9 then (if x9 < (x7.length : Int) then (if ((rd_TGap x7 x9).f0).toList = x1.toList then (some x9) else ((spec_l8Covers.f k ((rd_TGap x7 x9).f0) ((rd_TGap x7 x9).f1) ((rd_TGap x7 x9).f2) x1).bind fun t414 => (if t414 = true then (some x9) else (spec_l8For.l0 k x1 x7 x8 (wrap64 (x9 + 1)))))) else (none)) else (none)) else (some 0)
def spec_l8For.f (k : Nat) (l0 : List (S_Gap)) (a1 : ByteArray) : Option (Int) := spec_l8For.l0 k a1 l0 (l0.length : Int) 0
theorem spec_l8For.calls (k : Nat) (A0 : Option Addr) (c0 : Nat) (l0 : List (S_Gap)) (a1 : ByteArray) (r : Int) (w : World) (hr0 : Kd.C k_Gap w A0 l0.length l0) (hc0 : l0.length ≤ c0) (h : spec_l8For.f k l0 a1 = some r) :
  Calls Tryd.prog 88 #[.slice A0 l0.length c0, .string a1] w fun e w' => e = .returned (.int .i64 r) ∧ Below w.heap.size w w' := by
 have hu44 := Tryd.underlying44
 have HR0 := Aside0.mk hr0
 have HC0 := Aside0.mk hc0
 clear hr0 hc0
 have HB := Aside0.mk (Below.refl w.heap.size w)
 have H : (spec_l8For.l0 k a1 l0 (l0.length : Int) 0) = some r := h
 clear h
 have H' := Aside0.mk H
 clear H
 go_enter Tryd.func88, Tryd.ntmps88
 go_wp2
 go_loopg [9] k (fun kq v9 w' => ∃ (x9_1 : Int), v9 = .int .i64 x9_1 ∧ Aside0 (spec_l8For.l0 kq a1 l0 (l0.length : Int) x9_1 = some r) ∧ Aside0 (kq ≤ k) ∧ Aside0 (Below w.heap.size w w'))
 case atStart => exact ⟨(0), TF, H', ⟨Nat.le_refl _⟩, ⟨TB⟩⟩
 case round =>
  clear H'
  obtain ⟨x9_1, rfl, HA, HK1, HB⟩ := hrel
  cases gk with
  | zero => exact absurd HA.out (by simp [spec_l8For.l0])
  | succ k1 =>
   have H := HA.out
   clear HA
   simp only [spec_l8For.l0] at H
   by_cases c3 : x9_1 < (l0.length : Int)
   ·rw [if_pos c3] at H
    have c3b0 : decide (x9_1 < (l0.length : Int)) = true := decide_eq_true c3
    clear c3
    obtain ⟨c4, H⟩ := ifn H
    have c4b0 : decide (0 ≤ x9_1) = true := decide_eq_true c4
    clear c4
    obtain ⟨c5, H⟩ := ifn H
    have c5b0 : decide (x9_1 < (l0.length : Int)) = true := decide_eq_true c5
    clear c5
    by_cases c6 : ((rd_TGap l0 x9_1).f0).toList = a1.toList
    ·rw [if_pos c6] at H
     have c6b0 : (((rd_TGap l0 x9_1).f0).toList == a1.toList) = true := beq_iff_eq.mpr c6
     have c6b1 : (((rd_TGap l0 x9_1).f0).toList != a1.toList) = false := bne_eq_false_iff_eq.mpr c6
     clear c6
     obtain rfl := Option.some.inj H
     have p412 : 0 ≤ (x9_1 : Int) := TD
     have q412 : x9_1 < (l0.length : Int) := TD
     obtain ⟨ad412, A412_2, c412_2, e412, hx412_0, hx412_1, hx412_2, hl412_2, hi412_2⟩ := at_TGap HR0.out x9_1 p412 q412
     cases e412
     replace hx412_0 := hBc HB hx412_0
     replace hx412_1 := hBc HB hx412_1
     replace hx412_2 := hBc HB hx412_2
     have HR412_2 := Aside0.mk hi412_2
     have HC412_2 := Aside0.mk hl412_2
     clear hi412_2 hl412_2
     replace p412 := eq_true p412
     replace q412 := eq_true q412
     go_wp2_with (first | ((with_reducible refine gate_dst (N := 6) rfl ?_); refine bE 6 #[.string (⟨#[]⟩ : ByteArray), .string (⟨#[]⟩ : ByteArray), .slice none 0 0] 44 ?_; intro gb413 hg w7 hbox hb; have BK413 := Aside0.mk (hbox); have GE413 := bG hg; replace HB := BS hb; clear hb hbox hg; have hcz8 := cz3 BK413))
     go_ret
     exact ⟨TE, TB⟩
    ·rw [if_neg c6] at H
     have c6b0 : (((rd_TGap l0 x9_1).f0).toList == a1.toList) = false := beq_eq_false_iff_ne.mpr c6
     have c6b1 : (((rd_TGap l0 x9_1).f0).toList != a1.toList) = true := bne_iff_ne.mpr c6
     obtain ⟨t414, A9, H⟩ := bnd H
     by_cases c10 : t414 = true
     ·subst c10
      replace H := ift H
      obtain rfl := Option.some.inj H
      have p412 : 0 ≤ (x9_1 : Int) := TD
      have q412 : x9_1 < (l0.length : Int) := TD
      obtain ⟨ad412, A412_2, c412_2, e412, hx412_0, hx412_1, hx412_2, hl412_2, hi412_2⟩ := at_TGap HR0.out x9_1 p412 q412
      cases e412
      replace hx412_0 := hBc HB hx412_0
      replace hx412_1 := hBc HB hx412_1
      replace hx412_2 := hBc HB hx412_2
      have HR412_2 := Aside0.mk hi412_2
      have HC412_2 := Aside0.mk hl412_2
      clear hi412_2 hl412_2
      replace p412 := eq_true p412
      replace q412 := eq_true q412
      go_wp2_with (first | ((with_reducible refine gate_dst (N := 6) rfl ?_); refine bE 6 #[.string (⟨#[]⟩ : ByteArray), .string (⟨#[]⟩ : ByteArray), .slice none 0 0] 44 ?_; intro gb413 hg w11 hbox hb; have BK413 := Aside0.mk (hbox); have GE413 := bG hg; replace HB := BS hb; clear hb hbox hg; have hcz12 := cz3 BK413) | (go_at_call 66; (with_reducible refine (spec_l8Covers.calls k1 ((rd_TGap l0 x9_1).f0) ((rd_TGap l0 x9_1).f1) _ _ ((rd_TGap l0 x9_1).f2) a1 true _ ?side1 ?side2 A9.out).mono ?_); (case side1 => exact Kd.C_below HR412_2.out TB); (case side2 => exact HC412_2.out); rintro e w13 ⟨rfl, hb⟩; replace BK413 := KP BK413 #[.string ((rd_TGap l0 x9_1).f0), .string ((rd_TGap l0 x9_1).f1), .slice A412_2 ((rd_TGap l0 x9_1).f2).length c412_2] hb; replace HB := BS hb; clear hb))
      go_ret
      exact ⟨TE, TB⟩
     ·replace c10 := Bool.eq_false_iff.mpr c10
      subst c10
      replace H := iff' H
      have H' := Aside0.mk H
      clear H
      have p412 : 0 ≤ (x9_1 : Int) := TD
      have q412 : x9_1 < (l0.length : Int) := TD
      obtain ⟨ad412, A412_2, c412_2, e412, hx412_0, hx412_1, hx412_2, hl412_2, hi412_2⟩ := at_TGap HR0.out x9_1 p412 q412
      cases e412
      replace hx412_0 := hBc HB hx412_0
      replace hx412_1 := hBc HB hx412_1
      replace hx412_2 := hBc HB hx412_2
      have HR412_2 := Aside0.mk hi412_2
      have HC412_2 := Aside0.mk hl412_2
      clear hi412_2 hl412_2
      replace p412 := eq_true p412
      replace q412 := eq_true q412
      go_wp2_with (first | ((with_reducible refine gate_dst (N := 6) rfl ?_); refine bE 6 #[.string (⟨#[]⟩ : ByteArray), .string (⟨#[]⟩ : ByteArray), .slice none 0 0] 44 ?_; intro gb413 hg w14 hbox hb; have BK413 := Aside0.mk (hbox); have GE413 := bG hg; replace HB := BS hb; clear hb hbox hg; have hcz15 := cz3 BK413) | (go_at_call 66; (with_reducible refine (spec_l8Covers.calls k1 ((rd_TGap l0 x9_1).f0) ((rd_TGap l0 x9_1).f1) _ _ ((rd_TGap l0 x9_1).f2) a1 false _ ?side1 ?side2 A9.out).mono ?_); (case side1 => exact Kd.C_below HR412_2.out TB); (case side2 => exact HC412_2.out); rintro e w16 ⟨rfl, hb⟩; replace BK413 := KP BK413 #[.string ((rd_TGap l0 x9_1).f0), .string ((rd_TGap l0 x9_1).f1), .slice A412_2 ((rd_TGap l0 x9_1).f2).length c412_2] hb; replace HB := BS hb; clear hb))
      go_roundg k1
      case measure => have := HK1.out; omega
      case rel => exact ⟨(wrap64 (x9_1 + 1)), TF, H', ⟨TM⟩, ⟨TB⟩⟩
   ·rw [if_neg c3] at H
    have c3b0 : decide (x9_1 < (l0.length : Int)) = false := decide_eq_false c3
    clear c3
    obtain rfl := Option.some.inj H
    go_wp2
    go_ret
    exact ⟨TE, TB⟩
end
section
/-! ### spec_l8Own: function 87 -/
def spec_l8Own.f (a0_0 : ByteArray) (a0_1 : ByteArray) (l0_2 : List Int) : Option (ByteArray × ByteArray × List Int) := (some (([] : List Int) : List Int)).bind fun y417 => (if y417.length + l0_2.length < 17592186044416 then (some (a0_0, a0_1, (y417 ++ l0_2))) else (none))
theorem spec_l8Own.calls (a0_0 : ByteArray) (a0_1 : ByteArray) (A0_2 : Option Addr) (c0_2 : Nat) (l0_2 : List Int) (r1 : ByteArray) (r2 : ByteArray) (r3 : List Int) (w : World) (hr0_2 : Kd.C (Kd.int .i64) w A0_2 l0_2.length l0_2) (hc0_2 : l0_2.length ≤ c0_2) (h : spec_l8Own.f a0_0 a0_1 l0_2 = some (r1, r2, r3)) :
  Calls Tryd.prog 87 #[.agg #[.string a0_0, .string a0_1, .slice A0_2 l0_2.length c0_2]] w fun e w' => ∃ v2_ : Value, e = .returned (.agg #[.string r1, .string r2, v2_]) ∧ Kd.R (Kd.int .i64) 3 w' w.heap.size (fun _ => True) v2_ r3 ∧ Below w.heap.size w w' := by
 have hu44 := Tryd.underlying44
 have HR0_2 := Aside0.mk hr0_2
 have HC0_2 := Aside0.mk hc0_2
 clear hr0_2 hc0_2
 have HB := Aside0.mk (Below.refl w.heap.size w)
 have H : ((some (([] : List Int) : List Int)).bind fun y417 => (if y417.length + l0_2.length < 17592186044416 then (some (a0_0, a0_1, (y417 ++ l0_2))) else (none))) = some (r1, r2, r3) := h
 clear h
 obtain ⟨y417, hy417⟩ : ∃ y_ : List Int, y_ = (([] : List Int)) := ⟨_, rfl⟩
 replace H : (if y417.length + l0_2.length < 17592186044416 then (some (a0_0, a0_1, (y417 ++ l0_2))) else (none)) = some (r1, r2, r3) := by first | (rw [hy417]; with_reducible exact H) | (have H2_ := (Option.bind_some _ _).symm.trans H; rw [hy417]; with_reducible exact H2_) | (have H2_ := (Option.bind_some _ _).symm.trans H; with_reducible exact H2_) | with_reducible exact H | (rw [hy417]; exact H) | exact H
 have Ny417 := Aside0.mk hy417
 clear hy417
 obtain ⟨c2, H⟩ := ifn H
 have LMc2 := Aside0.mk c2
 clear c2
 obtain ⟨y420, hy420⟩ : ∃ y_ : List Int, y_ = (y417 ++ l0_2) := ⟨_, rfl⟩
 replace H : (some (a0_0, a0_1, y420)) = some (r1, r2, r3) := by first | (rw [hy420]; with_reducible exact H) | (have H2_ := (Option.bind_some _ _).symm.trans H; rw [hy420]; with_reducible exact H2_) | (have H2_ := (Option.bind_some _ _).symm.trans H; with_reducible exact H2_) | with_reducible exact H | (rw [hy420]; exact H) | exact H
 have Ny420 := Aside0.mk hy420
 clear hy420
 simp only [Option.some.injEq, Prod.mk.injEq] at H
 obtain ⟨rfl, rfl, rfl⟩ := H
 go_enter Tryd.func87, Tryd.ntmps87
 go_wp2_with (first | ((with_reducible refine gate_dst (N := 1) rfl ?_); refine bE 1 #[.string a0_0, .string a0_1, .slice A0_2 l0_2.length c0_2] 44 ?_; intro gb415 hg w3 hbox hb; have BK415 := Aside0.mk (hbox); have GE415 := bG hg; replace HB := BS hb; clear hb hbox hg) | ((with_reducible refine gate_dst (N := 2) rfl ?_); refine bE 2 #[.string (⟨#[]⟩ : ByteArray), .string (⟨#[]⟩ : ByteArray), .slice none 0 0] 44 ?_; intro gb416 hg w4 hbox hb; have BK416 := Aside0.mk (hbox); have GE416 := bG hg; replace HB := BS hb; have NB415_416 := bN BK415 hg; have NB416_415 := bM BK415 hg; replace BK415 := KB BK415 hb; clear hb hbox hg) | ((with_reducible refine gate_dst (N := 3) rfl ?_); refine Kd.R_lit (Kd.int .i64) _ 3 ?hg (N := 3) ?hd (xs := ([] : List Int)) (inner := []) (ok := fun _ => True) (okp := fun _ => True) ?hr ?hp (fun _ hk => hk) trivial (Below.refl _ _) (Nat.le_refl _) (by simp) ?_; (case hd => rfl); (case hg => rfl); (case hr => first | (go_simp; done) | (go_simp; rfl)); (case hp => exact (Reps.none _ _)); intro v418 w5 ho6 hb hg_ hnew_; clear hg_ hnew_; (first | rw [← Ny417.out] at ho6 | (simp only [Int.reduceToNat] at ho6; rw [← Ny417.out] at ho6)); have HO419 := RL ho6; replace BK415 := KB BK415 hb; replace BK416 := KB BK416 hb; replace HB := BS hb; clear hb ho6; obtain ⟨hnb7, hnc7⟩ := nn NB415_416; have hcz8 := cz3 BK415) | ((with_reducible refine gate_builtin (b := .append) (xs := #[.tmp 3, .tmp 5]) rfl ?_); at_builtin; refine Kd.R_append_rows (Kd.int .i64) (w0 := w) w.heap.size rfl (.tmp 3) (.tmp 5) 39 3 (.int .i64 0) 8 rfl Tryd.underlying39 info3 rfl (by decide) (by omega) v418 y417 l0_2 _ _ _ (fun _ => True) (fun _ => False) rfl rfl ?aO ?aR (fun _ _ h => h) (fun _ h => h.elim) ?aF ?aB ?aS ?aL ?_; (case aR => repeat (first | exact (Kd.C_below HR0_2.out HB.out) | (with_reducible refine Kd.C_alloc ?_ _) | (with_reducible refine Kd.C_drewN ?_ _) | (with_reducible refine Kd.C_drew ?_))); (case aB => exact TB); (case aF => exact (fun _ _ => trivial)); (case aO => exact (RW HO419).out); (case aS => exact (below_size TB)); (case aL => have := LMc2.out; omega); intro v421 w9 ho hb hg hat; rw [← Ny420.out] at ho; have n0_ := Aside0.mk (blk_grown (g := gb415) (o := .cells #[.string a0_0, .string a0_1, .slice A0_2 l0_2.length c0_2] 44 (0, 0)) (KW BK415).out hg (Kd.R_ne HO419.out BK415.out (by decide))); have n1_ := Aside0.mk (blk_grown (g := gb416) (o := .cells #[.string (⟨#[]⟩ : ByteArray), .string (⟨#[]⟩ : ByteArray), .slice none 0 0] 44 (0, 0)) (KW BK416).out hg (Kd.R_ne HO419.out BK416.out (by decide))); have n2_ := Aside0.mk (hb); have n3_ := Aside0.mk (ho); clear BK415; clear BK416; clear HB; clear HO419; have BK415 := n0_; have BK416 := n1_; have HB := n2_; have HO422 := n3_; clear n0_ n1_ n2_ n3_; clear ho hb hg hat; obtain ⟨Ao10, co10, eo10⟩ := Kd.R_slice HO422.out; subst eo10; have hcz11 := cz3 BK415; have hcz12 := cz3 BK416))
 refine bodyPost_ret (results_cell_row rfl _ _ gb416 44 #[.string a0_0, .string a0_1, .slice Ao10 y420.length co10] (0, 0) _ rfl (by (with_reducible repeat (first | refine blk_drewN ?_ _ | refine blk_drew ?_ | refine blk_alloc ?_ _)); refine blk_put (cs := #[.string a0_0, .string a0_1, .slice none 0 0]) ?_ 2 _ rfl; (with_reducible repeat (first | refine blk_drewN ?_ _ | refine blk_drew ?_ | refine blk_alloc ?_ _)); refine blk_put (cs := #[.string a0_0, .string (⟨#[]⟩ : ByteArray), .slice none 0 0]) ?_ 1 _ rfl; (with_reducible repeat (first | refine blk_drewN ?_ _ | refine blk_drew ?_ | refine blk_alloc ?_ _)); refine blk_put (cs := #[.string (⟨#[]⟩ : ByteArray), .string (⟨#[]⟩ : ByteArray), .slice none 0 0]) ?_ 0 _ rfl; (with_reducible repeat (first | refine blk_drewN ?_ _ | refine blk_drew ?_ | refine blk_alloc ?_ _)); refine blk_far ?_ NB416_415.out _; (with_reducible repeat (first | refine blk_drewN ?_ _ | refine blk_drew ?_ | refine blk_alloc ?_ _)); exact BK416.out) Tryd.underlying44 rfl KR) rfl ?_
 exact ⟨_, TE, by (with_reducible repeat (first | apply Kd.R_alloc | apply Kd.R_drewN | apply Kd.R_drew)); exact Kd.R_mono (Kd.R_far (p := ⟨gb416, 2, none⟩) (Kd.R_far (p := ⟨gb416, 1, none⟩) (Kd.R_far (p := ⟨gb416, 0, none⟩) (Kd.R_far (p := ⟨gb415, 2, none⟩) (Kd.R_types (Kd.R_types HO422.out BK415.out (by decide)) BK416.out (by decide)) (fun _ hk => hk.1.2) (.slice Ao10 y420.length co10)) (fun _ hk => hk.2) (.string a0_0)) (fun _ hk => hk.2) (.string a0_1)) (fun _ hk => hk.2) (.slice Ao10 y420.length co10)) (fun _ hk => trivial), TB⟩
end
section
/-! ### spec_GapFor: function 47 -/
def spec_GapFor.j0 : Nat → List (S_Gap) → ByteArray → Bool → Option (ByteArray × ByteArray × List Int × Bool)
 | 0, _, _, _ => none
 | k + 1, x0, x1, x31 => if x31 = true then (some ((⟨#[]⟩ : ByteArray), (⟨#[]⟩ : ByteArray), ([] : List Int), false)) else ((spec_l8For.f k x0 x1).bind fun t429 => (if 0 ≤ t429 then (if t429 < (x0.length : Int) then ((spec_l8Own.f ((rd_TGap x0 t429).f0) ((rd_TGap x0 t429).f1) ((rd_TGap x0 t429).f2)).bind fun bt431 => (some (bt431.1, bt431.2.1, bt431.2.2, true))) else (none)) else (none)))
def spec_GapFor.f (k : Nat) (l0 : List (S_Gap)) (a1 : ByteArray) : Option (ByteArray × ByteArray × List Int × Bool) := if (l0.length : Int) = 0 then (spec_GapFor.j0 k l0 a1 true) else (if 0 < (l0.length : Int) then ((spec_GoodGaps.f k ((rd_TGap l0 0).f0) l0).bind fun t425 => (if t425 = true then ((spec_GoodName.f k a1).bind fun t426 => (if t426 = true then ((spec_l1Below.f a1 ((rd_TGap l0 0).f0)).bind fun t428 => (spec_GapFor.j0 k l0 a1 (!t428))) else (spec_GapFor.j0 k l0 a1 true))) else (spec_GapFor.j0 k l0 a1 true))) else (none))
theorem spec_GapFor.calls (k : Nat) (A0 : Option Addr) (c0 : Nat) (l0 : List (S_Gap)) (a1 : ByteArray) (r1 : ByteArray) (r2 : ByteArray) (r3 : List Int) (r4 : Bool) (w : World) (hr0 : Kd.C k_Gap w A0 l0.length l0) (hc0 : l0.length ≤ c0) (h : spec_GapFor.f k l0 a1 = some (r1, r2, r3, r4)) :
  Calls Tryd.prog 47 #[.slice A0 l0.length c0, .string a1] w fun e w' => ∃ v2_ : Value, e = .returned (.tuple #[.agg #[.string r1, .string r2, v2_], .bool r4]) ∧ Kd.R (Kd.int .i64) 3 w' w.heap.size (fun _ => True) v2_ r3 ∧ Below w.heap.size w w' := by
 have hu44 := Tryd.underlying44
 have HR0 := Aside0.mk hr0
 have HC0 := Aside0.mk hc0
 clear hr0 hc0
 have HB := Aside0.mk (Below.refl w.heap.size w)
 have H : (if (l0.length : Int) = 0 then (spec_GapFor.j0 k l0 a1 true) else (if 0 < (l0.length : Int) then ((spec_GoodGaps.f k ((rd_TGap l0 0).f0) l0).bind fun t425 => (if t425 = true then ((spec_GoodName.f k a1).bind fun t426 => (if t426 = true then ((spec_l1Below.f a1 ((rd_TGap l0 0).f0)).bind fun t428 => (spec_GapFor.j0 k l0 a1 (!t428))) else (spec_GapFor.j0 k l0 a1 true))) else (spec_GapFor.j0 k l0 a1 true))) else (none))) = some (r1, r2, r3, r4) := h
 clear h
 have HC3 := Aside0.mk H
 clear H
 go_enter Tryd.func47, Tryd.ntmps47
 go_upto_region 1 with (first | ((with_reducible refine gate_dst (N := 4) rfl ?_); refine bE 4 #[.string (⟨#[]⟩ : ByteArray), .string (⟨#[]⟩ : ByteArray), .slice none 0 0] 44 ?_; intro gb423 hg w4 hbox hb; have BK423 := Aside0.mk (hbox); have GE423 := bG hg; replace HB := BS hb; clear hb hbox hg))
 (try simp only [Act.put, List.setIfInBounds_toArray, List.set_cons_zero, List.set_cons_succ])
 go_cut [31] (fun v31 wc => ∃ (kq : Nat) (x31_2 : Bool), v31 = .bool x31_2 ∧ Aside0 (spec_GapFor.j0 kq l0 a1 x31_2 = some (r1, r2, r3, r4)) ∧ Aside0 (kq ≤ k) ∧ Aside0 (wc.heap[gb423]? = some (.cells #[.string (⟨#[]⟩ : ByteArray), .string (⟨#[]⟩ : ByteArray), (.slice none 0 0)] 44 (0, 0))) ∧ Aside0 (Below w.heap.size w wc))
 case first =>
  have H := HC3.out
  clear HC3
  by_cases c5 : (l0.length : Int) = 0
  ·rw [if_pos c5] at H
   have c5b0 : ((l0.length : Int) == 0) = true := beq_iff_eq.mpr c5
   have c5b1 : ((l0.length : Int) != 0) = false := bne_eq_false_iff_eq.mpr c5
   clear c5
   (first | rw [c5b0] | (simp only [i64_w, i32_w]; rw [c5b0]) | rw [c5b1] | skip)
   have H' := Aside0.mk H
   clear H
   go_wp2
   go_meet
   case rel => exact ⟨_, (true), TF, H', ⟨by first | omega | exact Nat.le_refl _⟩, KW BK423, ⟨TB⟩⟩
  ·rw [if_neg c5] at H
   have c5b0 : ((l0.length : Int) == 0) = false := beq_eq_false_iff_ne.mpr c5
   have c5b1 : ((l0.length : Int) != 0) = true := bne_iff_ne.mpr c5
   have c5b2 : ¬ (l0 = []) := fun h_ => c5 (by rw [h_]; rfl)
   (first | rw [c5b0] | (simp only [i64_w, i32_w]; rw [c5b0]) | rw [c5b1] | skip)
   obtain ⟨c6, H⟩ := ifn H
   have c6b0 : decide (0 < (l0.length : Int)) = true := decide_eq_true c6
   have c6b1 : decide (0 < l0.length) = true := decide_eq_true (by omega)
   clear c6
   obtain ⟨t425, A7, H⟩ := bnd H
   by_cases c8 : t425 = true
   ·subst c8
    replace H := ift H
    obtain ⟨t426, A9, H⟩ := bnd H
    by_cases c10 : t426 = true
    ·subst c10
     replace H := ift H
     obtain ⟨t428, A11, H⟩ := bnd H
     have H' := Aside0.mk H
     clear H
     have p424 : 0 ≤ (0 : Int) := (by omega)
     have q424 : 0 < (l0.length : Int) := TD
     obtain ⟨ad424, A424_2, c424_2, e424, hx424_0, hx424_1, hx424_2, hl424_2, hi424_2⟩ := at_TGap HR0.out 0 p424 q424
     cases e424
     have qi424 : (0 < l0.length) = True := eq_true (by omega)
     (try rw [show ((0 : Int)).toNat = 0 from rfl] at hx424_0)
     (try rw [show 0 * 3 = 0 from rfl] at hx424_0)
     (try rw [Addr.add_zero'] at hx424_0)
     (try rw [show ((0 : Int)).toNat = 0 from rfl] at hx424_1)
     (try rw [show 0 * 3 = 0 from rfl] at hx424_1)
     (try rw [Addr.add_zero'] at hx424_1)
     (try rw [show ((0 : Int)).toNat = 0 from rfl] at hx424_2)
     (try rw [show 0 * 3 = 0 from rfl] at hx424_2)
     (try rw [Addr.add_zero'] at hx424_2)
     replace hx424_0 := hBc HB hx424_0
     replace hx424_1 := hBc HB hx424_1
     replace hx424_2 := hBc HB hx424_2
     have HR424_2 := Aside0.mk hi424_2
     have HC424_2 := Aside0.mk hl424_2
     clear hi424_2 hl424_2
     replace p424 := eq_true p424
     replace q424 := eq_true q424
     go_wp2_with (first | (go_at_call 39; (with_reducible refine (spec_GoodGaps.calls k ((rd_TGap l0 0).f0) _ _ l0 true _ ?side1 ?side2 A7.out).mono ?_); (case side1 => exact CW ((Kd.C_below HR0.out HB.out))); (case side2 => exact HC0.out); rintro e w12 ⟨rfl, hb⟩; replace BK423 := KB BK423 hb; replace HB := BS hb; clear hb) | (go_at_call 65; (with_reducible refine (spec_GoodName.calls k a1 true _ A9.out).mono ?_); rintro e w13 ⟨rfl, hb⟩; replace BK423 := KB BK423 hb; replace HB := BS hb; clear hb; have p427 : 0 ≤ (0 : Int) := (by omega); have q427 : 0 < (l0.length : Int) := TD; obtain ⟨ad427, A427_2, c427_2, e427, hx427_0, hx427_1, hx427_2, hl427_2, hi427_2⟩ := at_TGap HR0.out 0 p427 q427; obtain rfl : ad424 = ad427 := (by injection e427); have qi427 : (0 < l0.length) = True := eq_true (by omega); (try rw [show ((0 : Int)).toNat = 0 from rfl] at hx427_0); (try rw [show 0 * 3 = 0 from rfl] at hx427_0); (try rw [Addr.add_zero'] at hx427_0); (try rw [show ((0 : Int)).toNat = 0 from rfl] at hx427_1); (try rw [show 0 * 3 = 0 from rfl] at hx427_1); (try rw [Addr.add_zero'] at hx427_1); (try rw [show ((0 : Int)).toNat = 0 from rfl] at hx427_2); (try rw [show 0 * 3 = 0 from rfl] at hx427_2); (try rw [Addr.add_zero'] at hx427_2); replace hx427_0 := hBc HB hx427_0; replace hx427_1 := hBc HB hx427_1; replace hx427_2 := hBc HB hx427_2; have HR427_2 := Aside0.mk hi427_2; have HC427_2 := Aside0.mk hl427_2; clear hi427_2 hl427_2; replace p427 := eq_true p427; replace q427 := eq_true q427; (try (have eu_ := Option.some.inj (hx427_2.symm.trans (by first | exact hx424_2 | exact hHeld.1 | exact hHeld | exact hHeld.2.1 | exact hHeld.2 | exact hHeld.2.2.1 | exact hHeld.2.2 | exact hHeld.2.2.2.1 | exact hHeld.2.2.2 | exact hHeld.2.2.2.2.1 | exact hHeld.2.2.2.2 | exact hHeld.2.2.2.2.2.1 | exact hHeld.2.2.2.2.2 | exact hHeld.2.2.2.2.2.2.1 | exact hHeld.2.2.2.2.2.2 | exact hHeld.2.2.2.2.2.2.2.1 | exact hHeld.2.2.2.2.2.2.2 | exact hHeld.2.2.2.2.2.2.2.2.1 | exact hHeld.2.2.2.2.2.2.2.2 | exact hHeld.2.2.2.2.2.2.2.2.2.1 | exact hHeld.2.2.2.2.2.2.2.2.2)); injection eu_ with ea_ en_ ec_; subst ea_; subst ec_; clear en_))) | (go_at_call 74; (with_reducible refine (spec_l1Below.calls a1 ((rd_TGap l0 0).f0) t428 _ A11.out).mono ?_); rintro e w' ⟨rfl, ⟨nd, rfl⟩⟩))
     go_meet
     case rel => exact ⟨_, (!t428), TF, H', ⟨by first | omega | exact Nat.le_refl _⟩, KW BK423, ⟨TB⟩⟩
    ·replace c10 := Bool.eq_false_iff.mpr c10
     subst c10
     replace H := iff' H
     have H' := Aside0.mk H
     clear H
     have p424 : 0 ≤ (0 : Int) := (by omega)
     have q424 : 0 < (l0.length : Int) := TD
     obtain ⟨ad424, A424_2, c424_2, e424, hx424_0, hx424_1, hx424_2, hl424_2, hi424_2⟩ := at_TGap HR0.out 0 p424 q424
     cases e424
     have qi424 : (0 < l0.length) = True := eq_true (by omega)
     (try rw [show ((0 : Int)).toNat = 0 from rfl] at hx424_0)
     (try rw [show 0 * 3 = 0 from rfl] at hx424_0)
     (try rw [Addr.add_zero'] at hx424_0)
     (try rw [show ((0 : Int)).toNat = 0 from rfl] at hx424_1)
     (try rw [show 0 * 3 = 0 from rfl] at hx424_1)
     (try rw [Addr.add_zero'] at hx424_1)
     (try rw [show ((0 : Int)).toNat = 0 from rfl] at hx424_2)
     (try rw [show 0 * 3 = 0 from rfl] at hx424_2)
     (try rw [Addr.add_zero'] at hx424_2)
     replace hx424_0 := hBc HB hx424_0
     replace hx424_1 := hBc HB hx424_1
     replace hx424_2 := hBc HB hx424_2
     have HR424_2 := Aside0.mk hi424_2
     have HC424_2 := Aside0.mk hl424_2
     clear hi424_2 hl424_2
     replace p424 := eq_true p424
     replace q424 := eq_true q424
     go_wp2_with (first | (go_at_call 39; (with_reducible refine (spec_GoodGaps.calls k ((rd_TGap l0 0).f0) _ _ l0 true _ ?side1 ?side2 A7.out).mono ?_); (case side1 => exact CW ((Kd.C_below HR0.out HB.out))); (case side2 => exact HC0.out); rintro e w14 ⟨rfl, hb⟩; replace BK423 := KB BK423 hb; replace HB := BS hb; clear hb) | (go_at_call 65; (with_reducible refine (spec_GoodName.calls k a1 false _ A9.out).mono ?_); rintro e w15 ⟨rfl, hb⟩; replace BK423 := KB BK423 hb; replace HB := BS hb; clear hb))
     go_meet
     case rel => exact ⟨_, (true), TF, H', ⟨by first | omega | exact Nat.le_refl _⟩, KW BK423, ⟨TB⟩⟩
   ·replace c8 := Bool.eq_false_iff.mpr c8
    subst c8
    replace H := iff' H
    have H' := Aside0.mk H
    clear H
    have p424 : 0 ≤ (0 : Int) := (by omega)
    have q424 : 0 < (l0.length : Int) := TD
    obtain ⟨ad424, A424_2, c424_2, e424, hx424_0, hx424_1, hx424_2, hl424_2, hi424_2⟩ := at_TGap HR0.out 0 p424 q424
    cases e424
    have qi424 : (0 < l0.length) = True := eq_true (by omega)
    (try rw [show ((0 : Int)).toNat = 0 from rfl] at hx424_0)
    (try rw [show 0 * 3 = 0 from rfl] at hx424_0)
    (try rw [Addr.add_zero'] at hx424_0)
    (try rw [show ((0 : Int)).toNat = 0 from rfl] at hx424_1)
    (try rw [show 0 * 3 = 0 from rfl] at hx424_1)
    (try rw [Addr.add_zero'] at hx424_1)
    (try rw [show ((0 : Int)).toNat = 0 from rfl] at hx424_2)
    (try rw [show 0 * 3 = 0 from rfl] at hx424_2)
    (try rw [Addr.add_zero'] at hx424_2)
    replace hx424_0 := hBc HB hx424_0
    replace hx424_1 := hBc HB hx424_1
    replace hx424_2 := hBc HB hx424_2
    have HR424_2 := Aside0.mk hi424_2
    have HC424_2 := Aside0.mk hl424_2
    clear hi424_2 hl424_2
    replace p424 := eq_true p424
    replace q424 := eq_true q424
    go_wp2_with (first | (go_at_call 39; (with_reducible refine (spec_GoodGaps.calls k ((rd_TGap l0 0).f0) _ _ l0 false _ ?side1 ?side2 A7.out).mono ?_); (case side1 => exact CW ((Kd.C_below HR0.out HB.out))); (case side2 => exact HC0.out); rintro e w16 ⟨rfl, hb⟩; replace BK423 := KB BK423 hb; replace HB := BS hb; clear hb))
    go_meet
    case rel => exact ⟨_, (true), TF, H', ⟨by first | omega | exact Nat.le_refl _⟩, KW BK423, ⟨TB⟩⟩
 case rest =>
  clear HC3
  obtain ⟨kq, x31_2, rfl, HA, HJ2, BK423, HB⟩ := hcut
  cases kq with
  | zero => exact absurd HA.out (by simp [spec_GapFor.j0])
  | succ kj2 =>
   have H := HA.out
   clear HA
   simp only [spec_GapFor.j0] at H
   by_cases c17 : x31_2 = true
   ·subst c17
    replace H := ift H
    simp only [Option.some.injEq, Prod.mk.injEq] at H
    obtain ⟨rfl, rfl, rfl, rfl⟩ := H
    have hcz18 := cz3 BK423
    go_wp2
    refine bodyPost_ret (results_ct rfl _ _ gb423 44 #[.string (⟨#[]⟩ : ByteArray), .string (⟨#[]⟩ : ByteArray), .slice none 0 0] (0, 0) _ rfl (by (with_reducible repeat (first | refine blk_drewN ?_ _ | refine blk_drew ?_ | refine blk_alloc ?_ _)); refine blk_put (cs := #[.string (⟨#[]⟩ : ByteArray), .string (⟨#[]⟩ : ByteArray), .slice none 0 0]) ?_ 2 _ rfl; (with_reducible repeat (first | refine blk_drewN ?_ _ | refine blk_drew ?_ | refine blk_alloc ?_ _)); refine blk_put (cs := #[.string (⟨#[]⟩ : ByteArray), .string (⟨#[]⟩ : ByteArray), .slice none 0 0]) ?_ 1 _ rfl; (with_reducible repeat (first | refine blk_drewN ?_ _ | refine blk_drew ?_ | refine blk_alloc ?_ _)); refine blk_put (cs := #[.string (⟨#[]⟩ : ByteArray), .string (⟨#[]⟩ : ByteArray), .slice none 0 0]) ?_ 0 _ rfl; (with_reducible repeat (first | refine blk_drewN ?_ _ | refine blk_drew ?_ | refine blk_alloc ?_ _)); exact BK423.out) Tryd.underlying44 rfl KR) rfl ?_
    exact ⟨_, TE, TZ, TB⟩
   ·replace c17 := Bool.eq_false_iff.mpr c17
    subst c17
    replace H := iff' H
    obtain ⟨t429, A19, H⟩ := bnd H
    obtain ⟨c20, H⟩ := ifn H
    have c20b0 : decide (0 ≤ t429) = true := decide_eq_true c20
    clear c20
    obtain ⟨c21, H⟩ := ifn H
    have c21b0 : decide (t429 < (l0.length : Int)) = true := decide_eq_true c21
    clear c21
    obtain ⟨⟨t431, t432, t433⟩, A22, H⟩ := bnd H
    try dsimp only at H
    simp only [Option.some.injEq, Prod.mk.injEq] at H
    obtain ⟨rfl, rfl, rfl, rfl⟩ := H
    go_wp2_with (first | ((with_reducible refine gate_callee (f := 88) rfl ?_); refine goesL_ (some 36) rfl rfl Tryd.func88 KR rfl #[.slice A0 l0.length c0, .string a1] rfl TA ?_; (with_reducible refine (spec_l8For.calls kj2 _ _ l0 a1 t429 _ ?side1 ?side2 A19.out).mono ?_); (case side1 => exact CW ((Kd.C_below HR0.out HB.out))); (case side2 => exact HC0.out); rintro e w23 ⟨rfl, hb⟩; refine ⟨_, rfl, ?_⟩; replace BK423 := KB BK423 hb; replace HB := BS hb; clear hb; have p430 : 0 ≤ (t429 : Int) := TD; have q430 : t429 < (l0.length : Int) := TD; obtain ⟨ad430, A430_2, c430_2, e430, hx430_0, hx430_1, hx430_2, hl430_2, hi430_2⟩ := at_TGap HR0.out t429 p430 q430; cases e430; replace hx430_0 := hBc HB hx430_0; replace hx430_1 := hBc HB hx430_1; replace hx430_2 := hBc HB hx430_2; have HR430_2 := Aside0.mk hi430_2; have HC430_2 := Aside0.mk hl430_2; clear hi430_2 hl430_2; replace p430 := eq_true p430; replace q430 := eq_true q430) | ((with_reducible refine gate_callee (f := 87) rfl ?_); refine goesL_ (some 39) rfl rfl Tryd.func87 KR rfl #[.agg #[.string ((rd_TGap l0 t429).f0), .string ((rd_TGap l0 t429).f1), .slice A430_2 ((rd_TGap l0 t429).f2).length c430_2]] rfl TA ?_; (with_reducible refine (spec_l8Own.calls ((rd_TGap l0 t429).f0) ((rd_TGap l0 t429).f1) _ _ ((rd_TGap l0 t429).f2) t431 t432 t433 _ ?side1 ?side2 A22.out).mono ?_); (case side1 => exact CW ((Kd.C_below HR430_2.out HB.out))); (case side2 => exact HC430_2.out); rintro e w24 ⟨v434, rfl, ho0, hb⟩; refine ⟨_, rfl, ?_⟩; have HO435 := RL ho0; replace BK423 := KB BK423 hb; replace HB := BS hb; clear hb; (try clear ho0); have hcz25 := cz3 BK423; obtain ⟨Ao26, co26, eo26⟩ := Kd.R_slice HO435.out; subst eo26))
    refine bodyPost_ret (results_ct rfl _ _ gb423 44 #[.string t431, .string t432, .slice Ao26 t433.length co26] (0, 0) _ rfl (by (with_reducible repeat (first | refine blk_drewN ?_ _ | refine blk_drew ?_ | refine blk_alloc ?_ _)); refine blk_put (cs := #[.string t431, .string t432, .slice none 0 0]) ?_ 2 _ rfl; (with_reducible repeat (first | refine blk_drewN ?_ _ | refine blk_drew ?_ | refine blk_alloc ?_ _)); refine blk_put (cs := #[.string t431, .string (⟨#[]⟩ : ByteArray), .slice none 0 0]) ?_ 1 _ rfl; (with_reducible repeat (first | refine blk_drewN ?_ _ | refine blk_drew ?_ | refine blk_alloc ?_ _)); refine blk_put (cs := #[.string (⟨#[]⟩ : ByteArray), .string (⟨#[]⟩ : ByteArray), .slice none 0 0]) ?_ 0 _ rfl; (with_reducible repeat (first | refine blk_drewN ?_ _ | refine blk_drew ?_ | refine blk_alloc ?_ _)); exact BK423.out) Tryd.underlying44 rfl KR) rfl ?_
    exact ⟨_, TE, by (with_reducible repeat (first | apply Kd.R_alloc | apply Kd.R_drewN | apply Kd.R_drew)); exact Kd.R_mono (Kd.R_far (p := ⟨gb423, 2, none⟩) (Kd.R_far (p := ⟨gb423, 1, none⟩) (Kd.R_far (p := ⟨gb423, 0, none⟩) (Kd.R_types HO435.out BK423.out (by decide)) (fun _ hk => hk.2) (.string t431)) (fun _ hk => hk.2) (.string t432)) (fun _ hk => hk.2) (.slice Ao26 t433.length co26)) (fun _ hk => trivial), TB⟩
end
section
/-! ### strings_explode: function 140 -/
def strings_explode.f (a0 : ByteArray) (a1 : Int) : Option ((List ByteArray)) := none
theorem strings_explode.calls (a0 : ByteArray) (a1 : Int) (r : (List ByteArray)) (w : World) (h : strings_explode.f a0 a1 = some r) :
  Calls Tryd.prog 140 #[.string a0, .int .i64 a1] w fun e w' => ∃ v0_ : Value, e = .returned (v0_) ∧ Kd.R Kd.string 9 w' w.heap.size (fun _ => True) v0_ r ∧ Below w.heap.size w w' := by
 cases h
end
section
/-! ### strings_Count: function 141 -/
def strings_Count.f (a0 : ByteArray) (a1 : ByteArray) : Option (Int) := if a1.size = 1 then some (Go.Lib.countByte a0.data.toList (a1.data.toList.headD 0)) else none
theorem strings_Count.calls (a0 : ByteArray) (a1 : ByteArray) (r : Int) (w : World) (h : strings_Count.f a0 a1 = some r) :
  Calls Tryd.prog 141 #[.string a0, .string a1] w fun e w' => e = .returned (.int .i64 r) ∧ Drawn0 w w' := by
 unfold strings_Count.f at h
 by_cases h1 : a1.size = 1
 ·rw [if_pos h1] at h
  obtain rfl := Option.some.inj h
  obtain ⟨⟨l⟩⟩ := a1
  match l, h1 with
  | [c], _ => exact (Go.Proofs.Any.strings_Count_one Go.Proofs.Tryd.lays138 a0 c w).mono fun e w' hh => ⟨hh.1, hh.2 ▸ Drawn0.refl _⟩
 ·rw [if_neg h1] at h
  cases h
end
section
/-! ### strings_Index: function 142 -/
def strings_Index.f (a0 : ByteArray) (a1 : ByteArray) : Option (Int) := if a1.size = 1 then some (Go.Lib.indexByte a0.data.toList (a1.data.toList.headD 0)) else none
theorem strings_Index.calls (a0 : ByteArray) (a1 : ByteArray) (r : Int) (w : World) (h : strings_Index.f a0 a1 = some r) :
  Calls Tryd.prog 142 #[.string a0, .string a1] w fun e w' => e = .returned (.int .i64 r) ∧ Drawn0 w w' := by
 unfold strings_Index.f at h
 by_cases h1 : a1.size = 1
 ·rw [if_pos h1] at h
  obtain rfl := Option.some.inj h
  obtain ⟨⟨l⟩⟩ := a1
  match l, h1 with
  | [c], _ => exact (Go.Proofs.Any.strings_Index_one Go.Proofs.Tryd.lays143 a0 c w).mono fun e w' hh => ⟨hh.1, hh.2 ▸ Drawn0.refl _⟩
 ·rw [if_neg h1] at h
  cases h
end
section
/-! ### strings_genSplit: function 128 -/
mutual
def strings_genSplit.j0 : Nat → ByteArray → ByteArray → Int → Int → Option (List ByteArray)
 | 0, _, _, _, _ => none
 | k + 1, x0, x1, x2, x3 => if 0 ≤ (mn x3 (wrap64 ((x0.size : Int) + 1))) then (if (mn x3 (wrap64 ((x0.size : Int) + 1)) : Int).toNat ≤ 17592186044416 then (strings_genSplit.l0 k x0 x1 x2 (wrap64 ((mn x3 (wrap64 ((x0.size : Int) + 1))) - 1)) (List.replicate (mn x3 (wrap64 ((x0.size : Int) + 1)) : Int).toNat (⟨#[]⟩ : ByteArray)) 0) else (none)) else (none)
def strings_genSplit.l0 : Nat → ByteArray → ByteArray → Int → Int → List ByteArray → Int → Option (List ByteArray)
 | 0, _, _, _, _, _, _ => none
 | k + 1, x0, x1, x2, x3, x9, x10 => if x10 < x3 then ((strings_Index.f x0 x1).bind fun t190 => (if t190 < 0 then (if 0 ≤ x10 then (if x10 < (x9.length : Int) then (if 0 ≤ (wrap64 (x10 + 1)) then (if (wrap64 (x10 + 1)) ≤ (x9.length : Int) then (some ((x9.set (x10 : Int).toNat x0).take ((wrap64 (x10 + 1)) : Int).toNat)) else (none)) else (none)) else (none)) else (none)) else (if 0 ≤ (wrap64 (t190 + x2)) then (if (wrap64 (t190 + x2)) ≤ (x0.size : Int) then (if 0 ≤ x10 then (if x10 < (x9.length : Int) then (if 0 ≤ (wrap64 (t190 + (x1.size : Int))) then (if (wrap64 (t190 + (x1.size : Int))) ≤ (x0.size : Int) then (strings_genSplit.l0 k (x0.extract ((wrap64 (t190 + (x1.size : Int))) : Int).toNat x0.size) x1 x2 x3 (x9.set (x10 : Int).toNat (x0.extract 0 ((wrap64 (t190 + x2)) : Int).toNat)) (wrap64 (x10 + 1))) else (none)) else (none)) else (none)) else (none)) else (none)) else (none)))) else (if 0 ≤ x10 then (if x10 < (x9.length : Int) then (if 0 ≤ (wrap64 (x10 + 1)) then (if (wrap64 (x10 + 1)) ≤ (x9.length : Int) then (some ((x9.set (x10 : Int).toNat x0).take ((wrap64 (x10 + 1)) : Int).toNat)) else (none)) else (none)) else (none)) else (none))
end
def strings_genSplit.f (k : Nat) (a0 : ByteArray) (a1 : ByteArray) (a2 : Int) (a3 : Int) : Option (List ByteArray) := if a3 = 0 then (some ([] : List ByteArray)) else (if a1.toList = ([] : List UInt8) then ((strings_explode.f a0 a3).bind fun t183 => (some t183)) else (if a3 < 0 then ((strings_Count.f a0 a1).bind fun t186 => (strings_genSplit.j0 k a0 a1 a2 (wrap64 (t186 + 1)))) else (strings_genSplit.j0 k a0 a1 a2 a3)))
theorem strings_genSplit.calls (k : Nat) (a0 : ByteArray) (a1 : ByteArray) (a2 : Int) (a3 : Int) (r : List ByteArray) (w : World) (h : strings_genSplit.f k a0 a1 a2 a3 = some r) :
  Calls Tryd.prog 128 #[.string a0, .string a1, .int .i64 a2, .int .i64 a3] w fun e w' => ∃ v0_ : Value, e = .returned (v0_) ∧ Kd.R Kd.string 9 w' w.heap.size (fun _ => True) v0_ r ∧ Below w.heap.size w w' := by
 have HB := Aside0.mk (Below.refl w.heap.size w)
 have H : (if a3 = 0 then (some ([] : List ByteArray)) else (if a1.toList = ([] : List UInt8) then ((strings_explode.f a0 a3).bind fun t183 => (some t183)) else (if a3 < 0 then ((strings_Count.f a0 a1).bind fun t186 => (strings_genSplit.j0 k a0 a1 a2 (wrap64 (t186 + 1)))) else (strings_genSplit.j0 k a0 a1 a2 a3)))) = some r := h
 clear h
 by_cases c5 : a3 = 0
 ·rw [if_pos c5] at H
  have c5b0 : (a3 == 0) = true := beq_iff_eq.mpr c5
  have c5b1 : (a3 != 0) = false := bne_eq_false_iff_eq.mpr c5
  clear c5
  obtain rfl := Option.some.inj H
  go_enter Tryd.func128, Tryd.ntmps128
  go_wp2
  go_ret
  exact ⟨_, by first | rfl | (simp [errW_none, errW_some] <;> rfl) | (simp [*, errW_none, errW_some] <;> rfl) | (simp [errW_none, errW_some]; rw [Bool.eq_iff_iff]; simp), TZ, TB⟩
 ·rw [if_neg c5] at H
  have c5b0 : (a3 == 0) = false := beq_eq_false_iff_ne.mpr c5
  have c5b1 : (a3 != 0) = true := bne_iff_ne.mpr c5
  by_cases c6 : a1.toList = ([] : List UInt8)
  ·rw [if_pos c6] at H
   have c6b0 : (a1.toList == ([] : List UInt8)) = true := beq_iff_eq.mpr c6
   have c6b1 : (a1.toList != ([] : List UInt8)) = false := bne_eq_false_iff_eq.mpr c6
   clear c6
   obtain ⟨t183, A7, H⟩ := bnd H
   obtain rfl := Option.some.inj H
   go_enter Tryd.func128, Tryd.ntmps128
   go_wp2_with (first | ((with_reducible refine gate_callee (f := 140) rfl ?_); refine goesL_ (some 18) rfl rfl Tryd.func140 KR rfl #[.string a0, .int .i64 a3] rfl TA ?_; (with_reducible refine (strings_explode.calls a0 a3 t183 _ A7.out).mono ?_); rintro e w8 ⟨v184, rfl, ho0, hb⟩; refine ⟨_, rfl, ?_⟩; have HO185 := RL ho0; replace HB := BS hb; clear hb; (try clear ho0)))
   go_ret
   exact ⟨_, by first | rfl | (simp [errW_none, errW_some] <;> rfl) | (simp [*, errW_none, errW_some] <;> rfl) | (simp [errW_none, errW_some]; rw [Bool.eq_iff_iff]; simp), (RW HO185).out, TB⟩
  ·rw [if_neg c6] at H
   have c6b0 : (a1.toList == ([] : List UInt8)) = false := beq_eq_false_iff_ne.mpr c6
   have c6b1 : (a1.toList != ([] : List UInt8)) = true := bne_iff_ne.mpr c6
   have HC9 := Aside0.mk H
   clear H
   go_enter Tryd.func128, Tryd.ntmps128
   go_upto_if 20 with (fail)
   go_cut [3] (fun v3 wc => ∃ (kq : Nat) (x3_8 : Int), v3 = .int .i64 x3_8 ∧ Aside0 (strings_genSplit.j0 kq a0 a1 a2 x3_8 = some r) ∧ Aside0 (kq ≤ k) ∧ Aside0 (Below w.heap.size w wc))
   case first =>
    have H := HC9.out
    clear HC9
    by_cases c10 : a3 < 0
    ·rw [if_pos c10] at H
     have c10b0 : decide (a3 < 0) = true := decide_eq_true c10
     clear c10
     (first | rw [c10b0] | (simp only [i64_w, i32_w]; rw [c10b0]) | skip)
     obtain ⟨t186, A11, H⟩ := bnd H
     have H' := Aside0.mk H
     clear H
     go_wp2_with (first | ((with_reducible refine gate_callee (f := 141) rfl ?_); refine goesL_ (some 23) rfl rfl Tryd.func141 KR rfl #[.string a0, .string a1] rfl TA ?_; (with_reducible refine (strings_Count.calls a0 a1 t186 _ A11.out).mono ?_); rintro e w' ⟨rfl, ⟨nd, rfl⟩⟩; refine ⟨_, rfl, ?_⟩))
     go_meet
     case rel => exact ⟨_, (wrap64 (t186 + 1)), TF, H', ⟨by first | omega | exact Nat.le_refl _⟩, ⟨TB⟩⟩
    ·rw [if_neg c10] at H
     have c10b0 : decide (a3 < 0) = false := decide_eq_false c10
     clear c10
     (first | rw [c10b0] | (simp only [i64_w, i32_w]; rw [c10b0]) | skip)
     have H' := Aside0.mk H
     clear H
     go_wp2
     go_meet
     case rel => exact ⟨_, (a3), TF, H', ⟨by first | omega | exact Nat.le_refl _⟩, ⟨TB⟩⟩
   case rest =>
    clear HC9
    obtain ⟨kq, x3_8, rfl, HA, HJ8, HB⟩ := hcut
    cases kq with
    | zero => exact absurd HA.out (by simp [strings_genSplit.j0])
    | succ kj8 =>
     have H := HA.out
     clear HA
     simp only [strings_genSplit.j0] at H
     obtain ⟨ji12, hji12⟩ : ∃ j_ : Int, (mn x3_8 (wrap64 ((a0.size : Int) + 1))) = j_ := ⟨_, rfl⟩
     replace H : (if 0 ≤ (ji12) then (if (ji12 : Int).toNat ≤ 17592186044416 then (strings_genSplit.l0 kj8 a0 a1 a2 (wrap64 ((ji12) - 1)) (List.replicate (ji12 : Int).toNat (⟨#[]⟩ : ByteArray)) 0) else (none)) else (none)) = some r := by first | (rw [hji12] at H; exact H) | (simp only [hji12] at H ⊢; exact H)
     have hji12_ : (if (wrap64 ((a0.size : Int) + 1)) < x3_8 then (wrap64 ((a0.size : Int) + 1)) else x3_8) = ji12 := hji12
     obtain ⟨c13, H⟩ := ifn H
     have c13b0 := eq_true c13
     have c13b1 : decide (0 ≤ (ji12)) = true := decide_eq_true c13
     clear c13
     obtain ⟨c14, H⟩ := ifn H
     have c14b0 := eq_true c14
     have c14b1 : decide ((ji12 : Int).toNat ≤ 17592186044416) = true := decide_eq_true c14
     clear c14
     obtain ⟨y187, hy187⟩ : ∃ y_ : List ByteArray, y_ = (List.replicate (ji12 : Int).toNat (⟨#[]⟩ : ByteArray)) := ⟨_, rfl⟩
     replace H : (strings_genSplit.l0 kj8 a0 a1 a2 (wrap64 ((ji12) - 1)) y187 0) = some r := by first | (rw [hy187]; with_reducible exact H) | (have H2_ := (Option.bind_some _ _).symm.trans H; rw [hy187]; with_reducible exact H2_) | (have H2_ := (Option.bind_some _ _).symm.trans H; with_reducible exact H2_) | with_reducible exact H | (rw [hy187]; exact H) | exact H
     have Ny187 := Aside0.mk hy187
     clear hy187
     have H' := Aside0.mk H
     clear H
     go_wp2_with (first | ((with_reducible refine gate_dst (N := 31) rfl ?_); refine Kd.R_make Kd.string _ 9 rfl (N := 31) rfl 48 _ _ rfl ji12 rfl rfl Tryd.underlying48 (.string ⟨#[]⟩) 16 info9 rfl (by decide) (by omega) (⟨#[]⟩ : ByteArray) (ok := fun _ => True) (okp := fun _ => True) rfl (fun _ hk => hk) trivial TD (Nat.le_trans (Nat.mul_le_mul_right _ (TD : ji12.toNat ≤ 17592186044416)) (by omega)) (Below.refl _ _) (Nat.le_refl _) ?_; intro v188 w15 ho16 hb hg_ hnew_; clear hg_ hnew_; (first | rw [← Ny187.out] at ho16 | (simp only [Int.reduceToNat] at ho16; rw [← Ny187.out] at ho16)); have HO189 := RL ho16; replace HB := BS hb; clear hb ho16))
     go_loopg [0, 10] kj8 (fun kq v0 v10 w' => ∃ (x0_2 : ByteArray) (x9_2 : List ByteArray) (x10_2 : Int), v0 = .string x0_2 ∧ v10 = .int .i64 x10_2 ∧ Aside0 (strings_genSplit.l0 kq x0_2 a1 a2 (wrap64 ((ji12) - 1)) x9_2 x10_2 = some r) ∧ Aside0 (kq ≤ kj8) ∧ Aside0 (Kd.R Kd.string 9 w' w.heap.size (fun _ => True) v188 x9_2) ∧ Aside0 (Below w.heap.size w w'))
     case atStart => exact ⟨(a0), (y187), (0), TF, TF, H', ⟨Nat.le_refl _⟩, RW HO189, ⟨TB⟩⟩
     case round =>
      clear H'
      obtain ⟨x0_2, x9_2, x10_2, rfl, rfl, HA, HK2, HO_9, HB⟩ := hrel
      cases gk with
      | zero => exact absurd HA.out (by simp [strings_genSplit.l0])
      | succ k2 =>
       have H := HA.out
       clear HA
       simp only [strings_genSplit.l0] at H
       by_cases c17 : x10_2 < (wrap64 ((ji12) - 1))
       ·rw [if_pos c17] at H
        have c17b0 : decide (x10_2 < (wrap64 ((ji12) - 1))) = true := decide_eq_true c17
        clear c17
        obtain ⟨t190, A18, H⟩ := bnd H
        by_cases c19 : t190 < 0
        ·rw [if_pos c19] at H
         have c19b0 : decide (t190 < 0) = true := decide_eq_true c19
         clear c19
         obtain ⟨c20, H⟩ := ifn H
         have c20b0 : decide (0 ≤ x10_2) = true := decide_eq_true c20
         clear c20
         obtain ⟨c21, H⟩ := ifn H
         have c21b0 : decide (x10_2 < (x9_2.length : Int)) = true := decide_eq_true c21
         clear c21
         obtain ⟨y191, hy191⟩ : ∃ y_ : List ByteArray, y_ = (x9_2.set (x10_2 : Int).toNat x0_2) := ⟨_, rfl⟩
         replace H : (if 0 ≤ (wrap64 (x10_2 + 1)) then (if (wrap64 (x10_2 + 1)) ≤ (x9_2.length : Int) then (some (y191.take ((wrap64 (x10_2 + 1)) : Int).toNat)) else (none)) else (none)) = some r := by first | (rw [hy191]; with_reducible exact H) | (have H2_ := (Option.bind_some _ _).symm.trans H; rw [hy191]; with_reducible exact H2_) | (have H2_ := (Option.bind_some _ _).symm.trans H; with_reducible exact H2_) | with_reducible exact H | (rw [hy191]; exact H) | exact H
         have Ny191 := Aside0.mk hy191
         clear hy191
         obtain ⟨ji23, hji23⟩ : ∃ j_ : Int, (wrap64 (x10_2 + 1)) = j_ := ⟨_, rfl⟩
         replace H : (if 0 ≤ (ji23) then (if (ji23) ≤ (x9_2.length : Int) then (some (y191.take ((ji23) : Int).toNat)) else (none)) else (none)) = some r := by first | (rw [hji23] at H; exact H) | (simp only [hji23] at H ⊢; exact H)
         (try rw [hji23] at A18)
         have hji23w : (IntKind.i64.wrap (x10_2 + 1)) = ji23 := (i64_w _).trans hji23
         obtain ⟨c24, H⟩ := ifn H
         have c24b0 := eq_true c24
         have c24b1 : decide (0 ≤ (ji23)) = true := decide_eq_true c24
         clear c24
         obtain ⟨c25, H⟩ := ifn H
         have c25b0 := eq_true c25
         have c25b1 : decide ((ji23) ≤ (x9_2.length : Int)) = true := decide_eq_true c25
         clear c25
         obtain ⟨y192, hy192⟩ : ∃ y_ : List ByteArray, y_ = (y191.take ((ji23) : Int).toNat) := ⟨_, rfl⟩
         replace H : (some y192) = some r := by first | (rw [hy192]; with_reducible exact H) | (have H2_ := (Option.bind_some _ _).symm.trans H; rw [hy192]; with_reducible exact H2_) | (have H2_ := (Option.bind_some _ _).symm.trans H; with_reducible exact H2_) | with_reducible exact H | (rw [hy192]; exact H) | exact H
         have Ny192 := Aside0.mk hy192
         clear hy192
         obtain rfl := Option.some.inj H
         go_wp2_with (first | ((with_reducible refine gate_callee (f := 142) rfl ?_); refine goesL_ (some 39) rfl rfl Tryd.func142 KR rfl #[.string x0_2, .string a1] rfl TA ?_; (with_reducible refine (strings_Index.calls x0_2 a1 t190 _ A18.out).mono ?_); rintro e w' ⟨rfl, ⟨nd, rfl⟩⟩; refine ⟨_, rfl, ?_⟩; (try (rw [drewN_self wr]; generalize hq_ : World.drewN wr _ = wr; have n0_ : Aside0 (Kd.R Kd.string 9 wr w.heap.size (fun _ => True) v188 x9_2) := ⟨by rw [← hq_]; exact (RW HO_9).out⟩; have n1_ : Aside0 (Below w.heap.size w wr) := ⟨by rw [← hq_]; exact TB⟩; clear HO_9 HB hq_; have HO_9 := n0_; have HB := n1_; clear n0_ n1_)); have p22 : 0 ≤ (x10_2 : Int) := TD; have q22 : (x10_2 : Int) < ((x9_2.length : Int) : Int) := TD; obtain ⟨go22, co22, eo22, gb22, gl22, cl22, HG22⟩ := Kd.R_form HO_9.out (by omega); (first | cases eo22 | (injection eo22 with ea_ en_ ec_; (first | subst ea_ | (injection ea_ with ea_; subst ea_)); subst ec_; clear en_)); have GB22 := Aside0.mk gb22; have GG22 := Aside0.mk HG22; clear gb22 gl22 HG22; obtain ⟨hx22_0, hf22_0⟩ := Kd.R_celln (⟨#[]⟩ : ByteArray) HO_9.out (x10_2 : Int) p22 q22; replace p22 := eq_true p22; replace q22 := eq_true q22; obtain ⟨hy26_, hz26_⟩ := Kd.R_celln (⟨#[]⟩ : ByteArray) HO_9.out (x10_2 : Int) TD TD; have HP26 := Kd.R_putg HO_9.out (x10_2 : Int) x0_2) | ((with_reducible refine gate_store (t := 9) (p := 61) rfl ?_); refine store_event (t := 9) (p := 61) (v := ?vo_w27) (w1 := (wr.setCell ⟨go22, (x10_2 : Int).toNat, none⟩ (.string x0_2))) ?hg ?ho ?hn ?hr ?_; (case ho => rfl); (case hg => rfl); (case hn => rfl); (case hr => first | (go_simp; done) | (go_simp; rfl)); intro w27 hw; have hg : wr.grownBy w27 (some go22) := (by rw [hw]; exact HP26.2); have hp_ : Kd.R Kd.string 9 w27 w.heap.size (fun _ => True) (.slice (some ⟨go22, 0, none⟩) x9_2.length co22) y191 := (by rw [hw, Ny191.out]; exact HP26.1); clear HP26; replace HO_9 := Aside0.mk (hp_); replace HB := Aside0.mk ((by rw [hw]; exact below_set (HB.out) GB22.out : Below w.heap.size w w27)); clear hg hw hp_; have q28 : ((ji23) : Int) ≤ ((x9_2.length : Int) : Int) := TD; obtain ⟨i028, hi028, _, hsz28, _⟩ := info_parts info9; have hcut28 := cut_to (P := Tryd.prog) 48 9 .i64 Tryd.underlying48 hi028 (some ⟨go22, 0, none⟩) x9_2.length co22 (ji23) TD q28 (Kd.R_reads' HO_9.out).2.1; have hr28 := Kd.R_take (m := ((ji23) : Int).toNat) HO_9.out (by have hle_ := (Kd.R_reads' HO_9.out).1; omega); have hy28 : y192.length = ((ji23) : Int).toNat := (by rw [Ny192.out, List.length_take]; have hle_ := (Kd.R_reads' HO_9.out).1; omega); rw [← Ny192.out] at hr28; rw [← hy28] at hr28 hcut28; clear hy28 hi028 hsz28 HO_9; have HO194 := Aside0.mk hr28; clear hr28; replace q28 := eq_true q28))
         go_ret
         exact ⟨_, by first | rfl | (simp [errW_none, errW_some] <;> rfl) | (simp only [← hji12, ← hji23]; first | rfl | (simp [errW_none, errW_some] <;> rfl)) | (simp [*, errW_none, errW_some] <;> rfl) | (simp [errW_none, errW_some]; rw [Bool.eq_iff_iff]; simp), (RW HO194).out, TB⟩
        ·rw [if_neg c19] at H
         have c19b0 : decide (t190 < 0) = false := decide_eq_false c19
         clear c19
         obtain ⟨ji29, hji29⟩ : ∃ j_ : Int, (wrap64 (t190 + a2)) = j_ := ⟨_, rfl⟩
         replace H : (if 0 ≤ (ji29) then (if (ji29) ≤ (x0_2.size : Int) then (if 0 ≤ x10_2 then (if x10_2 < (x9_2.length : Int) then (if 0 ≤ (wrap64 (t190 + (a1.size : Int))) then (if (wrap64 (t190 + (a1.size : Int))) ≤ (x0_2.size : Int) then (strings_genSplit.l0 k2 (x0_2.extract ((wrap64 (t190 + (a1.size : Int))) : Int).toNat x0_2.size) a1 a2 (wrap64 ((ji12) - 1)) (x9_2.set (x10_2 : Int).toNat (x0_2.extract 0 ((ji29) : Int).toNat)) (wrap64 (x10_2 + 1))) else (none)) else (none)) else (none)) else (none)) else (none)) else (none)) = some r := by first | (rw [hji29] at H; exact H) | (simp only [hji29] at H ⊢; exact H)
         (try rw [hji29] at A18)
         have hji29w : (IntKind.i64.wrap (t190 + a2)) = ji29 := (i64_w _).trans hji29
         obtain ⟨c30, H⟩ := ifn H
         have c30b0 := eq_true c30
         have c30b1 : decide (0 ≤ (ji29)) = true := decide_eq_true c30
         clear c30
         obtain ⟨c31, H⟩ := ifn H
         have c31b0 := eq_true c31
         have c31b1 : decide ((ji29) ≤ (x0_2.size : Int)) = true := decide_eq_true c31
         clear c31
         obtain ⟨c32, H⟩ := ifn H
         have c32b0 : decide (0 ≤ x10_2) = true := decide_eq_true c32
         clear c32
         obtain ⟨c33, H⟩ := ifn H
         have c33b0 : decide (x10_2 < (x9_2.length : Int)) = true := decide_eq_true c33
         clear c33
         obtain ⟨y195, hy195⟩ : ∃ y_ : List ByteArray, y_ = (x9_2.set (x10_2 : Int).toNat (x0_2.extract 0 ((ji29) : Int).toNat)) := ⟨_, rfl⟩
         replace H : (if 0 ≤ (wrap64 (t190 + (a1.size : Int))) then (if (wrap64 (t190 + (a1.size : Int))) ≤ (x0_2.size : Int) then (strings_genSplit.l0 k2 (x0_2.extract ((wrap64 (t190 + (a1.size : Int))) : Int).toNat x0_2.size) a1 a2 (wrap64 ((ji12) - 1)) y195 (wrap64 (x10_2 + 1))) else (none)) else (none)) = some r := by first | (rw [hy195]; with_reducible exact H) | (have H2_ := (Option.bind_some _ _).symm.trans H; rw [hy195]; with_reducible exact H2_) | (have H2_ := (Option.bind_some _ _).symm.trans H; with_reducible exact H2_) | with_reducible exact H | (rw [hy195]; exact H) | exact H
         have Ny195 := Aside0.mk hy195
         clear hy195
         obtain ⟨ji35, hji35⟩ : ∃ j_ : Int, (wrap64 (t190 + (a1.size : Int))) = j_ := ⟨_, rfl⟩
         replace H : (if 0 ≤ (ji35) then (if (ji35) ≤ (x0_2.size : Int) then (strings_genSplit.l0 k2 (x0_2.extract ((ji35) : Int).toNat x0_2.size) a1 a2 (wrap64 ((ji12) - 1)) y195 (wrap64 (x10_2 + 1))) else (none)) else (none)) = some r := by first | (rw [hji35] at H; exact H) | (simp only [hji35] at H ⊢; exact H)
         (try rw [hji35] at A18)
         have hji35w : (IntKind.i64.wrap (t190 + (a1.size : Int))) = ji35 := (i64_w _).trans hji35
         obtain ⟨c36, H⟩ := ifn H
         have c36b0 := eq_true c36
         have c36b1 : decide (0 ≤ (ji35)) = true := decide_eq_true c36
         clear c36
         obtain ⟨c37, H⟩ := ifn H
         have c37b0 := eq_true c37
         have c37b1 : decide ((ji35) ≤ (x0_2.size : Int)) = true := decide_eq_true c37
         clear c37
         have H' := Aside0.mk H
         clear H
         go_wp2_with (first | ((with_reducible refine gate_callee (f := 142) rfl ?_); refine goesL_ (some 39) rfl rfl Tryd.func142 KR rfl #[.string x0_2, .string a1] rfl TA ?_; (with_reducible refine (strings_Index.calls x0_2 a1 t190 _ A18.out).mono ?_); rintro e w' ⟨rfl, ⟨nd, rfl⟩⟩; refine ⟨_, rfl, ?_⟩; (try (rw [drewN_self wr]; generalize hq_ : World.drewN wr _ = wr; have n0_ : Aside0 (Kd.R Kd.string 9 wr w.heap.size (fun _ => True) v188 x9_2) := ⟨by rw [← hq_]; exact (RW HO_9).out⟩; have n1_ : Aside0 (Below w.heap.size w wr) := ⟨by rw [← hq_]; exact TB⟩; clear HO_9 HB hq_; have HO_9 := n0_; have HB := n1_; clear n0_ n1_)); have p34 : 0 ≤ (x10_2 : Int) := TD; have q34 : (x10_2 : Int) < ((x9_2.length : Int) : Int) := TD; obtain ⟨go34, co34, eo34, gb34, gl34, cl34, HG34⟩ := Kd.R_form HO_9.out (by omega); (first | cases eo34 | (injection eo34 with ea_ en_ ec_; (first | subst ea_ | (injection ea_ with ea_; subst ea_)); subst ec_; clear en_)); have GB34 := Aside0.mk gb34; have GG34 := Aside0.mk HG34; clear gb34 gl34 HG34; obtain ⟨hx34_0, hf34_0⟩ := Kd.R_celln (⟨#[]⟩ : ByteArray) HO_9.out (x10_2 : Int) p34 q34; replace p34 := eq_true p34; replace q34 := eq_true q34; obtain ⟨hy38_, hz38_⟩ := Kd.R_celln (⟨#[]⟩ : ByteArray) HO_9.out (x10_2 : Int) TD TD; have HP38 := Kd.R_putg HO_9.out (x10_2 : Int) (x0_2.extract 0 ((ji29) : Int).toNat)) | ((with_reducible refine gate_store (t := 9) (p := 49) rfl ?_); refine store_event (t := 9) (p := 49) (v := ?vo_w39) (w1 := (wr.setCell ⟨go34, (x10_2 : Int).toNat, none⟩ (.string (x0_2.extract 0 ((ji29) : Int).toNat)))) ?hg ?ho ?hn ?hr ?_; (case ho => rfl); (case hg => rfl); (case hn => rfl); (case hr => first | (go_simp; done) | (go_simp; rfl)); intro w39 hw; have hg : wr.grownBy w39 (some go34) := (by rw [hw]; exact HP38.2); have hp_ : Kd.R Kd.string 9 w39 w.heap.size (fun _ => True) (.slice (some ⟨go34, 0, none⟩) x9_2.length co34) y195 := (by rw [hw, Ny195.out]; exact HP38.1); clear HP38; replace HO_9 := Aside0.mk (hp_); replace HB := Aside0.mk ((by rw [hw]; exact below_set (HB.out) GB34.out : Below w.heap.size w w39)); clear hg hw hp_))
         go_roundg k2
         case measure => have := HJ8.out; have := HK2.out; omega
         case rel => exact ⟨(x0_2.extract ((ji35) : Int).toNat x0_2.size), (y195), (wrap64 (x10_2 + 1)), (by first | rfl | (simp; done) | (simp only [← hji35] <;> (first | rfl | simp)) | (simp [*]; done)), TF, H', ⟨by have := HJ8.out; have := HK2.out; omega⟩, RW HO_9, ⟨TB⟩⟩
       ·rw [if_neg c17] at H
        have c17b0 : decide (x10_2 < (wrap64 ((ji12) - 1))) = false := decide_eq_false c17
        clear c17
        obtain ⟨c40, H⟩ := ifn H
        have c40b0 : decide (0 ≤ x10_2) = true := decide_eq_true c40
        clear c40
        obtain ⟨c41, H⟩ := ifn H
        have c41b0 : decide (x10_2 < (x9_2.length : Int)) = true := decide_eq_true c41
        clear c41
        obtain ⟨y196, hy196⟩ : ∃ y_ : List ByteArray, y_ = (x9_2.set (x10_2 : Int).toNat x0_2) := ⟨_, rfl⟩
        replace H : (if 0 ≤ (wrap64 (x10_2 + 1)) then (if (wrap64 (x10_2 + 1)) ≤ (x9_2.length : Int) then (some (y196.take ((wrap64 (x10_2 + 1)) : Int).toNat)) else (none)) else (none)) = some r := by first | (rw [hy196]; with_reducible exact H) | (have H2_ := (Option.bind_some _ _).symm.trans H; rw [hy196]; with_reducible exact H2_) | (have H2_ := (Option.bind_some _ _).symm.trans H; with_reducible exact H2_) | with_reducible exact H | (rw [hy196]; exact H) | exact H
        have Ny196 := Aside0.mk hy196
        clear hy196
        obtain ⟨ji43, hji43⟩ : ∃ j_ : Int, (wrap64 (x10_2 + 1)) = j_ := ⟨_, rfl⟩
        replace H : (if 0 ≤ (ji43) then (if (ji43) ≤ (x9_2.length : Int) then (some (y196.take ((ji43) : Int).toNat)) else (none)) else (none)) = some r := by first | (rw [hji43] at H; exact H) | (simp only [hji43] at H ⊢; exact H)
        have hji43w : (IntKind.i64.wrap (x10_2 + 1)) = ji43 := (i64_w _).trans hji43
        obtain ⟨c44, H⟩ := ifn H
        have c44b0 := eq_true c44
        have c44b1 : decide (0 ≤ (ji43)) = true := decide_eq_true c44
        clear c44
        obtain ⟨c45, H⟩ := ifn H
        have c45b0 := eq_true c45
        have c45b1 : decide ((ji43) ≤ (x9_2.length : Int)) = true := decide_eq_true c45
        clear c45
        obtain ⟨y197, hy197⟩ : ∃ y_ : List ByteArray, y_ = (y196.take ((ji43) : Int).toNat) := ⟨_, rfl⟩
        replace H : (some y197) = some r := by first | (rw [hy197]; with_reducible exact H) | (have H2_ := (Option.bind_some _ _).symm.trans H; rw [hy197]; with_reducible exact H2_) | (have H2_ := (Option.bind_some _ _).symm.trans H; with_reducible exact H2_) | with_reducible exact H | (rw [hy197]; exact H) | exact H
        have Ny197 := Aside0.mk hy197
        clear hy197
        obtain rfl := Option.some.inj H
        have p42 : 0 ≤ (x10_2 : Int) := TD
        have q42 : (x10_2 : Int) < ((x9_2.length : Int) : Int) := TD
        obtain ⟨go42, co42, eo42, gb42, gl42, cl42, HG42⟩ := Kd.R_form HO_9.out (by omega)
        (first | cases eo42 | (injection eo42 with ea_ en_ ec_; (first | subst ea_ | (injection ea_ with ea_; subst ea_)); subst ec_; clear en_))
        have GB42 := Aside0.mk gb42
        have GG42 := Aside0.mk HG42
        clear gb42 gl42 HG42
        obtain ⟨hx42_0, hf42_0⟩ := Kd.R_celln (⟨#[]⟩ : ByteArray) HO_9.out (x10_2 : Int) p42 q42
        replace p42 := eq_true p42
        replace q42 := eq_true q42
        have HP46 := Kd.R_putg HO_9.out (x10_2 : Int) x0_2
        go_wp2_with (first | ((with_reducible refine gate_store (t := 9) (p := 61) rfl ?_); refine store_event (t := 9) (p := 61) (v := ?vo_w47) (w1 := (wr.setCell ⟨go42, (x10_2 : Int).toNat, none⟩ (.string x0_2))) ?hg ?ho ?hn ?hr ?_; (case ho => rfl); (case hg => rfl); (case hn => rfl); (case hr => first | (go_simp; done) | (go_simp; rfl)); intro w47 hw; have hg : wr.grownBy w47 (some go42) := (by rw [hw]; exact HP46.2); have hp_ : Kd.R Kd.string 9 w47 w.heap.size (fun _ => True) (.slice (some ⟨go42, 0, none⟩) x9_2.length co42) y196 := (by rw [hw, Ny196.out]; exact HP46.1); clear HP46; replace HO_9 := Aside0.mk (hp_); replace HB := Aside0.mk ((by rw [hw]; exact below_set (HB.out) GB42.out : Below w.heap.size w w47)); clear hg hw hp_; have q48 : ((ji43) : Int) ≤ ((x9_2.length : Int) : Int) := TD; obtain ⟨i048, hi048, _, hsz48, _⟩ := info_parts info9; have hcut48 := cut_to (P := Tryd.prog) 48 9 .i64 Tryd.underlying48 hi048 (some ⟨go42, 0, none⟩) x9_2.length co42 (ji43) TD q48 (Kd.R_reads' HO_9.out).2.1; have hr48 := Kd.R_take (m := ((ji43) : Int).toNat) HO_9.out (by have hle_ := (Kd.R_reads' HO_9.out).1; omega); have hy48 : y197.length = ((ji43) : Int).toNat := (by rw [Ny197.out, List.length_take]; have hle_ := (Kd.R_reads' HO_9.out).1; omega); rw [← Ny197.out] at hr48; rw [← hy48] at hr48 hcut48; clear hy48 hi048 hsz48 HO_9; have HO199 := Aside0.mk hr48; clear hr48; replace q48 := eq_true q48))
        go_ret
        exact ⟨_, by first | rfl | (simp [errW_none, errW_some] <;> rfl) | (simp only [← hji12, ← hji43]; first | rfl | (simp [errW_none, errW_some] <;> rfl)) | (simp [*, errW_none, errW_some] <;> rfl) | (simp [errW_none, errW_some]; rw [Bool.eq_iff_iff]; simp), (RW HO199).out, TB⟩
end
section
/-! ### strings_Split: function 115 -/
def strings_Split.f (k : Nat) (a0 : ByteArray) (a1 : ByteArray) : Option (List ByteArray) := (strings_genSplit.f k a0 a1 0 (-1)).bind fun t200 => (some t200)
theorem strings_Split.calls (k : Nat) (a0 : ByteArray) (a1 : ByteArray) (r : List ByteArray) (w : World) (h : strings_Split.f k a0 a1 = some r) :
  Calls Tryd.prog 115 #[.string a0, .string a1] w fun e w' => ∃ v0_ : Value, e = .returned (v0_) ∧ Kd.R Kd.string 9 w' w.heap.size (fun _ => True) v0_ r ∧ Below w.heap.size w w' := by
 have HB := Aside0.mk (Below.refl w.heap.size w)
 have H : ((strings_genSplit.f k a0 a1 0 (-1)).bind fun t200 => (some t200)) = some r := h
 clear h
 obtain ⟨t200, A3, H⟩ := bnd H
 obtain rfl := Option.some.inj H
 go_enter Tryd.func115, Tryd.ntmps115
 go_wp2_with (first | ((with_reducible refine gate_callee (f := 128) rfl ?_); refine goesL_ (some 7) rfl rfl Tryd.func128 KR rfl #[.string a0, .string a1, .int .i64 0, .int .i64 (-1)] rfl TA ?_; (with_reducible refine (strings_genSplit.calls k a0 a1 0 (-1) t200 _ A3.out).mono ?_); rintro e w4 ⟨v201, rfl, ho0, hb⟩; refine ⟨_, rfl, ?_⟩; have HO202 := RL ho0; replace HB := BS hb; clear hb; (try clear ho0)))
 go_ret
 exact ⟨_, TE, (RW HO202).out, TB⟩
end
section
/-! ### impl_labelsOf: function 94 -/
def impl_labelsOf.f (k : Nat) (a0 : ByteArray) : Option (List ByteArray) := if a0.toList = ([] : List UInt8) then (some ([] : List ByteArray)) else ((strings_Split.f k a0 (⟨#[46]⟩ : ByteArray)).bind fun t203 => (some t203))
theorem impl_labelsOf.calls (k : Nat) (a0 : ByteArray) (r : List ByteArray) (w : World) (h : impl_labelsOf.f k a0 = some r) :
  Calls Tryd.prog 94 #[.string a0] w fun e w' => ∃ v0_ : Value, e = .returned (v0_) ∧ Kd.R Kd.string 9 w' w.heap.size (fun _ => True) v0_ r ∧ Below w.heap.size w w' := by
 have HB := Aside0.mk (Below.refl w.heap.size w)
 have H : (if a0.toList = ([] : List UInt8) then (some ([] : List ByteArray)) else ((strings_Split.f k a0 (⟨#[46]⟩ : ByteArray)).bind fun t203 => (some t203))) = some r := h
 clear h
 by_cases c2 : a0.toList = ([] : List UInt8)
 ·rw [if_pos c2] at H
  have c2b0 : (a0.toList == ([] : List UInt8)) = true := beq_iff_eq.mpr c2
  have c2b1 : (a0.toList != ([] : List UInt8)) = false := bne_eq_false_iff_eq.mpr c2
  clear c2
  obtain rfl := Option.some.inj H
  go_enter Tryd.func94, Tryd.ntmps94
  go_wp2
  go_ret
  exact ⟨_, by first | rfl | (simp [errW_none, errW_some] <;> rfl) | (simp [*, errW_none, errW_some] <;> rfl) | (simp [errW_none, errW_some]; rw [Bool.eq_iff_iff]; simp), TZ, TB⟩
 ·rw [if_neg c2] at H
  have c2b0 : (a0.toList == ([] : List UInt8)) = false := beq_eq_false_iff_ne.mpr c2
  have c2b1 : (a0.toList != ([] : List UInt8)) = true := bne_iff_ne.mpr c2
  obtain ⟨t203, A3, H⟩ := bnd H
  obtain rfl := Option.some.inj H
  go_enter Tryd.func94, Tryd.ntmps94
  go_wp2_with (first | ((with_reducible refine gate_callee (f := 115) rfl ?_); refine goesL_ (some 6) rfl rfl Tryd.func115 KR rfl #[.string a0, .string (⟨#[46]⟩ : ByteArray)] rfl TA ?_; (with_reducible refine (strings_Split.calls k a0 (⟨#[46]⟩ : ByteArray) t203 _ A3.out).mono ?_); rintro e w4 ⟨v204, rfl, ho0, hb⟩; refine ⟨_, rfl, ?_⟩; have HO205 := RL ho0; replace HB := BS hb; clear hb; (try clear ho0)))
  go_ret
  exact ⟨_, by first | rfl | (simp [errW_none, errW_some] <;> rfl) | (simp [*, errW_none, errW_some] <;> rfl) | (simp [errW_none, errW_some]; rw [Bool.eq_iff_iff]; simp), (RW HO205).out, TB⟩
end
section
/-! ### impl_within: function 57 -/
def impl_within.f (a0 : Int) (a1 : Int) (a2 : Int) : Option (Bool) := if a0 ≥ a1 then (some (decide (a0 ≤ a2))) else (some false)
theorem impl_within.calls (a0 : Int) (a1 : Int) (a2 : Int) (r : Bool) (w : World) (h : impl_within.f a0 a1 a2 = some r) :
  Calls Tryd.prog 57 #[.int .i64 a0, .int .i64 a1, .int .i64 a2] w fun e w' => e = .returned (.bool r) ∧ Drawn0 w w' := by
 have H : (if a0 ≥ a1 then (some (decide (a0 ≤ a2))) else (some false)) = some r := h
 clear h
 by_cases c4 : a0 ≥ a1
 ·rw [if_pos c4] at H
  have c4b0 : decide (a1 ≤ a0) = true := decide_eq_true c4
  clear c4
  obtain rfl := Option.some.inj H
  go_enter Tryd.func57, Tryd.ntmps57
  go_wp2
  go_ret
  exact ⟨TF, TN⟩
 ·rw [if_neg c4] at H
  have c4b0 : decide (a1 ≤ a0) = false := decide_eq_false c4
  clear c4
  obtain rfl := Option.some.inj H
  go_enter Tryd.func57, Tryd.ntmps57
  go_wp2
  go_ret
  exact ⟨TF, TN⟩
end
section
/-! ### strings_Trim: function 117 -/
def strings_Trim.f (a0 : ByteArray) (a1 : ByteArray) : Option (ByteArray) := if a0.size ≤ 9223372036854775807 ∧ a1.size < 4294967281 ∧ a1.data.toList.all (fun b => decide (b.toNat < 128)) = true then some ⟨(Go.Lib.trimS a0.data.toList a1.data.toList).toArray⟩ else none
theorem strings_Trim.calls (a0 : ByteArray) (a1 : ByteArray) (r : ByteArray) (w : World) (h : strings_Trim.f a0 a1 = some r) :
  Calls Tryd.prog 117 #[.string a0, .string a1] w fun e w' => e = .returned (.string r) ∧ Below w.heap.size w w' := by
 unfold strings_Trim.f at h
 split at h
 ·rename_i h1
  obtain rfl := Option.some.inj h
  exact (Go.Proofs.Any.strings_Trim_laid Go.Proofs.Tryd.lays160 KR a0 a1 w h1.1 h1.2.1 (Go.Proofs.ascii_of_all h1.2.2)).mono fun e w' hh => hh
 ·cases h
end
section
/-! ### impl_isLabel: function 97 -/
def impl_isLabel.f (a0 : ByteArray) : Option (Bool) := if a0.toList = ([42] : List UInt8) then (some true) else ((impl_within.f (a0.size : Int) 1 20).bind fun t206 => (if t206 = true then ((strings_Trim.f a0 (⟨#[97, 98, 99, 100, 101, 102, 103, 104, 105, 106, 107, 108, 109, 110, 111, 112, 113, 114, 115, 116, 117, 118, 119, 120, 121, 122, 48, 49, 50, 51, 52, 53, 54, 55, 56, 57, 45, 95]⟩ : ByteArray)).bind fun t207 => (some (t207.toList == ([] : List UInt8)))) else (some false)))
theorem impl_isLabel.calls (a0 : ByteArray) (r : Bool) (w : World) (h : impl_isLabel.f a0 = some r) :
  Calls Tryd.prog 97 #[.string a0] w fun e w' => e = .returned (.bool r) ∧ Below w.heap.size w w' := by
 have HB := Aside0.mk (Below.refl w.heap.size w)
 have H : (if a0.toList = ([42] : List UInt8) then (some true) else ((impl_within.f (a0.size : Int) 1 20).bind fun t206 => (if t206 = true then ((strings_Trim.f a0 (⟨#[97, 98, 99, 100, 101, 102, 103, 104, 105, 106, 107, 108, 109, 110, 111, 112, 113, 114, 115, 116, 117, 118, 119, 120, 121, 122, 48, 49, 50, 51, 52, 53, 54, 55, 56, 57, 45, 95]⟩ : ByteArray)).bind fun t207 => (some (t207.toList == ([] : List UInt8)))) else (some false)))) = some r := h
 clear h
 by_cases c2 : a0.toList = ([42] : List UInt8)
 ·rw [if_pos c2] at H
  have c2b0 : (a0.toList == ([42] : List UInt8)) = true := beq_iff_eq.mpr c2
  have c2b1 : (a0.toList != ([42] : List UInt8)) = false := bne_eq_false_iff_eq.mpr c2
  clear c2
  obtain rfl := Option.some.inj H
  go_enter Tryd.func97, Tryd.ntmps97
  go_wp2
  go_ret
  exact ⟨by first | rfl | (simp [errW_none, errW_some] <;> rfl) | (simp [*, errW_none, errW_some] <;> rfl) | (simp [errW_none, errW_some]; rw [Bool.eq_iff_iff]; simp), TB⟩
 ·rw [if_neg c2] at H
  have c2b0 : (a0.toList == ([42] : List UInt8)) = false := beq_eq_false_iff_ne.mpr c2
  have c2b1 : (a0.toList != ([42] : List UInt8)) = true := bne_iff_ne.mpr c2
  obtain ⟨t206, A3, H⟩ := bnd H
  by_cases c4 : t206 = true
  ·subst c4
   replace H := ift H
   obtain ⟨t207, A5, H⟩ := bnd H
   obtain rfl := Option.some.inj H
   go_enter Tryd.func97, Tryd.ntmps97
   go_wp2_with (first | ((with_reducible refine gate_callee (f := 57) rfl ?_); refine goesL_ (some 7) rfl rfl Tryd.func57 KR rfl #[.int .i64 (a0.size : Int), .int .i64 1, .int .i64 20] rfl TA ?_; (with_reducible refine (impl_within.calls (a0.size : Int) 1 20 true _ A3.out).mono ?_); rintro e w' ⟨rfl, ⟨nd, rfl⟩⟩; refine ⟨_, rfl, ?_⟩) | (go_at_call 117; (with_reducible refine (strings_Trim.calls a0 (⟨#[97, 98, 99, 100, 101, 102, 103, 104, 105, 106, 107, 108, 109, 110, 111, 112, 113, 114, 115, 116, 117, 118, 119, 120, 121, 122, 48, 49, 50, 51, 52, 53, 54, 55, 56, 57, 45, 95]⟩ : ByteArray) t207 _ A5.out).mono ?_); rintro e w6 ⟨rfl, hb⟩; replace HB := BS hb; clear hb))
   go_ret
   exact ⟨by first | rfl | (simp [errW_none, errW_some] <;> rfl) | (simp [*, errW_none, errW_some] <;> rfl) | (simp [errW_none, errW_some]; rw [Bool.eq_iff_iff]; simp), TB⟩
  ·replace c4 := Bool.eq_false_iff.mpr c4
   subst c4
   replace H := iff' H
   obtain rfl := Option.some.inj H
   go_enter Tryd.func97, Tryd.ntmps97
   go_wp2_with (first | ((with_reducible refine gate_callee (f := 57) rfl ?_); refine goesL_ (some 7) rfl rfl Tryd.func57 KR rfl #[.int .i64 (a0.size : Int), .int .i64 1, .int .i64 20] rfl TA ?_; (with_reducible refine (impl_within.calls (a0.size : Int) 1 20 false _ A3.out).mono ?_); rintro e w' ⟨rfl, ⟨nd, rfl⟩⟩; refine ⟨_, rfl, ?_⟩))
   go_ret
   exact ⟨by first | rfl | (simp [errW_none, errW_some] <;> rfl) | (simp [*, errW_none, errW_some] <;> rfl) | (simp [errW_none, errW_some]; rw [Bool.eq_iff_iff]; simp), TB⟩
end
end Go.Proofs.YthckpgglghfiiaaDoor.Pp
