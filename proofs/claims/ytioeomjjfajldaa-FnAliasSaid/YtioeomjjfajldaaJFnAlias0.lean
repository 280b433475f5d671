/- The functions that the law reaches, one Lean function and its proof for each; written by wip/pp of this workplace, joined by claimit.py. -/
import Derived.Test.YtioeomjjfajldaaProg
import Derived.Below
import Derived.Deep.Draws
import Derived.Deep.AppendLies
import Derived.Maps.AppendAt
import Derived.OwnWalk
import Derived.Laws.BytesArg
import Derived.Laws.MakeOwn
import Derived.Laws.OwnMore
import Derived.Deep.OwnRows
import Derived.Tactics
import Derived.Lib.ConvBytes
import Derived.Laws.Slices
import Derived.WalkKit
import Derived.KernelRfl
import Derived.RowKit3
import Derived.Deep.LoopGhost
import Derived.Deep.QuietTactic
import Derived.BigQuiet
import Derived.WideLaws
import Derived.Deep.DeepCutAuto
import Derived.Deep.CutBlock
import Derived.Deep.RegionHeld3
import Derived.Laws.Rows
import Derived.Lib.AppendStr
import Derived.ArgAppend
import Derived.Laws.IdiomCopy
import Derived.OrdersHeld
import Derived.Laws.BitsLemmas
import Derived.RowKit
import Derived.Test.YtioeomjjfajldaaXWords
import Derived.Test.YtioeomjjfajldaaXSq
import Derived.Test.YtioeomjjfajldaaWWords
import Derived.Test.YtioeomjjfajldaaWLast
import Derived.Test.YtioeomjjfajldaaWTab
import Derived.Test.YtioeomjjfajldaaWFour
import Derived.Test.YtioeomjjfajldaaWQPut
import Derived.Test.YtioeomjjfajldaaWApart
import Derived.Test.YtioeomjjfajldaaWArr
import Derived.Test.YtioeomjjfajldaaWZeros
import Derived.Test.YtioeomjjfajldaaWFoot
import Derived.Test.YtioeomjjfajldaaWKept
import Derived.Test.YtioeomjjfajldaaWShare
import Derived.Test.YtioeomjjfajldaaWN
import Derived.Test.YtioeomjjfajldaaWFootNe
import Derived.Test.YtioeomjjfajldaaWAt
import Derived.Test.YtioeomjjfajldaaWEqStruct
import Derived.Test.YtioeomjjfajldaaWRepsOne
import Derived.Test.YtioeomjjfajldaaWInv
import Derived.Test.YtioeomjjfajldaaWInvWords
import Derived.Test.YtioeomjjfajldaaWGuard
import Derived.Test.YtioeomjjfajldaaWNEv
import Derived.Test.YtioeomjjfajldaaWMore
namespace Go.Proofs.Ytioeomjjfajldaa.Pp
open Go.RowKit Go.Proofs.YtioeomjjfajldaaW.PrintWords Go.Proofs.YtioeomjjfajldaaW.PrintLast Go.Proofs.YtioeomjjfajldaaW.PrintMore
attribute [local go_sem] max2_int min2_int max_two min_two max_three min_three max_four min_four   -- for this text's walks alone
set_option linter.unusedVariables false
set_option linter.unusedSimpArgs false



set_option maxHeartbeats 8000000
set_option maxRecDepth 100000
section
def errW : Option Int → Value
 | none => .nilIface
 | some c => .iface 0 (.int .i64 c)
theorem errW_none : errW none = .nilIface := rfl
theorem errW_some (c : Int) : errW (some c) = .iface 0 (.int .i64 c) := rfl

theorem info3 : (Try.prog.info? 3).map (fun i => (i.zero, i.size, i.bytes)) = some (some (.int .i64 0), 1, 8) := by kernel_rfl
theorem info4 : (Try.prog.info? 4).map (fun i => (i.zero, i.size, i.bytes)) = some (some (.bool false), 1, 1) := by kernel_rfl
theorem info5 : (Try.prog.info? 5).map (fun i => (i.zero, i.size, i.bytes)) = some (some (.int .u8 0), 1, 1) := by kernel_rfl
theorem info65 : (Try.prog.info? 65).map (fun i => (i.zero, i.size, i.bytes)) = some (some (.agg #[(.int .i64 0), (.int .i64 0)]), 2, 16) := by kernel_rfl
-- the values' own types
/-! #### struct type 65 -/
structure S_Column where
 f0 : Int
 f1 : Int
def z_Column : S_Column := ⟨(0 : Int), (0 : Int)⟩
def k_Column : Kd S_Column := Kd.iso (Kd.pair (Kd.int .i64) (Kd.int .i64)) (fun x : S_Column => (x.f0, x.f1))
theorem k_Column_open {w : World} {x : S_Column} {cs : List Value} (h : k_Column.K w x cs) : cs = [.int .i64 x.f0, .int .i64 x.f1] := by
 obtain ⟨_, _, rfl, rfl, rfl⟩ := h
 exact rfl
theorem k_Column_openM {w : World} {base : Nat} {ok : Nat → Prop} {x : S_Column} {cs : List Value} (h : k_Column.M w base ok x cs) : cs = [.int .i64 x.f0, .int .i64 x.f1] := by
 obtain ⟨_, _, rfl, rfl, rfl⟩ := h
 exact rfl
theorem k_Column_mk (w : World) (x : S_Column)  : k_Column.K w x [.int .i64 x.f0, .int .i64 x.f1] := ⟨[.int .i64 x.f0], [.int .i64 x.f1], rfl, rfl, rfl⟩
theorem k_Column_mkM (w : World) (base : Nat) (ok : Nat → Prop) (x : S_Column)  : k_Column.M w base ok x [.int .i64 x.f0, .int .i64 x.f1] := ⟨[.int .i64 x.f0], [.int .i64 x.f1], rfl, rfl, rfl⟩
def rd_TColumn (xs : List S_Column) (i : Int) : S_Column := xs.getD i.toNat z_Column
theorem at_TColumn {w : World} {A : Option Addr} {n : Nat} {xs : List S_Column} (h : Kd.C k_Column w A n xs) (i : Int) (h0 : 0 ≤ i) (h1 : i < n) : ∃ ad , A = some ad ∧ w.cell? (ad.add (i.toNat * 2)) = some (.int .i64 (rd_TColumn xs i).f0) ∧ w.cell? ⟨(ad.add (i.toNat * 2)).block, (ad.add (i.toNat * 2)).off + 1, none⟩ = some (.int .i64 (rd_TColumn xs i).f1) := by
 obtain ⟨ad, c, e, _, hK, hc0⟩ := Kd.C_get h z_Column i h0 h1
 have hc : ∀ j u, c[j]? = some u → w.cell? (ad.add (i.toNat * 2 + j)) = some u := hc0
 obtain rfl := k_Column_open hK
 exact ⟨ad, e, hc 0 _ rfl, by rw [← add_field _ _ 1 (by omega)]; exact hc 1 _ rfl⟩

/-! #### struct type 80 -/
structure S_LColumn where
 f0 : Int
 f1 : Int
def z_LColumn : S_LColumn := ⟨(0 : Int), (0 : Int)⟩
def k_LColumn : Kd S_LColumn := Kd.iso (Kd.pair (Kd.int .i64) (Kd.int .i64)) (fun x : S_LColumn => (x.f0, x.f1))
theorem k_LColumn_open {w : World} {x : S_LColumn} {cs : List Value} (h : k_LColumn.K w x cs) : cs = [.int .i64 x.f0, .int .i64 x.f1] := by
 obtain ⟨_, _, rfl, rfl, rfl⟩ := h
 exact rfl
theorem k_LColumn_openM {w : World} {base : Nat} {ok : Nat → Prop} {x : S_LColumn} {cs : List Value} (h : k_LColumn.M w base ok x cs) : cs = [.int .i64 x.f0, .int .i64 x.f1] := by
 obtain ⟨_, _, rfl, rfl, rfl⟩ := h
 exact rfl
theorem k_LColumn_mk (w : World) (x : S_LColumn)  : k_LColumn.K w x [.int .i64 x.f0, .int .i64 x.f1] := ⟨[.int .i64 x.f0], [.int .i64 x.f1], rfl, rfl, rfl⟩
theorem k_LColumn_mkM (w : World) (base : Nat) (ok : Nat → Prop) (x : S_LColumn)  : k_LColumn.M w base ok x [.int .i64 x.f0, .int .i64 x.f1] := ⟨[.int .i64 x.f0], [.int .i64 x.f1], rfl, rfl, rfl⟩
def rd_TLColumn (xs : List S_LColumn) (i : Int) : S_LColumn := xs.getD i.toNat z_LColumn
theorem at_TLColumn {w : World} {A : Option Addr} {n : Nat} {xs : List S_LColumn} (h : Kd.C k_LColumn w A n xs) (i : Int) (h0 : 0 ≤ i) (h1 : i < n) : ∃ ad , A = some ad ∧ w.cell? (ad.add (i.toNat * 2)) = some (.int .i64 (rd_TLColumn xs i).f0) ∧ w.cell? ⟨(ad.add (i.toNat * 2)).block, (ad.add (i.toNat * 2)).off + 1, none⟩ = some (.int .i64 (rd_TLColumn xs i).f1) := by
 obtain ⟨ad, c, e, _, hK, hc0⟩ := Kd.C_get h z_LColumn i h0 h1
 have hc : ∀ j u, c[j]? = some u → w.cell? (ad.add (i.toNat * 2 + j)) = some u := hc0
 obtain rfl := k_LColumn_open hK
 exact ⟨ad, e, hc 0 _ rfl, by rw [← add_field _ _ 1 (by omega)]; exact hc 1 _ rfl⟩

/-! #### struct type 113 -/
structure S_Record where
 f0 : ByteArray
 f1 : Int
 f2 : Int
 f3 : ByteArray
def z_Record : S_Record := ⟨(⟨#[]⟩ : ByteArray), (0 : Int), (0 : Int), (⟨#[]⟩ : ByteArray)⟩
def k_Record : Kd S_Record := Kd.iso (Kd.pair Kd.string (Kd.pair (Kd.int .i64) (Kd.pair (Kd.int .i64) Kd.string))) (fun x : S_Record => (x.f0, x.f1, x.f2, x.f3))
theorem k_Record_open {w : World} {x : S_Record} {cs : List Value} (h : k_Record.K w x cs) : cs = [.string x.f0, .int .i64 x.f1, .int .i64 x.f2, .string x.f3] := by
 obtain ⟨_, _, rfl, rfl, ⟨_, _, rfl, rfl, ⟨_, _, rfl, rfl, rfl⟩⟩⟩ := h
 exact rfl
theorem k_Record_openM {w : World} {base : Nat} {ok : Nat → Prop} {x : S_Record} {cs : List Value} (h : k_Record.M w base ok x cs) : cs = [.string x.f0, .int .i64 x.f1, .int .i64 x.f2, .string x.f3] := by
 obtain ⟨_, _, rfl, rfl, ⟨_, _, rfl, rfl, ⟨_, _, rfl, rfl, rfl⟩⟩⟩ := h
 exact rfl
theorem k_Record_mk (w : World) (x : S_Record)  : k_Record.K w x [.string x.f0, .int .i64 x.f1, .int .i64 x.f2, .string x.f3] := ⟨[.string x.f0], [.int .i64 x.f1, .int .i64 x.f2, .string x.f3], rfl, rfl, ⟨[.int .i64 x.f1], [.int .i64 x.f2, .string x.f3], rfl, rfl, ⟨[.int .i64 x.f2], [.string x.f3], rfl, rfl, rfl⟩⟩⟩
theorem k_Record_mkM (w : World) (base : Nat) (ok : Nat → Prop) (x : S_Record)  : k_Record.M w base ok x [.string x.f0, .int .i64 x.f1, .int .i64 x.f2, .string x.f3] := ⟨[.string x.f0], [.int .i64 x.f1, .int .i64 x.f2, .string x.f3], rfl, rfl, ⟨[.int .i64 x.f1], [.int .i64 x.f2, .string x.f3], rfl, rfl, ⟨[.int .i64 x.f2], [.string x.f3], rfl, rfl, rfl⟩⟩⟩
def rd_TRecord (xs : List S_Record) (i : Int) : S_Record := xs.getD i.toNat z_Record
theorem at_TRecord {w : World} {A : Option Addr} {n : Nat} {xs : List S_Record} (h : Kd.C k_Record w A n xs) (i : Int) (h0 : 0 ≤ i) (h1 : i < n) : ∃ ad , A = some ad ∧ w.cell? (ad.add (i.toNat * 4)) = some (.string (rd_TRecord xs i).f0) ∧ w.cell? ⟨(ad.add (i.toNat * 4)).block, (ad.add (i.toNat * 4)).off + 1, none⟩ = some (.int .i64 (rd_TRecord xs i).f1) ∧ w.cell? ⟨(ad.add (i.toNat * 4)).block, (ad.add (i.toNat * 4)).off + 2, none⟩ = some (.int .i64 (rd_TRecord xs i).f2) ∧ w.cell? ⟨(ad.add (i.toNat * 4)).block, (ad.add (i.toNat * 4)).off + 3, none⟩ = some (.string (rd_TRecord xs i).f3) := by
 obtain ⟨ad, c, e, _, hK, hc0⟩ := Kd.C_get h z_Record i h0 h1
 have hc : ∀ j u, c[j]? = some u → w.cell? (ad.add (i.toNat * 4 + j)) = some u := hc0
 obtain rfl := k_Record_open hK
 exact ⟨ad, e, hc 0 _ rfl, by rw [← add_field _ _ 1 (by omega)]; exact hc 1 _ rfl, by rw [← add_field _ _ 2 (by omega)]; exact hc 2 _ rfl, by rw [← add_field _ _ 3 (by omega)]; exact hc 3 _ rfl⟩

def rd_L7 (xs : List (List S_Record)) (i : Int) : (List S_Record) := xs.getD i.toNat ([] : List S_Record)
theorem at_L7 {w : World} {A : Option Addr} {n : Nat} {xs : List (List S_Record)} (h : Kd.C (Kd.slice 113 k_Record) w A n xs) (i : Int) (h0 : 0 ≤ i) (h1 : i < n) : ∃ ad A0 c0, A = some ad ∧ w.cell? (ad.add i.toNat) = some (.slice A0 (rd_L7 xs i).length c0) ∧ (rd_L7 xs i).length ≤ c0 ∧ k_Record.C w A0 (rd_L7 xs i).length (rd_L7 xs i) := by
 obtain ⟨ad, c, e, _, hK, hc0⟩ := Kd.C_get h ([] : List S_Record) i h0 h1
 have hc : ∀ j u, c[j]? = some u → w.cell? (ad.add (i.toNat * 1 + j)) = some u := hc0
 obtain ⟨A0, c0, rfl, l0, g0⟩ := hK
 exact ⟨ad, A0, c0, e, by have hq := hc 0 _ rfl; rwa [Nat.mul_one, Nat.add_zero] at hq, l0, g0⟩

/-! #### struct type 107 -/
structure S_Entry where
 f0 : ByteArray
 f1 : Int
 f2 : Bool
 f3 : (List S_Record)
 f4 : Int
 f5 : Int
def z_Entry : S_Entry := ⟨(⟨#[]⟩ : ByteArray), (0 : Int), false, ([] : List S_Record), (0 : Int), (0 : Int)⟩
def k_Entry : Kd S_Entry := Kd.iso (Kd.pair Kd.string (Kd.pair (Kd.int .i64) (Kd.pair Kd.bool (Kd.pair (Kd.slice 113 k_Record) (Kd.pair (Kd.int .i64) (Kd.int .i64)))))) (fun x : S_Entry => (x.f0, x.f1, x.f2, x.f3, x.f4, x.f5))
theorem k_Entry_open {w : World} {x : S_Entry} {cs : List Value} (h : k_Entry.K w x cs) : ∃ A3 c3, cs = [.string x.f0, .int .i64 x.f1, .bool x.f2, .slice A3 x.f3.length c3, .int .i64 x.f4, .int .i64 x.f5] ∧ x.f3.length ≤ c3 ∧ k_Record.C w A3 x.f3.length x.f3 := by
 obtain ⟨_, _, rfl, rfl, ⟨_, _, rfl, rfl, ⟨_, _, rfl, rfl, ⟨_, _, rfl, ⟨A3, c3, rfl, l3, g3⟩, ⟨_, _, rfl, rfl, rfl⟩⟩⟩⟩⟩ := h
 exact ⟨A3, c3, rfl, l3, g3⟩
theorem k_Entry_openM {w : World} {base : Nat} {ok : Nat → Prop} {x : S_Entry} {cs : List Value} (h : k_Entry.M w base ok x cs) : ∃ v3, cs = [.string x.f0, .int .i64 x.f1, .bool x.f2, v3, .int .i64 x.f4, .int .i64 x.f5] ∧ k_Record.R 113 w base ok v3 x.f3 := by
 obtain ⟨_, _, rfl, rfl, ⟨_, _, rfl, rfl, ⟨_, _, rfl, rfl, ⟨_, _, rfl, ⟨v3, rfl, g3⟩, ⟨_, _, rfl, rfl, rfl⟩⟩⟩⟩⟩ := h
 exact ⟨v3, rfl, g3⟩
theorem k_Entry_mk (w : World) (x : S_Entry) {A3 : Option Addr} {c3 : Nat} (l3 : x.f3.length ≤ c3) (g3 : k_Record.C w A3 x.f3.length x.f3) : k_Entry.K w x [.string x.f0, .int .i64 x.f1, .bool x.f2, .slice A3 x.f3.length c3, .int .i64 x.f4, .int .i64 x.f5] := ⟨[.string x.f0], [.int .i64 x.f1, .bool x.f2, .slice A3 x.f3.length c3, .int .i64 x.f4, .int .i64 x.f5], rfl, rfl, ⟨[.int .i64 x.f1], [.bool x.f2, .slice A3 x.f3.length c3, .int .i64 x.f4, .int .i64 x.f5], rfl, rfl, ⟨[.bool x.f2], [.slice A3 x.f3.length c3, .int .i64 x.f4, .int .i64 x.f5], rfl, rfl, ⟨[.slice A3 x.f3.length c3], [.int .i64 x.f4, .int .i64 x.f5], rfl, ⟨A3, c3, rfl, l3, g3⟩, ⟨[.int .i64 x.f4], [.int .i64 x.f5], rfl, rfl, rfl⟩⟩⟩⟩⟩
theorem k_Entry_mkM (w : World) (base : Nat) (ok : Nat → Prop) (x : S_Entry) {v3 : Value} (g3 : k_Record.R 113 w base ok v3 x.f3) : k_Entry.M w base ok x [.string x.f0, .int .i64 x.f1, .bool x.f2, v3, .int .i64 x.f4, .int .i64 x.f5] := ⟨[.string x.f0], [.int .i64 x.f1, .bool x.f2, v3, .int .i64 x.f4, .int .i64 x.f5], rfl, rfl, ⟨[.int .i64 x.f1], [.bool x.f2, v3, .int .i64 x.f4, .int .i64 x.f5], rfl, rfl, ⟨[.bool x.f2], [v3, .int .i64 x.f4, .int .i64 x.f5], rfl, rfl, ⟨[v3], [.int .i64 x.f4, .int .i64 x.f5], rfl, ⟨v3, rfl, g3⟩, ⟨[.int .i64 x.f4], [.int .i64 x.f5], rfl, rfl, rfl⟩⟩⟩⟩⟩
def rd_TEntry (xs : List S_Entry) (i : Int) : S_Entry := xs.getD i.toNat z_Entry
theorem at_TEntry {w : World} {A : Option Addr} {n : Nat} {xs : List S_Entry} (h : Kd.C k_Entry w A n xs) (i : Int) (h0 : 0 ≤ i) (h1 : i < n) : ∃ ad A3 c3, A = some ad ∧ w.cell? (ad.add (i.toNat * 6)) = some (.string (rd_TEntry xs i).f0) ∧ w.cell? ⟨(ad.add (i.toNat * 6)).block, (ad.add (i.toNat * 6)).off + 1, none⟩ = some (.int .i64 (rd_TEntry xs i).f1) ∧ w.cell? ⟨(ad.add (i.toNat * 6)).block, (ad.add (i.toNat * 6)).off + 2, none⟩ = some (.bool (rd_TEntry xs i).f2) ∧ w.cell? ⟨(ad.add (i.toNat * 6)).block, (ad.add (i.toNat * 6)).off + 3, none⟩ = some (.slice A3 (rd_TEntry xs i).f3.length c3) ∧ w.cell? ⟨(ad.add (i.toNat * 6)).block, (ad.add (i.toNat * 6)).off + 4, none⟩ = some (.int .i64 (rd_TEntry xs i).f4) ∧ w.cell? ⟨(ad.add (i.toNat * 6)).block, (ad.add (i.toNat * 6)).off + 5, none⟩ = some (.int .i64 (rd_TEntry xs i).f5) ∧ (rd_TEntry xs i).f3.length ≤ c3 ∧ k_Record.C w A3 (rd_TEntry xs i).f3.length (rd_TEntry xs i).f3 := by
 obtain ⟨ad, c, e, _, hK, hc0⟩ := Kd.C_get h z_Entry i h0 h1
 have hc : ∀ j u, c[j]? = some u → w.cell? (ad.add (i.toNat * 6 + j)) = some u := hc0
 obtain ⟨A3, c3, rfl, l3, g3⟩ := k_Entry_open hK
 exact ⟨ad, A3, c3, e, hc 0 _ rfl, by rw [← add_field _ _ 1 (by omega)]; exact hc 1 _ rfl, by rw [← add_field _ _ 2 (by omega)]; exact hc 2 _ rfl, by rw [← add_field _ _ 3 (by omega)]; exact hc 3 _ rfl, by rw [← add_field _ _ 4 (by omega)]; exact hc 4 _ rfl, by rw [← add_field _ _ 5 (by omega)]; exact hc 5 _ rfl, l3, g3⟩

def rd_L9 (xs : List (List Int)) (i : Int) : (List Int) := xs.getD i.toNat ([] : List Int)
theorem at_L9 {w : World} {A : Option Addr} {n : Nat} {xs : List (List Int)} (h : Kd.C (Kd.slice 3 (Kd.int .i64)) w A n xs) (i : Int) (h0 : 0 ≤ i) (h1 : i < n) : ∃ ad A0 c0, A = some ad ∧ w.cell? (ad.add i.toNat) = some (.slice A0 (rd_L9 xs i).length c0) ∧ (rd_L9 xs i).length ≤ c0 ∧ (Kd.int .i64).C w A0 (rd_L9 xs i).length (rd_L9 xs i) := by
 obtain ⟨ad, c, e, _, hK, hc0⟩ := Kd.C_get h ([] : List Int) i h0 h1
 have hc : ∀ j u, c[j]? = some u → w.cell? (ad.add (i.toNat * 1 + j)) = some u := hc0
 obtain ⟨A0, c0, rfl, l0, g0⟩ := hK
 exact ⟨ad, A0, c0, e, by have hq := hc 0 _ rfl; rwa [Nat.mul_one, Nat.add_zero] at hq, l0, g0⟩

/-! #### struct type 37 -/
structure S_LTurn where
 f0 : (List Int)
 f1 : (List Int)
def z_LTurn : S_LTurn := ⟨([] : List Int), ([] : List Int)⟩
def k_LTurn : Kd S_LTurn := Kd.iso (Kd.pair (Kd.slice 3 (Kd.int .i64)) (Kd.slice 3 (Kd.int .i64))) (fun x : S_LTurn => (x.f0, x.f1))
theorem k_LTurn_open {w : World} {x : S_LTurn} {cs : List Value} (h : k_LTurn.K w x cs) : ∃ A0 c0 A1 c1, cs = [.slice A0 x.f0.length c0, .slice A1 x.f1.length c1] ∧ x.f0.length ≤ c0 ∧ (Kd.int .i64).C w A0 x.f0.length x.f0 ∧ x.f1.length ≤ c1 ∧ (Kd.int .i64).C w A1 x.f1.length x.f1 := by
 obtain ⟨_, _, rfl, ⟨A0, c0, rfl, l0, g0⟩, ⟨A1, c1, rfl, l1, g1⟩⟩ := h
 exact ⟨A0, c0, A1, c1, rfl, l0, g0, l1, g1⟩
theorem k_LTurn_openM {w : World} {base : Nat} {ok : Nat → Prop} {x : S_LTurn} {cs : List Value} (h : k_LTurn.M w base ok x cs) : ∃ v0 v1, cs = [v0, v1] ∧ (Kd.int .i64).R 3 w base ok v0 x.f0 ∧ (Kd.int .i64).R 3 w base ok v1 x.f1 := by
 obtain ⟨_, _, rfl, ⟨v0, rfl, g0⟩, ⟨v1, rfl, g1⟩⟩ := h
 exact ⟨v0, v1, rfl, g0, g1⟩
theorem k_LTurn_mk (w : World) (x : S_LTurn) {A0 : Option Addr} {c0 : Nat} (l0 : x.f0.length ≤ c0) (g0 : (Kd.int .i64).C w A0 x.f0.length x.f0) {A1 : Option Addr} {c1 : Nat} (l1 : x.f1.length ≤ c1) (g1 : (Kd.int .i64).C w A1 x.f1.length x.f1) : k_LTurn.K w x [.slice A0 x.f0.length c0, .slice A1 x.f1.length c1] := ⟨[.slice A0 x.f0.length c0], [.slice A1 x.f1.length c1], rfl, ⟨A0, c0, rfl, l0, g0⟩, ⟨A1, c1, rfl, l1, g1⟩⟩
theorem k_LTurn_mkM (w : World) (base : Nat) (ok : Nat → Prop) (x : S_LTurn) {v0 : Value} (g0 : (Kd.int .i64).R 3 w base ok v0 x.f0) {v1 : Value} (g1 : (Kd.int .i64).R 3 w base ok v1 x.f1) : k_LTurn.M w base ok x [v0, v1] := ⟨[v0], [v1], rfl, ⟨v0, rfl, g0⟩, ⟨v1, rfl, g1⟩⟩
def rd_TLTurn (xs : List S_LTurn) (i : Int) : S_LTurn := xs.getD i.toNat z_LTurn
theorem at_TLTurn {w : World} {A : Option Addr} {n : Nat} {xs : List S_LTurn} (h : Kd.C k_LTurn w A n xs) (i : Int) (h0 : 0 ≤ i) (h1 : i < n) : ∃ ad A0 c0 A1 c1, A = some ad ∧ w.cell? (ad.add (i.toNat * 2)) = some (.slice A0 (rd_TLTurn xs i).f0.length c0) ∧ w.cell? ⟨(ad.add (i.toNat * 2)).block, (ad.add (i.toNat * 2)).off + 1, none⟩ = some (.slice A1 (rd_TLTurn xs i).f1.length c1) ∧ (rd_TLTurn xs i).f0.length ≤ c0 ∧ (Kd.int .i64).C w A0 (rd_TLTurn xs i).f0.length (rd_TLTurn xs i).f0 ∧ (rd_TLTurn xs i).f1.length ≤ c1 ∧ (Kd.int .i64).C w A1 (rd_TLTurn xs i).f1.length (rd_TLTurn xs i).f1 := by
 obtain ⟨ad, c, e, _, hK, hc0⟩ := Kd.C_get h z_LTurn i h0 h1
 have hc : ∀ j u, c[j]? = some u → w.cell? (ad.add (i.toNat * 2 + j)) = some u := hc0
 obtain ⟨A0, c0, A1, c1, rfl, l0, g0, l1, g1⟩ := k_LTurn_open hK
 exact ⟨ad, A0, c0, A1, c1, e, hc 0 _ rfl, by rw [← add_field _ _ 1 (by omega)]; exact hc 1 _ rfl, l0, g0, l1, g1⟩

def WF_LColumn (x : S_LColumn) : Prop := ((Lit.int .i64 x.f0).wf = true) ∧ (Lit.int .i64 x.f1).wf = true
def WF_LTurn (x : S_LTurn) : Prop := (x.f0.length ≤ maxLen ∧ ∀ x_ ∈ x.f0, (Lit.int .i64 x_).wf = true) ∧ x.f1.length ≤ maxLen ∧ ∀ x_ ∈ x.f1, (Lit.int .i64 x_).wf = true
end
section
theorem eqAColumn (d : Nat) (w : World) (x0 y0 : Int) (x1 y1 : Int) :
  (Op.equalIn (d + 2) 65 (.agg #[.int .i64 x0, .int .i64 x1]) (.agg #[.int .i64 y0, .int .i64 y1])).run Try.prog w = .ok (x0 == y0 && (x1 == y1)) w := by
 refine eqA_of Try.underlying65 KR ?_
 refine eqf_cons (by rfl) (by go_simp; rfl) (by go_simp; rfl) (by go_simp) ?_
 exact eqf_last (by rfl) (by go_simp; rfl) (by go_simp; rfl) (by go_simp)
end
section
/-- A state of type 93 at block g of W; what its slices lead to came in by w0. -/
def IsSPl1Cur (w0 W : World) (g : Nat) (f0 : List Int) (f1 : Int) (f2 : Int) : Prop := ∃ A0 c0, W.heap[g]? = some (.cells #[.slice A0 f0.length c0, .int .i64 f1, .int .u64 f2] 93 (0, 0)) ∧ w0.heap.size ≤ g ∧ Kd.C (Kd.int .u8) w0 A0 f0.length f0
theorem IsSPl1Cur.grown {w0 W : World} {g : Nat} {f0 : List Int} {f1 : Int} {f2 : Int} {W1 : World} {row : Option Nat} (h : IsSPl1Cur w0 W g f0 f1 f2) (hw : W.grownBy W1 row) (hne : some g ≠ row) : IsSPl1Cur w0 W1 g f0 f1 f2 := by
 obtain ⟨A0, c0, hb, hg, hr0⟩ := h
 exact ⟨A0, c0, blk_grown hb hw hne, hg, hr0⟩
theorem IsSPl1Cur.own_neN {w0 W : World} {g : Nat} {f0 : List Int} {f1 : Int} {f2 : Int} {α : Type} {d : Kd α} {e : Nat} {base : Nat} {ok : Nat → Prop} {v : Value} {xs : List α} (h : IsSPl1Cur w0 W g f0 f1 f2) (ho : Kd.N d e W base ok v xs) (ht : e ≠ 93) : some g ≠ v.ownBlock := by
 obtain ⟨A0, c0, hb, hg, hr0⟩ := h
 exact Kd.N_ne ho hb ht
theorem IsSPl1Cur.fresh {w0 W : World} {g : Nat} {f0 : List Int} {f1 : Int} {f2 : Int} (h : IsSPl1Cur w0 W g f0 f1 f2) : ∀ k, W.heap.size ≤ k → k ≠ g := by
 obtain ⟨A0, c0, hb, hg, hr0⟩ := h
 exact Kd.freshB hb
theorem IsSPl1Cur.kept {w0 W : World} {g : Nat} {f0 : List Int} {f1 : Int} {f2 : Int} {W1 : World} {S : Nat → Prop} (h : IsSPl1Cur w0 W g f0 f1 f2) (hk : Kept W W1 S) (hne : ¬ S g) : IsSPl1Cur w0 W1 g f0 f1 f2 := by
 obtain ⟨A0, c0, hb, hg, hr0⟩ := h
 exact ⟨A0, c0, blk_kept hb hk hne, hg, hr0⟩
theorem IsSPl1Cur.below {w0 W : World} {g : Nat} {f0 : List Int} {f1 : Int} {f2 : Int} {W1 : World} (h : IsSPl1Cur w0 W g f0 f1 f2) (hw : Below W.heap.size W W1) : IsSPl1Cur w0 W1 g f0 f1 f2 := h.grown (grown_of_below hw none) (by simp)
theorem IsSPl1Cur.alloc {w0 W : World} {g : Nat} {f0 : List Int} {f1 : Int} {f2 : Int} (h : IsSPl1Cur w0 W g f0 f1 f2) (o : Obj) : IsSPl1Cur w0 (W.alloc o) g f0 f1 f2 := h.below (below_alloc (Below.refl _ _) o)
theorem IsSPl1Cur.drewN {w0 W : World} {g : Nat} {f0 : List Int} {f1 : Int} {f2 : Int} (h : IsSPl1Cur w0 W g f0 f1 f2) (m : Nat) : IsSPl1Cur w0 (W.drewN m) g f0 f1 f2 := h
theorem IsSPl1Cur.drew {w0 W : World} {g : Nat} {f0 : List Int} {f1 : Int} {f2 : Int} (h : IsSPl1Cur w0 W g f0 f1 f2) : IsSPl1Cur w0 W.drew g f0 f1 f2 := h
theorem IsSPl1Cur.at_ {w0 W : World} {g : Nat} {f0 : List Int} {f1 : Int} {f2 : Int} {w' : World} {m : Nat} (hq : W.drewN m = w') (h : IsSPl1Cur w0 W g f0 f1 f2) : IsSPl1Cur w0 w' g f0 f1 f2 := by subst hq; exact IsSPl1Cur.drewN h m
theorem IsSPl1Cur.apart {w0 W : World} {g : Nat} {f0 : List Int} {f1 : Int} {f2 : Int} {α : Type} {d : Kd α} {e : Nat} {base : Nat} {ok : Nat → Prop} {v : Value} {xs : List α} (h : IsSPl1Cur w0 W g f0 f1 f2) (ho : d.R e W base ok v xs) (ht : ∀ q, q ∈ e :: d.E → q ≠ 93) : d.R e W base (fun k => ok k ∧ k ≠ g) v xs := by
 obtain ⟨A0, c0, hb, hg, hr0⟩ := h
 exact Kd.R_types ho hb ht
theorem IsSPl1Cur.own_ne {w0 W : World} {g : Nat} {f0 : List Int} {f1 : Int} {f2 : Int} {α : Type} {d : Kd α} {e : Nat} {base : Nat} {ok : Nat → Prop} {v : Value} {xs : List α} (h : IsSPl1Cur w0 W g f0 f1 f2) (ho : d.R e W base ok v xs) (ht : e ≠ 93) : some g ≠ v.ownBlock := by
 obtain ⟨A0, c0, hb, hg, hr0⟩ := h
 exact Kd.R_ne ho hb ht
theorem IsSPl1Cur.apartQ {w0 W : World} {g : Nat} {f0 : List Int} {f1 : Int} {f2 : Int} {α : Type} {d : Kd α} {e : Nat} {base : Nat} {ok : Nat → Prop} {v : Value} {xs : List α} (h : IsSPl1Cur w0 W g f0 f1 f2) (ho : d.Q e W base ok v xs) (ht : ∀ q, q ∈ e :: d.E → q ≠ 93) : d.Q e W base (fun k => ok k ∧ k ≠ g) v xs := by
 obtain ⟨A0, c0, hb, hg, hr0⟩ := h
 exact Kd.Q_types ho hb ht
theorem IsSPl1Cur.own_neQ {w0 W : World} {g : Nat} {f0 : List Int} {f1 : Int} {f2 : Int} {α : Type} {d : Kd α} {e : Nat} {base : Nat} {ok : Nat → Prop} {v : Value} {xs : List α} (h : IsSPl1Cur w0 W g f0 f1 f2) (ho : d.Q e W base ok v xs) (ht : e ≠ 93) : some g ≠ v.ownBlock := by
 obtain ⟨A0, c0, hb, hg, hr0⟩ := h
 exact Kd.Q_ne ho hb ht
theorem IsSPl1Cur.apartS {w0 W : World} {g : Nat} {f0 : List Int} {f1 : Int} {f2 : Int} {α : Type} {d : Kd α} {e : Nat} {base : Nat} {ok : Nat → Prop} {v : Value} {xs : List α} (h : IsSPl1Cur w0 W g f0 f1 f2) (ho : d.S e W base ok v xs) (ht : ∀ q, q ∈ e :: d.E → q ≠ 93) : d.S e W base (fun k => ok k ∧ k ≠ g) v xs := by
 obtain ⟨A0, c0, hb, hg, hr0⟩ := h
 exact Kd.S_types ho hb ht
theorem IsSPl1Cur.own_neS {w0 W : World} {g : Nat} {f0 : List Int} {f1 : Int} {f2 : Int} {α : Type} {d : Kd α} {e : Nat} {base : Nat} {ok : Nat → Prop} {v : Value} {xs : List α} (h : IsSPl1Cur w0 W g f0 f1 f2) (ho : d.S e W base ok v xs) (ht : e ≠ 93) : some g ≠ v.ownBlock := by
 obtain ⟨A0, c0, hb, hg, hr0⟩ := h
 exact Kd.S_ne ho hb ht
theorem IsSPl1Cur.lt {w0 W : World} {g : Nat} {f0 : List Int} {f1 : Int} {f2 : Int} (h : IsSPl1Cur w0 W g f0 f1 f2) : g < W.heap.size := by
 obtain ⟨A0, c0, hb, hg, hr0⟩ := h
 exact blk_lt hb
theorem IsSPl1Cur.ge {w0 W : World} {g : Nat} {f0 : List Int} {f1 : Int} {f2 : Int} (h : IsSPl1Cur w0 W g f0 f1 f2) : w0.heap.size ≤ g := by
 obtain ⟨A0, c0, hb, hg, hr0⟩ := h
 exact hg
theorem IsSPl1Cur.ne_blk {w0 W : World} {g : Nat} {f0 : List Int} {f1 : Int} {f2 : Int} {a : Nat} {cs : Array Value} {t : TypeId} {fr : Nat × Nat} (h : IsSPl1Cur w0 W g f0 f1 f2) (hb2 : W.heap[a]? = some (.cells cs t fr)) (ht : t ≠ 93) : g ≠ a := by
 obtain ⟨A0, c0, hb, hg, hr0⟩ := h
 rintro rfl
 rw [hb] at hb2
 injection hb2 with hb2
 injection hb2 with _ ht2
 exact ht ht2.symm
theorem IsSPl1Cur.far {w0 W : World} {g : Nat} {f0 : List Int} {f1 : Int} {f2 : Int} {p : Addr} (h : IsSPl1Cur w0 W g f0 f1 f2) (hne : g ≠ p.block) (u : Value) : IsSPl1Cur w0 (W.setCell p u) g f0 f1 f2 := by
 obtain ⟨A0, c0, hb, hg, hr0⟩ := h
 exact ⟨A0, c0, blk_far hb hne u, hg, hr0⟩
theorem cellSPl1Cur_0 {W : World} {g : Nat} {A0 : Option Addr} {c0 : Nat} {f0 : List Int} {f1 : Int} {f2 : Int} (h : W.heap[g]? = some (.cells #[.slice A0 f0.length c0, .int .i64 f1, .int .u64 f2] 93 (0, 0))) : W.cell? ⟨g, 0, none⟩ = some (.slice A0 f0.length c0) := (blk_cell h 0).trans rfl
theorem cellSPl1Cur_1 {W : World} {g : Nat} {A0 : Option Addr} {c0 : Nat} {f0 : List Int} {f1 : Int} {f2 : Int} (h : W.heap[g]? = some (.cells #[.slice A0 f0.length c0, .int .i64 f1, .int .u64 f2] 93 (0, 0))) : W.cell? ⟨g, 1, none⟩ = some (.int .i64 f1) := (blk_cell h 1).trans rfl
theorem IsSPl1Cur.set_1 {w0 W : World} {g : Nat} {f0 : List Int} {f1 : Int} {f2 : Int} (h : IsSPl1Cur w0 W g f0 f1 f2) (x : Int) : IsSPl1Cur w0 (W.setCell ⟨g, 1, none⟩ (.int .i64 x)) g f0 x f2 := by
 obtain ⟨A0, c0, hb, hg, hr0⟩ := h
 exact ⟨A0, c0, by simpa using blk_set hb 1 (.int .i64 x), hg, hr0⟩
theorem cellSPl1Cur_2 {W : World} {g : Nat} {A0 : Option Addr} {c0 : Nat} {f0 : List Int} {f1 : Int} {f2 : Int} (h : W.heap[g]? = some (.cells #[.slice A0 f0.length c0, .int .i64 f1, .int .u64 f2] 93 (0, 0))) : W.cell? ⟨g, 2, none⟩ = some (.int .u64 f2) := (blk_cell h 2).trans rfl
theorem IsSPl1Cur.set_2 {w0 W : World} {g : Nat} {f0 : List Int} {f1 : Int} {f2 : Int} (h : IsSPl1Cur w0 W g f0 f1 f2) (x : Int) : IsSPl1Cur w0 (W.setCell ⟨g, 2, none⟩ (.int .u64 x)) g f0 f1 x := by
 obtain ⟨A0, c0, hb, hg, hr0⟩ := h
 exact ⟨A0, c0, by simpa using blk_set hb 2 (.int .u64 x), hg, hr0⟩
theorem IsSPl1Cur.new (w0 W : World) (A0 : Option Addr) (c0 : Nat) (f0 : List Int) (f1 : Int) (f2 : Int) (hB : Below w0.heap.size w0 W) (hr0 : Kd.C (Kd.int .u8) w0 A0 f0.length f0) : IsSPl1Cur w0 (W.alloc (.cells #[.slice A0 f0.length c0, .int .i64 f1, .int .u64 f2] 93)) W.heap.size f0 f1 f2 := ⟨A0, c0, by simpa using heap_alloc_new W _, hB.size, hr0⟩

/-! ### spec_l1Cur_next: function 91 -/
def spec_l1Cur_next.f (s0_0 : List Int) (s0_1 : Int) (s0_2 : Int) : Option (Int × Int × Int) := if s0_1 < (s0_0.length : Int) then (if 0 ≤ s0_1 then (if (wrap64 (s0_1 + 1)) ≤ (s0_0.length : Int) then (some (wrap64 (rd s0_0 s0_1), wrap64 (s0_1 + 1), IntKind.u64.wrap ((IntKind.u64.wrap ((IntKind.u64.wrap (s0_2 * 6364136223846793005)) + (IntKind.u64.wrap (wrap64 (rd s0_0 s0_1))))) + 1442695040888963407))) else (some (wrap64 (Go.bits .and .u64 ((IntKind.u64.wrap ((IntKind.u64.wrap ((IntKind.u64.wrap (s0_2 * 6364136223846793005)) + (IntKind.u64.wrap (wrap64 (rd s0_0 s0_1))))) + 1442695040888963407)) / 1099511627776) 255), wrap64 (s0_1 + 1), IntKind.u64.wrap ((IntKind.u64.wrap ((IntKind.u64.wrap (s0_2 * 6364136223846793005)) + (IntKind.u64.wrap (wrap64 (rd s0_0 s0_1))))) + 1442695040888963407)))) else (none)) else (if (wrap64 (s0_1 + 1)) ≤ (s0_0.length : Int) then (some (0, wrap64 (s0_1 + 1), IntKind.u64.wrap ((IntKind.u64.wrap ((IntKind.u64.wrap (s0_2 * 6364136223846793005)))) + 1442695040888963407))) else (some (wrap64 (Go.bits .and .u64 ((IntKind.u64.wrap ((IntKind.u64.wrap ((IntKind.u64.wrap (s0_2 * 6364136223846793005)))) + 1442695040888963407)) / 1099511627776) 255), wrap64 (s0_1 + 1), IntKind.u64.wrap ((IntKind.u64.wrap ((IntKind.u64.wrap (s0_2 * 6364136223846793005)))) + 1442695040888963407))))
theorem spec_l1Cur_next.calls (g : Nat) (s0_0 : List Int) (s0_1 : Int) (s0_2 : Int) (r1 : Int) (r2 : Int) (r3 : Int) (w0 w : World) (hI : IsSPl1Cur w0 w g s0_0 s0_1 s0_2) (hB : Below w0.heap.size w0 w) (h : spec_l1Cur_next.f s0_0 s0_1 s0_2 = some (r1, r2, r3)) :
  Calls Try.prog 91 #[.pointer (some ⟨g, 0, none⟩)] w fun e w' => e = .returned (.int .i64 r1) ∧ IsSPl1Cur w0 w' g s0_0 r2 r3 ∧ Below w0.heap.size w0 w' ∧ KeepBut w w' g none := by
 have HI0 := Aside0.mk hI
 have HK := Aside0.mk (KeepBut.refl w g none)
 have HL := Aside0.mk hB.size
 clear hI
 have HW0 := Aside0.mk hB.size
 have HB := Aside0.mk hB
 clear hB
 have H : (if s0_1 < (s0_0.length : Int) then (if 0 ≤ s0_1 then (if (wrap64 (s0_1 + 1)) ≤ (s0_0.length : Int) then (some (wrap64 (rd s0_0 s0_1), wrap64 (s0_1 + 1), IntKind.u64.wrap ((IntKind.u64.wrap ((IntKind.u64.wrap (s0_2 * 6364136223846793005)) + (IntKind.u64.wrap (wrap64 (rd s0_0 s0_1))))) + 1442695040888963407))) else (some (wrap64 (Go.bits .and .u64 ((IntKind.u64.wrap ((IntKind.u64.wrap ((IntKind.u64.wrap (s0_2 * 6364136223846793005)) + (IntKind.u64.wrap (wrap64 (rd s0_0 s0_1))))) + 1442695040888963407)) / 1099511627776) 255), wrap64 (s0_1 + 1), IntKind.u64.wrap ((IntKind.u64.wrap ((IntKind.u64.wrap (s0_2 * 6364136223846793005)) + (IntKind.u64.wrap (wrap64 (rd s0_0 s0_1))))) + 1442695040888963407)))) else (none)) else (if (wrap64 (s0_1 + 1)) ≤ (s0_0.length : Int) then (some (0, wrap64 (s0_1 + 1), IntKind.u64.wrap ((IntKind.u64.wrap ((IntKind.u64.wrap (s0_2 * 6364136223846793005)))) + 1442695040888963407))) else (some (wrap64 (Go.bits .and .u64 ((IntKind.u64.wrap ((IntKind.u64.wrap ((IntKind.u64.wrap (s0_2 * 6364136223846793005)))) + 1442695040888963407)) / 1099511627776) 255), wrap64 (s0_1 + 1), IntKind.u64.wrap ((IntKind.u64.wrap ((IntKind.u64.wrap (s0_2 * 6364136223846793005)))) + 1442695040888963407))))) = some (r1, r2, r3) := h
 clear h
 by_cases c2 : s0_1 < (s0_0.length : Int)
 ·rw [if_pos c2] at H
  have c2b0 : decide (s0_1 < (s0_0.length : Int)) = true := decide_eq_true c2
  clear c2
  obtain ⟨c3, H⟩ := ifn H
  have c3b0 : decide (0 ≤ s0_1) = true := decide_eq_true c3
  clear c3
  by_cases c4 : (wrap64 (s0_1 + 1)) ≤ (s0_0.length : Int)
  ·rw [if_pos c4] at H
   have c4b0 : decide ((wrap64 (s0_1 + 1)) ≤ (s0_0.length : Int)) = true := decide_eq_true c4
   clear c4
   simp only [Option.some.injEq, Prod.mk.injEq] at H
   obtain ⟨rfl, rfl, rfl⟩ := H
   obtain ⟨ASz5_0, cSz5_0, HGz5, hgz5, HSz5_0⟩ := HI0.out
   have hcz5_0 := cellSPl1Cur_0 HGz5
   have hcz5_1 := cellSPl1Cur_1 HGz5
   have hcz5_2 := cellSPl1Cur_2 HGz5
   have hfz5_1 := blk_frozen HGz5 1
   have hfz5_2 := blk_frozen HGz5 2
   clear HGz5 hgz5
   have p101 : 0 ≤ (s0_1 : Int) := TD
   have q101 : s0_1 < (s0_0.length : Int) := TD
   obtain ⟨ad101, e101, hx101_0⟩ := Kd.at_int HSz5_0 s0_1 p101 q101
   cases e101
   replace hx101_0 := pw_cell_below HB.out hx101_0
   replace p101 := eq_true p101
   replace q101 := eq_true q101
   go_enter Try.func91, Try.ntmps91
   go_wp2
   repeat (go_quiet (fail); try go_wp2)
   go_ret
   exact ⟨TE, by repeat (first | (with_reducible first | exact HI0.out | apply IsSPl1Cur.alloc | apply IsSPl1Cur.drewN | apply IsSPl1Cur.drew | apply IsSPl1Cur.set_1 | apply IsSPl1Cur.set_2) | exact HI0.out), by repeat (first | (with_reducible first | exact HB.out | apply below_alloc | apply pw_below_drewN | apply below_drew1 | refine below_set ?_ (IsSPl1Cur.ge HI0.out)) | exact HB.out), by repeat (first | (with_reducible first | exact HK.out | apply KeepBut.set_ | apply keep_drewN | apply keep_drew | apply keep_alloc) | exact HK.out)⟩
  ·rw [if_neg c4] at H
   have c4b0 : decide ((wrap64 (s0_1 + 1)) ≤ (s0_0.length : Int)) = false := decide_eq_false c4
   clear c4
   simp only [Option.some.injEq, Prod.mk.injEq] at H
   obtain ⟨rfl, rfl, rfl⟩ := H
   obtain ⟨ASz6_0, cSz6_0, HGz6, hgz6, HSz6_0⟩ := HI0.out
   have hcz6_0 := cellSPl1Cur_0 HGz6
   have hcz6_1 := cellSPl1Cur_1 HGz6
   have hcz6_2 := cellSPl1Cur_2 HGz6
   have hfz6_1 := blk_frozen HGz6 1
   have hfz6_2 := blk_frozen HGz6 2
   clear HGz6 hgz6
   have p101 : 0 ≤ (s0_1 : Int) := TD
   have q101 : s0_1 < (s0_0.length : Int) := TD
   obtain ⟨ad101, e101, hx101_0⟩ := Kd.at_int HSz6_0 s0_1 p101 q101
   cases e101
   replace hx101_0 := pw_cell_below HB.out hx101_0
   replace p101 := eq_true p101
   replace q101 := eq_true q101
   go_enter Try.func91, Try.ntmps91
   go_wp2
   repeat (go_quiet (fail); try go_wp2)
   go_ret
   exact ⟨TE, by repeat (first | (with_reducible first | exact HI0.out | apply IsSPl1Cur.alloc | apply IsSPl1Cur.drewN | apply IsSPl1Cur.drew | apply IsSPl1Cur.set_1 | apply IsSPl1Cur.set_2) | exact HI0.out), by repeat (first | (with_reducible first | exact HB.out | apply below_alloc | apply pw_below_drewN | apply below_drew1 | refine below_set ?_ (IsSPl1Cur.ge HI0.out)) | exact HB.out), by repeat (first | (with_reducible first | exact HK.out | apply KeepBut.set_ | apply keep_drewN | apply keep_drew | apply keep_alloc) | exact HK.out)⟩
 ·rw [if_neg c2] at H
  have c2b0 : decide (s0_1 < (s0_0.length : Int)) = false := decide_eq_false c2
  clear c2
  by_cases c7 : (wrap64 (s0_1 + 1)) ≤ (s0_0.length : Int)
  ·rw [if_pos c7] at H
   have c7b0 : decide ((wrap64 (s0_1 + 1)) ≤ (s0_0.length : Int)) = true := decide_eq_true c7
   clear c7
   simp only [Option.some.injEq, Prod.mk.injEq] at H
   obtain ⟨rfl, rfl, rfl⟩ := H
   obtain ⟨ASz8_0, cSz8_0, HGz8, hgz8, HSz8_0⟩ := HI0.out
   have hcz8_0 := cellSPl1Cur_0 HGz8
   have hcz8_1 := cellSPl1Cur_1 HGz8
   have hcz8_2 := cellSPl1Cur_2 HGz8
   have hfz8_1 := blk_frozen HGz8 1
   have hfz8_2 := blk_frozen HGz8 2
   clear HGz8 hgz8
   go_enter Try.func91, Try.ntmps91
   go_wp2
   repeat (go_quiet (fail); try go_wp2)
   go_ret
   exact ⟨TE, by repeat (first | (with_reducible first | exact HI0.out | apply IsSPl1Cur.alloc | apply IsSPl1Cur.drewN | apply IsSPl1Cur.drew | apply IsSPl1Cur.set_1 | apply IsSPl1Cur.set_2) | exact HI0.out), by repeat (first | (with_reducible first | exact HB.out | apply below_alloc | apply pw_below_drewN | apply below_drew1 | refine below_set ?_ (IsSPl1Cur.ge HI0.out)) | exact HB.out), by repeat (first | (with_reducible first | exact HK.out | apply KeepBut.set_ | apply keep_drewN | apply keep_drew | apply keep_alloc) | exact HK.out)⟩
  ·rw [if_neg c7] at H
   have c7b0 : decide ((wrap64 (s0_1 + 1)) ≤ (s0_0.length : Int)) = false := decide_eq_false c7
   clear c7
   simp only [Option.some.injEq, Prod.mk.injEq] at H
   obtain ⟨rfl, rfl, rfl⟩ := H
   obtain ⟨ASz9_0, cSz9_0, HGz9, hgz9, HSz9_0⟩ := HI0.out
   have hcz9_0 := cellSPl1Cur_0 HGz9
   have hcz9_1 := cellSPl1Cur_1 HGz9
   have hcz9_2 := cellSPl1Cur_2 HGz9
   have hfz9_1 := blk_frozen HGz9 1
   have hfz9_2 := blk_frozen HGz9 2
   clear HGz9 hgz9
   go_enter Try.func91, Try.ntmps91
   go_wp2
   repeat (go_quiet (fail); try go_wp2)
   go_ret
   exact ⟨TE, by repeat (first | (with_reducible first | exact HI0.out | apply IsSPl1Cur.alloc | apply IsSPl1Cur.drewN | apply IsSPl1Cur.drew | apply IsSPl1Cur.set_1 | apply IsSPl1Cur.set_2) | exact HI0.out), by repeat (first | (with_reducible first | exact HB.out | apply below_alloc | apply pw_below_drewN | apply below_drew1 | refine below_set ?_ (IsSPl1Cur.ge HI0.out)) | exact HB.out), by repeat (first | (with_reducible first | exact HK.out | apply KeepBut.set_ | apply keep_drewN | apply keep_drew | apply keep_alloc) | exact HK.out)⟩
end
section
/-! ### spec_l1Cur_pick: function 81 -/
def spec_l1Cur_pick.f (s0_0 : List Int) (s0_1 : Int) (s0_2 : Int) (a1 : Int) : Option (Int × Int × Int) := if a1 ≤ 1 then (some (0, s0_1, s0_2)) else ((spec_l1Cur_next.f s0_0 s0_1 s0_2).bind fun bt102 => (if a1 > 200 then ((spec_l1Cur_next.f s0_0 bt102.2.1 bt102.2.2).bind fun bt105 => (if a1 = 0 then (none) else (some (Int.tmod (wrap64 ((wrap64 (bt102.1 * 256)) + bt105.1)) a1, bt105.2.1, bt105.2.2)))) else (if a1 = 0 then (none) else (some (Int.tmod bt102.1 a1, bt102.2.1, bt102.2.2)))))
theorem spec_l1Cur_pick.calls (g : Nat) (s0_0 : List Int) (s0_1 : Int) (s0_2 : Int) (a1 : Int) (r1 : Int) (r2 : Int) (r3 : Int) (w0 w : World) (hI : IsSPl1Cur w0 w g s0_0 s0_1 s0_2) (hB : Below w0.heap.size w0 w) (h : spec_l1Cur_pick.f s0_0 s0_1 s0_2 a1 = some (r1, r2, r3)) :
  Calls Try.prog 81 #[.pointer (some ⟨g, 0, none⟩), .int .i64 a1] w fun e w' => e = .returned (.int .i64 r1) ∧ IsSPl1Cur w0 w' g s0_0 r2 r3 ∧ Below w0.heap.size w0 w' ∧ KeepBut w w' g none := by
 have HI0 := Aside0.mk hI
 have HK := Aside0.mk (KeepBut.refl w g none)
 have HL := Aside0.mk hB.size
 clear hI
 have HW0 := Aside0.mk hB.size
 have HB := Aside0.mk hB
 clear hB
 have H : (if a1 ≤ 1 then (some (0, s0_1, s0_2)) else ((spec_l1Cur_next.f s0_0 s0_1 s0_2).bind fun bt102 => (if a1 > 200 then ((spec_l1Cur_next.f s0_0 bt102.2.1 bt102.2.2).bind fun bt105 => (if a1 = 0 then (none) else (some (Int.tmod (wrap64 ((wrap64 (bt102.1 * 256)) + bt105.1)) a1, bt105.2.1, bt105.2.2)))) else (if a1 = 0 then (none) else (some (Int.tmod bt102.1 a1, bt102.2.1, bt102.2.2)))))) = some (r1, r2, r3) := h
 clear h
 by_cases c3 : a1 ≤ 1
 ·rw [if_pos c3] at H
  have c3b0 : decide (a1 ≤ 1) = true := decide_eq_true c3
  clear c3
  simp only [Option.some.injEq, Prod.mk.injEq] at H
  obtain ⟨rfl, rfl, rfl⟩ := H
  go_enter Try.func81, Try.ntmps81
  go_wp2
  go_ret
  exact ⟨TE, by repeat (first | (with_reducible first | exact HI0.out | apply IsSPl1Cur.alloc | apply IsSPl1Cur.drewN | apply IsSPl1Cur.drew | apply IsSPl1Cur.set_1 | apply IsSPl1Cur.set_2) | exact HI0.out), by repeat (first | (with_reducible first | exact HB.out | apply below_alloc | apply pw_below_drewN | apply below_drew1 | refine below_set ?_ (IsSPl1Cur.ge HI0.out)) | exact HB.out), by repeat (first | (with_reducible first | exact HK.out | apply KeepBut.set_ | apply keep_drewN | apply keep_drew | apply keep_alloc) | exact HK.out)⟩
 ·rw [if_neg c3] at H
  have c3b0 : decide (a1 ≤ 1) = false := decide_eq_false c3
  clear c3
  obtain ⟨⟨t102, t103, t104⟩, A4, H⟩ := bnd H
  try dsimp only at H
  by_cases c5 : a1 > 200
  ·rw [if_pos c5] at H
   have c5b0 : decide (200 < a1) = true := decide_eq_true c5
   clear c5
   obtain ⟨⟨t105, t106, t107⟩, A6, H⟩ := bnd H
   try dsimp only at H
   obtain ⟨c7, H⟩ := ifm H
   have c7b0 : (a1 == 0) = false := beq_eq_false_iff_ne.mpr c7
   have c7b1 : (a1 != 0) = true := bne_iff_ne.mpr c7
   simp only [Option.some.injEq, Prod.mk.injEq] at H
   obtain ⟨rfl, rfl, rfl⟩ := H
   go_enter Try.func81, Try.ntmps81
   go_wp2_with (first | ((with_reducible refine gate_callee (f := 91) rfl ?_); refine goesL_ (some 9) rfl rfl Try.func91 KR rfl #[.pointer (some ⟨g, 0, none⟩)] rfl TA ?_; (with_reducible refine (spec_l1Cur_next.calls g s0_0 s0_1 s0_2 t102 t103 t104 w0 _ ?side1 ?side2 A4.out).mono ?_); (case side1 => repeat (first | (with_reducible first | exact HI0.out | apply IsSPl1Cur.alloc | apply IsSPl1Cur.drewN | apply IsSPl1Cur.drew | apply IsSPl1Cur.set_1 | apply IsSPl1Cur.set_2) | exact HI0.out)); (case side2 => repeat (first | (with_reducible first | exact HB.out | apply below_alloc | apply pw_below_drewN | apply below_drew1 | refine below_set ?_ (IsSPl1Cur.ge HI0.out)) | exact HB.out)); rintro e w8 ⟨rfl, hi, hb, hk⟩; refine ⟨_, rfl, ?_⟩; replace HK := Aside0.mk (KeepBut.trans (by repeat (first | (with_reducible first | exact HK.out | apply KeepBut.set_ | apply keep_drewN | apply keep_drew | apply keep_alloc) | exact HK.out)) hk (.inl rfl)); replace HB := Aside0.mk (hb); replace HI0 := Aside0.mk (hi); clear hb hk hi) | ((with_reducible refine gate_callee (f := 91) rfl ?_); refine goesL_ (some 15) rfl rfl Try.func91 KR rfl #[.pointer (some ⟨g, 0, none⟩)] rfl TA ?_; (with_reducible refine (spec_l1Cur_next.calls g s0_0 t103 t104 t105 t106 t107 w0 _ ?side1 ?side2 A6.out).mono ?_); (case side1 => repeat (first | (with_reducible first | exact HI0.out | apply IsSPl1Cur.alloc | apply IsSPl1Cur.drewN | apply IsSPl1Cur.drew | apply IsSPl1Cur.set_1 | apply IsSPl1Cur.set_2) | exact HI0.out)); (case side2 => repeat (first | (with_reducible first | exact HB.out | apply below_alloc | apply pw_below_drewN | apply below_drew1 | refine below_set ?_ (IsSPl1Cur.ge HI0.out)) | exact HB.out)); rintro e w9 ⟨rfl, hi, hb, hk⟩; refine ⟨_, rfl, ?_⟩; replace HK := Aside0.mk (KeepBut.trans (by repeat (first | (with_reducible first | exact HK.out | apply KeepBut.set_ | apply keep_drewN | apply keep_drew | apply keep_alloc) | exact HK.out)) hk (.inl rfl)); replace HB := Aside0.mk (hb); replace HI0 := Aside0.mk (hi); clear hb hk hi))
   go_ret
   exact ⟨TE, by repeat (first | (with_reducible first | exact HI0.out | apply IsSPl1Cur.alloc | apply IsSPl1Cur.drewN | apply IsSPl1Cur.drew | apply IsSPl1Cur.set_1 | apply IsSPl1Cur.set_2) | exact HI0.out), by repeat (first | (with_reducible first | exact HB.out | apply below_alloc | apply pw_below_drewN | apply below_drew1 | refine below_set ?_ (IsSPl1Cur.ge HI0.out)) | exact HB.out), by repeat (first | (with_reducible first | exact HK.out | apply KeepBut.set_ | apply keep_drewN | apply keep_drew | apply keep_alloc) | exact HK.out)⟩
  ·rw [if_neg c5] at H
   have c5b0 : decide (200 < a1) = false := decide_eq_false c5
   clear c5
   obtain ⟨c10, H⟩ := ifm H
   have c10b0 : (a1 == 0) = false := beq_eq_false_iff_ne.mpr c10
   have c10b1 : (a1 != 0) = true := bne_iff_ne.mpr c10
   simp only [Option.some.injEq, Prod.mk.injEq] at H
   obtain ⟨rfl, rfl, rfl⟩ := H
   go_enter Try.func81, Try.ntmps81
   go_wp2_with (first | ((with_reducible refine gate_callee (f := 91) rfl ?_); refine goesL_ (some 9) rfl rfl Try.func91 KR rfl #[.pointer (some ⟨g, 0, none⟩)] rfl TA ?_; (with_reducible refine (spec_l1Cur_next.calls g s0_0 s0_1 s0_2 t102 t103 t104 w0 _ ?side1 ?side2 A4.out).mono ?_); (case side1 => repeat (first | (with_reducible first | exact HI0.out | apply IsSPl1Cur.alloc | apply IsSPl1Cur.drewN | apply IsSPl1Cur.drew | apply IsSPl1Cur.set_1 | apply IsSPl1Cur.set_2) | exact HI0.out)); (case side2 => repeat (first | (with_reducible first | exact HB.out | apply below_alloc | apply pw_below_drewN | apply below_drew1 | refine below_set ?_ (IsSPl1Cur.ge HI0.out)) | exact HB.out)); rintro e w11 ⟨rfl, hi, hb, hk⟩; refine ⟨_, rfl, ?_⟩; replace HK := Aside0.mk (KeepBut.trans (by repeat (first | (with_reducible first | exact HK.out | apply KeepBut.set_ | apply keep_drewN | apply keep_drew | apply keep_alloc) | exact HK.out)) hk (.inl rfl)); replace HB := Aside0.mk (hb); replace HI0 := Aside0.mk (hi); clear hb hk hi))
   go_ret
   exact ⟨TE, by repeat (first | (with_reducible first | exact HI0.out | apply IsSPl1Cur.alloc | apply IsSPl1Cur.drewN | apply IsSPl1Cur.drew | apply IsSPl1Cur.set_1 | apply IsSPl1Cur.set_2) | exact HI0.out), by repeat (first | (with_reducible first | exact HB.out | apply below_alloc | apply pw_below_drewN | apply below_drew1 | refine below_set ?_ (IsSPl1Cur.ge HI0.out)) | exact HB.out), by repeat (first | (with_reducible first | exact HK.out | apply KeepBut.set_ | apply keep_drewN | apply keep_drew | apply keep_alloc) | exact HK.out)⟩
end
section
/-! ### spec_l1Cur_one: function 89 -/
def spec_l1Cur_one.f (s0_0 : List Int) (s0_1 : Int) (s0_2 : Int) (a1 : Int) : Option (Bool × Int × Int) := (spec_l1Cur_pick.f s0_0 s0_1 s0_2 a1).bind fun bt108 => (some ((bt108.1 == 0), bt108.2.1, bt108.2.2))
theorem spec_l1Cur_one.calls (g : Nat) (s0_0 : List Int) (s0_1 : Int) (s0_2 : Int) (a1 : Int) (r1 : Bool) (r2 : Int) (r3 : Int) (w0 w : World) (hI : IsSPl1Cur w0 w g s0_0 s0_1 s0_2) (hB : Below w0.heap.size w0 w) (h : spec_l1Cur_one.f s0_0 s0_1 s0_2 a1 = some (r1, r2, r3)) :
  Calls Try.prog 89 #[.pointer (some ⟨g, 0, none⟩), .int .i64 a1] w fun e w' => e = .returned (.bool r1) ∧ IsSPl1Cur w0 w' g s0_0 r2 r3 ∧ Below w0.heap.size w0 w' ∧ KeepBut w w' g none := by
 have HI0 := Aside0.mk hI
 have HK := Aside0.mk (KeepBut.refl w g none)
 have HL := Aside0.mk hB.size
 clear hI
 have HW0 := Aside0.mk hB.size
 have HB := Aside0.mk hB
 clear hB
 have H : ((spec_l1Cur_pick.f s0_0 s0_1 s0_2 a1).bind fun bt108 => (some ((bt108.1 == 0), bt108.2.1, bt108.2.2))) = some (r1, r2, r3) := h
 clear h
 obtain ⟨⟨t108, t109, t110⟩, A3, H⟩ := bnd H
 try dsimp only at H
 simp only [Option.some.injEq, Prod.mk.injEq] at H
 obtain ⟨rfl, rfl, rfl⟩ := H
 go_enter Try.func89, Try.ntmps89
 go_wp2_with (first | ((with_reducible refine gate_callee (f := 81) rfl ?_); refine goesL_ (some 7) rfl rfl Try.func81 KR rfl #[.pointer (some ⟨g, 0, none⟩), .int .i64 a1] rfl TA ?_; (with_reducible refine (spec_l1Cur_pick.calls g s0_0 s0_1 s0_2 a1 t108 t109 t110 w0 _ ?side1 ?side2 A3.out).mono ?_); (case side1 => repeat (first | (with_reducible first | exact HI0.out | apply IsSPl1Cur.alloc | apply IsSPl1Cur.drewN | apply IsSPl1Cur.drew | apply IsSPl1Cur.set_1 | apply IsSPl1Cur.set_2) | exact HI0.out)); (case side2 => repeat (first | (with_reducible first | exact HB.out | apply below_alloc | apply pw_below_drewN | apply below_drew1 | refine below_set ?_ (IsSPl1Cur.ge HI0.out)) | exact HB.out)); rintro e w4 ⟨rfl, hi, hb, hk⟩; refine ⟨_, rfl, ?_⟩; replace HK := Aside0.mk (KeepBut.trans (by repeat (first | (with_reducible first | exact HK.out | apply KeepBut.set_ | apply keep_drewN | apply keep_drew | apply keep_alloc) | exact HK.out)) hk (.inl rfl)); replace HB := Aside0.mk (hb); replace HI0 := Aside0.mk (hi); clear hb hk hi))
 go_ret
 exact ⟨TE, by repeat (first | (with_reducible first | exact HI0.out | apply IsSPl1Cur.alloc | apply IsSPl1Cur.drewN | apply IsSPl1Cur.drew | apply IsSPl1Cur.set_1 | apply IsSPl1Cur.set_2) | exact HI0.out), by repeat (first | (with_reducible first | exact HB.out | apply below_alloc | apply pw_below_drewN | apply below_drew1 | refine below_set ?_ (IsSPl1Cur.ge HI0.out)) | exact HB.out), by repeat (first | (with_reducible first | exact HK.out | apply KeepBut.set_ | apply keep_drewN | apply keep_drew | apply keep_alloc) | exact HK.out)⟩
end
section
/-! ### spec_l1Cur_among: function 77 -/
def spec_l1Cur_among.f (s0_0 : List Int) (s0_1 : Int) (s0_2 : Int) (l1 : List Int) : Option (Int × Int × Int) := (spec_l1Cur_pick.f s0_0 s0_1 s0_2 (l1.length : Int)).bind fun bt111 => (if 0 ≤ bt111.1 then (if bt111.1 < (l1.length : Int) then (some (rd l1 bt111.1, bt111.2.1, bt111.2.2)) else (none)) else (none))
theorem spec_l1Cur_among.calls (g : Nat) (s0_0 : List Int) (s0_1 : Int) (s0_2 : Int) (A1 : Option Addr) (c1 : Nat) (l1 : List Int) (r1 : Int) (r2 : Int) (r3 : Int) (w0 w : World) (hI : IsSPl1Cur w0 w g s0_0 s0_1 s0_2) (hB : Below w0.heap.size w0 w) (hr1 : Kd.C (Kd.int .i64) w A1 l1.length l1) (hc1 : l1.length ≤ c1) (hf1 : ∀ ad, A1 = some ad → 0 < l1.length → ad.block ≠ g) (h : spec_l1Cur_among.f s0_0 s0_1 s0_2 l1 = some (r1, r2, r3)) :
  Calls Try.prog 77 #[.pointer (some ⟨g, 0, none⟩), .slice A1 l1.length c1] w fun e w' => e = .returned (.int .i64 r1) ∧ IsSPl1Cur w0 w' g s0_0 r2 r3 ∧ Below w0.heap.size w0 w' ∧ KeepBut w w' g none := by
 have HR1 := Aside0.mk hr1
 have HC1 := Aside0.mk hc1
 clear hr1 hc1
 have HI0 := Aside0.mk hI
 have HK := Aside0.mk (KeepBut.refl w g none)
 have HL := Aside0.mk hB.size
 clear hI
 have HW0 := Aside0.mk hB.size
 have HB := Aside0.mk hB
 clear hB
 have H : ((spec_l1Cur_pick.f s0_0 s0_1 s0_2 (l1.length : Int)).bind fun bt111 => (if 0 ≤ bt111.1 then (if bt111.1 < (l1.length : Int) then (some (rd l1 bt111.1, bt111.2.1, bt111.2.2)) else (none)) else (none))) = some (r1, r2, r3) := h
 clear h
 obtain ⟨⟨t111, t112, t113⟩, A3, H⟩ := bnd H
 try dsimp only at H
 obtain ⟨c4, H⟩ := ifn H
 have c4b0 : decide (0 ≤ t111) = true := decide_eq_true c4
 clear c4
 obtain ⟨c5, H⟩ := ifn H
 have c5b0 : decide (t111 < (l1.length : Int)) = true := decide_eq_true c5
 clear c5
 simp only [Option.some.injEq, Prod.mk.injEq] at H
 obtain ⟨rfl, rfl, rfl⟩ := H
 go_enter Try.func77, Try.ntmps77
 go_wp2_with (first | ((with_reducible refine gate_callee (f := 81) rfl ?_); refine goesL_ (some 9) rfl rfl Try.func81 KR rfl #[.pointer (some ⟨g, 0, none⟩), .int .i64 (l1.length : Int)] rfl TA ?_; (with_reducible refine (spec_l1Cur_pick.calls g s0_0 s0_1 s0_2 (l1.length : Int) t111 t112 t113 w0 _ ?side1 ?side2 A3.out).mono ?_); (case side1 => repeat (first | (with_reducible first | exact HI0.out | apply IsSPl1Cur.alloc | apply IsSPl1Cur.drewN | apply IsSPl1Cur.drew | apply IsSPl1Cur.set_1 | apply IsSPl1Cur.set_2) | exact HI0.out)); (case side2 => repeat (first | (with_reducible first | exact HB.out | apply below_alloc | apply pw_below_drewN | apply below_drew1 | refine below_set ?_ (IsSPl1Cur.ge HI0.out)) | exact HB.out)); rintro e w6 ⟨rfl, hi, hb, hk⟩; refine ⟨_, rfl, ?_⟩; replace HK := Aside0.mk (KeepBut.trans (by repeat (first | (with_reducible first | exact HK.out | apply KeepBut.set_ | apply keep_drewN | apply keep_drew | apply keep_alloc) | exact HK.out)) hk (.inl rfl)); replace HB := Aside0.mk (hb); replace HI0 := Aside0.mk (hi); clear hb hk hi; have p114 : 0 ≤ (t111 : Int) := TD; have q114 : t111 < (l1.length : Int) := TD; obtain ⟨ad114, e114, hx114_0⟩ := Kd.at_int HR1.out t111 p114 q114; cases e114; replace hx114_0 := keep_cell HK.out hx114_0 (by first | (rw [add_block]; exact hf1 _ rfl (by omega)) | exact hf1 _ rfl (by omega) | exact hf1 ad114 rfl (by omega)); replace p114 := eq_true p114; replace q114 := eq_true q114))
 go_ret
 exact ⟨TE, by repeat (first | (with_reducible first | exact HI0.out | apply IsSPl1Cur.alloc | apply IsSPl1Cur.drewN | apply IsSPl1Cur.drew | apply IsSPl1Cur.set_1 | apply IsSPl1Cur.set_2) | exact HI0.out), by repeat (first | (with_reducible first | exact HB.out | apply below_alloc | apply pw_below_drewN | apply below_drew1 | refine below_set ?_ (IsSPl1Cur.ge HI0.out)) | exact HB.out), by repeat (first | (with_reducible first | exact HK.out | apply KeepBut.set_ | apply keep_drewN | apply keep_drew | apply keep_alloc) | exact HK.out)⟩
end
section
/-! ### spec_l1Cur_weights: function 76 -/
mutual
def spec_l1Cur_weights.j0 : Nat → List Int → Int → List Int → Int → Int → Option (List Int × Int × Int)
 | 0, _, _, _, _, _ => none
 | k + 1, x3, x4, x1000, x1001, x1002 => spec_l1Cur_weights.l0 k x3 x4 x1000 x1001 x1002
def spec_l1Cur_weights.l0 : Nat → List Int → Int → List Int → Int → Int → Option (List Int × Int × Int)
 | 0, _, _, _, _, _ => none
 | k + 1, x3, x4, x1000, x1001, x1002 => if x4 > 0 then ((spec_l1Cur_pick.f x1000 x1001 x1002 8).bind fun bt124 => (if x3.length < 17592186044416 then (spec_l1Cur_weights.l0 k (x3 ++ [bt124.1]) (wrap64 (x4 - 1)) x1000 bt124.2.1 bt124.2.2) else (none))) else ((spec_l1Cur_pick.f x1000 x1001 x1002 30).bind fun bt130 => (if bt130.1 = 0 then ((spec_l1Cur_among.f x1000 bt130.2.1 bt130.2.2 (([(-1), 50, 51] : List Int))).bind fun bt136 => (if 0 < (x3.length : Int) then (some ((x3.set (0 : Int).toNat bt136.1), bt136.2.1, bt136.2.2)) else (none))) else (if bt130.1 = 1 then (some ((([0, 0] : List Int)), bt130.2.1, bt130.2.2)) else (some (x3, bt130.2.1, bt130.2.2)))))
end
def spec_l1Cur_weights.f (k : Nat) (s0_0 : List Int) (s0_1 : Int) (s0_2 : Int) : Option (List Int × Int × Int) := (spec_l1Cur_pick.f s0_0 s0_1 s0_2 5).bind fun bt115 => ((spec_l1Cur_one.f s0_0 bt115.2.1 bt115.2.2 20).bind fun bt118 => (if bt118.1 = true then ((spec_l1Cur_pick.f s0_0 bt118.2.1 bt118.2.2 2).bind fun bt121 => (spec_l1Cur_weights.j0 k ([] : List Int) (wrap64 (12 + bt121.1)) s0_0 bt121.2.1 bt121.2.2)) else (spec_l1Cur_weights.j0 k ([] : List Int) (wrap64 (1 + bt115.1)) s0_0 bt118.2.1 bt118.2.2)))
theorem spec_l1Cur_weights.calls (k : Nat) (g : Nat) (s0_0 : List Int) (s0_1 : Int) (s0_2 : Int) (r1 : List Int) (r2 : Int) (r3 : Int) (w0 w : World) (hI : IsSPl1Cur w0 w g s0_0 s0_1 s0_2) (hB : Below w0.heap.size w0 w) (h : spec_l1Cur_weights.f k s0_0 s0_1 s0_2 = some (r1, r2, r3)) :
  Calls Try.prog 76 #[.pointer (some ⟨g, 0, none⟩)] w fun e w' => ∃ v0_ : Value, e = .returned (v0_) ∧ Kd.R (Kd.int .i64) 3 w' w.heap.size (fun _ => True) v0_ r1 ∧ IsSPl1Cur w0 w' g s0_0 r2 r3 ∧ Below w0.heap.size w0 w' ∧ KeepBut w w' g none := by
 have HI0 := Aside0.mk hI
 have HK := Aside0.mk (KeepBut.refl w g none)
 have HL := Aside0.mk hB.size
 clear hI
 have HW0 := Aside0.mk hB.size
 have HB := Aside0.mk hB
 clear hB
 have H : ((spec_l1Cur_pick.f s0_0 s0_1 s0_2 5).bind fun bt115 => ((spec_l1Cur_one.f s0_0 bt115.2.1 bt115.2.2 20).bind fun bt118 => (if bt118.1 = true then ((spec_l1Cur_pick.f s0_0 bt118.2.1 bt118.2.2 2).bind fun bt121 => (spec_l1Cur_weights.j0 k ([] : List Int) (wrap64 (12 + bt121.1)) s0_0 bt121.2.1 bt121.2.2)) else (spec_l1Cur_weights.j0 k ([] : List Int) (wrap64 (1 + bt115.1)) s0_0 bt118.2.1 bt118.2.2)))) = some (r1, r2, r3) := h
 clear h
 obtain ⟨⟨t115, t116, t117⟩, A2, H⟩ := bnd H
 try dsimp only at H
 obtain ⟨⟨t118, t119, t120⟩, A3, H⟩ := bnd H
 try dsimp only at H
 have HC4 := Aside0.mk H
 clear H
 go_enter Try.func76, Try.ntmps76
 go_upto_if 9 with (first | ((with_reducible refine gate_callee (f := 81) rfl ?_); refine goesL_ (some 6) rfl rfl Try.func81 KR rfl #[.pointer (some ⟨g, 0, none⟩), .int .i64 5] rfl TA ?_; (with_reducible refine (spec_l1Cur_pick.calls g s0_0 s0_1 s0_2 5 t115 t116 t117 w0 _ ?side1 ?side2 A2.out).mono ?_); (case side1 => repeat (first | (with_reducible first | exact HI0.out | apply IsSPl1Cur.alloc | apply IsSPl1Cur.drewN | apply IsSPl1Cur.drew | apply IsSPl1Cur.set_1 | apply IsSPl1Cur.set_2) | exact HI0.out)); (case side2 => repeat (first | (with_reducible first | exact HB.out | apply below_alloc | apply pw_below_drewN | apply below_drew1 | refine below_set ?_ (IsSPl1Cur.ge HI0.out)) | exact HB.out)); rintro e w5 ⟨rfl, hi, hb, hk⟩; refine ⟨_, rfl, ?_⟩; replace HK := Aside0.mk (KeepBut.trans (by repeat (first | (with_reducible first | exact HK.out | apply KeepBut.set_ | apply keep_drewN | apply keep_drew | apply keep_alloc) | exact HK.out)) hk (.inl rfl)); replace HB := Aside0.mk (hb); replace HI0 := Aside0.mk (hi); clear hb hk hi) | ((with_reducible refine gate_callee (f := 89) rfl ?_); refine goesL_ (some 9) rfl rfl Try.func89 KR rfl #[.pointer (some ⟨g, 0, none⟩), .int .i64 20] rfl TA ?_; (with_reducible refine (spec_l1Cur_one.calls g s0_0 t116 t117 20 t118 t119 t120 w0 _ ?side1 ?side2 A3.out).mono ?_); (case side1 => repeat (first | (with_reducible first | exact HI0.out | apply IsSPl1Cur.alloc | apply IsSPl1Cur.drewN | apply IsSPl1Cur.drew | apply IsSPl1Cur.set_1 | apply IsSPl1Cur.set_2) | exact HI0.out)); (case side2 => repeat (first | (with_reducible first | exact HB.out | apply below_alloc | apply pw_below_drewN | apply below_drew1 | refine below_set ?_ (IsSPl1Cur.ge HI0.out)) | exact HB.out)); rintro e w6 ⟨rfl, hi, hb, hk⟩; refine ⟨_, rfl, ?_⟩; replace HK := Aside0.mk (KeepBut.trans (by repeat (first | (with_reducible first | exact HK.out | apply KeepBut.set_ | apply keep_drewN | apply keep_drew | apply keep_alloc) | exact HK.out)) hk (.inl rfl)); replace HB := Aside0.mk (hb); replace HI0 := Aside0.mk (hi); clear hb hk hi))
 (try simp only [Act.put, List.setIfInBounds_toArray, List.set_cons_zero, List.set_cons_succ])
 go_cut [4] (fun v4 wc => ∃ (kq : Nat) (x4_3 : Int) (x1001_3 : Int) (x1002_3 : Int), v4 = .int .i64 x4_3 ∧ Aside0 (spec_l1Cur_weights.j0 kq ([] : List Int) x4_3 s0_0 x1001_3 x1002_3 = some (r1, r2, r3)) ∧ Aside0 (kq ≤ k) ∧ Aside0 (Kd.R (Kd.int .i64) 3 wc w.heap.size (fun _ => True) (.slice none 0 0) ([] : List Int)) ∧ Aside0 (IsSPl1Cur w0 wc g s0_0 x1001_3 x1002_3) ∧ Aside0 (KeepBut w wc g none) ∧ Aside0 (Below w0.heap.size w0 wc))
 case first =>
  have H := HC4.out
  clear HC4
  by_cases c7 : t118 = true
  ·subst c7
   replace H := ift H
   obtain ⟨⟨t121, t122, t123⟩, A8, H⟩ := bnd H
   try dsimp only at H
   have H' := Aside0.mk H
   clear H
   go_wp2_with (first | ((with_reducible refine gate_callee (f := 81) rfl ?_); refine goesL_ (some 11) rfl rfl Try.func81 KR rfl #[.pointer (some ⟨g, 0, none⟩), .int .i64 2] rfl TA ?_; (with_reducible refine (spec_l1Cur_pick.calls g s0_0 t119 t120 2 t121 t122 t123 w0 _ ?side1 ?side2 A8.out).mono ?_); (case side1 => repeat (first | (with_reducible first | exact HI0.out | apply IsSPl1Cur.alloc | apply IsSPl1Cur.drewN | apply IsSPl1Cur.drew | apply IsSPl1Cur.set_1 | apply IsSPl1Cur.set_2) | exact HI0.out)); (case side2 => repeat (first | (with_reducible first | exact HB.out | apply below_alloc | apply pw_below_drewN | apply below_drew1 | refine below_set ?_ (IsSPl1Cur.ge HI0.out)) | exact HB.out)); rintro e w9 ⟨rfl, hi, hb, hk⟩; refine ⟨_, rfl, ?_⟩; replace HK := Aside0.mk (KeepBut.trans (by repeat (first | (with_reducible first | exact HK.out | apply KeepBut.set_ | apply keep_drewN | apply keep_drew | apply keep_alloc) | exact HK.out)) hk (.inl rfl)); replace HB := Aside0.mk (hb); replace HI0 := Aside0.mk (hi); clear hb hk hi))
   go_meet
   case rel => exact ⟨_, (wrap64 (12 + t121)), (t122), (t123), TF, H', ⟨by first | omega | exact Nat.le_refl _⟩, ⟨TZ⟩, ⟨by repeat (first | (with_reducible first | exact HI0.out | apply IsSPl1Cur.alloc | apply IsSPl1Cur.drewN | apply IsSPl1Cur.drew | apply IsSPl1Cur.set_1 | apply IsSPl1Cur.set_2) | exact HI0.out)⟩, ⟨by repeat (first | (with_reducible first | exact HK.out | apply KeepBut.set_ | apply keep_drewN | apply keep_drew | apply keep_alloc) | exact HK.out)⟩, ⟨by repeat (first | (with_reducible first | exact HB.out | apply below_alloc | apply pw_below_drewN | apply below_drew1 | refine below_set ?_ (IsSPl1Cur.ge HI0.out)) | exact HB.out)⟩⟩
  ·replace c7 := Bool.eq_false_iff.mpr c7
   subst c7
   replace H := iff' H
   have H' := Aside0.mk H
   clear H
   go_wp2
   go_meet
   case rel => exact ⟨_, (wrap64 (1 + t115)), (t119), (t120), TF, H', ⟨by first | omega | exact Nat.le_refl _⟩, ⟨TZ⟩, ⟨by repeat (first | (with_reducible first | exact HI0.out | apply IsSPl1Cur.alloc | apply IsSPl1Cur.drewN | apply IsSPl1Cur.drew | apply IsSPl1Cur.set_1 | apply IsSPl1Cur.set_2) | exact HI0.out)⟩, ⟨by repeat (first | (with_reducible first | exact HK.out | apply KeepBut.set_ | apply keep_drewN | apply keep_drew | apply keep_alloc) | exact HK.out)⟩, ⟨by repeat (first | (with_reducible first | exact HB.out | apply below_alloc | apply pw_below_drewN | apply below_drew1 | refine below_set ?_ (IsSPl1Cur.ge HI0.out)) | exact HB.out)⟩⟩
 case rest =>
  clear HC4
  obtain ⟨kq, x4_3, x1001_3, x1002_3, rfl, HA, HJ3, HO_3, HI0, HK, HB⟩ := hcut
  cases kq with
  | zero => exact absurd HA.out (by simp [spec_l1Cur_weights.j0])
  | succ kj3 =>
   have H := HA.out
   clear HA
   simp only [spec_l1Cur_weights.j0] at H
   have H' := Aside0.mk H
   clear H
   go_wp2
   go_loopg [3, 4] kj3 (fun kq v3 v4 w' => ∃ (x3_2 : List Int) (x4_2 : Int) (x1001_2 : Int) (x1002_2 : Int), v4 = .int .i64 x4_2 ∧ Aside0 (spec_l1Cur_weights.l0 kq x3_2 x4_2 s0_0 x1001_2 x1002_2 = some (r1, r2, r3)) ∧ Aside0 (kq ≤ kj3) ∧ Aside0 (Kd.R (Kd.int .i64) 3 w' w.heap.size (fun _ => True) v3 x3_2) ∧ Aside0 (IsSPl1Cur w0 w' g s0_0 x1001_2 x1002_2) ∧ Aside0 (KeepBut w w' g none) ∧ Aside0 (Below w0.heap.size w0 w'))
   case atStart => exact ⟨(([] : List Int)), (x4_3), (x1001_3), (x1002_3), TF, H', ⟨Nat.le_refl _⟩, RW HO_3, ⟨by repeat (first | (with_reducible first | exact HI0.out | apply IsSPl1Cur.alloc | apply IsSPl1Cur.drewN | apply IsSPl1Cur.drew | apply IsSPl1Cur.set_1 | apply IsSPl1Cur.set_2) | exact HI0.out)⟩, ⟨by repeat (first | (with_reducible first | exact HK.out | apply KeepBut.set_ | apply keep_drewN | apply keep_drew | apply keep_alloc) | exact HK.out)⟩, ⟨by repeat (first | (with_reducible first | exact HB.out | apply below_alloc | apply pw_below_drewN | apply below_drew1 | refine below_set ?_ (IsSPl1Cur.ge HI0.out)) | exact HB.out)⟩⟩
   case round =>
    clear H'
    obtain ⟨x3_2, x4_2, x1001_2, x1002_2, rfl, HA, HK2, HO_3, HI0, HK, HB⟩ := hrel
    cases gk with
    | zero => exact absurd HA.out (by simp [spec_l1Cur_weights.l0])
    | succ k2 =>
     have H := HA.out
     clear HA
     simp only [spec_l1Cur_weights.l0] at H
     by_cases c10 : x4_2 > 0
     ·rw [if_pos c10] at H
      have c10b0 : decide (0 < x4_2) = true := decide_eq_true c10
      clear c10
      obtain ⟨⟨t124, t125, t126⟩, A11, H⟩ := bnd H
      try dsimp only at H
      obtain ⟨c12, H⟩ := ifn H
      have LMc12 := Aside0.mk c12
      clear c12
      obtain ⟨y127, hy127⟩ : ∃ y_ : List Int, y_ = (x3_2 ++ [t124]) := ⟨_, rfl⟩
      replace H : (spec_l1Cur_weights.l0 k2 y127 (wrap64 (x4_2 - 1)) s0_0 t125 t126) = some (r1, r2, r3) := by first | (rw [hy127]; with_reducible exact H) | (have H2_ := (Option.bind_some _ _).symm.trans H; rw [hy127]; with_reducible exact H2_) | (have H2_ := (Option.bind_some _ _).symm.trans H; with_reducible exact H2_) | with_reducible exact H | (rw [hy127]; exact H) | exact H
      have Ny127 := Aside0.mk hy127
      clear hy127
      have H' := Aside0.mk H
      clear H
      go_wp2_with (first | ((with_reducible refine gate_callee (f := 81) rfl ?_); refine goesL_ (some 19) rfl rfl Try.func81 KR rfl #[.pointer (some ⟨g, 0, none⟩), .int .i64 8] rfl TA ?_; (with_reducible refine (spec_l1Cur_pick.calls g s0_0 x1001_2 x1002_2 8 t124 t125 t126 w0 _ ?side1 ?side2 A11.out).mono ?_); (case side1 => repeat (first | (with_reducible first | exact HI0.out | apply IsSPl1Cur.alloc | apply IsSPl1Cur.drewN | apply IsSPl1Cur.drew | apply IsSPl1Cur.set_1 | apply IsSPl1Cur.set_2) | exact HI0.out)); (case side2 => repeat (first | (with_reducible first | exact HB.out | apply below_alloc | apply pw_below_drewN | apply below_drew1 | refine below_set ?_ (IsSPl1Cur.ge HI0.out)) | exact HB.out)); rintro e w13 ⟨rfl, hi, hb, hk⟩; refine ⟨_, rfl, ?_⟩; replace HO_3 := Aside0.mk (Kd.R_mono (Kd.R_keep (IsSPl1Cur.apart (show IsSPl1Cur w0 _ g s0_0 x1001_2 x1002_2 from by repeat (first | (with_reducible first | exact HI0.out | apply IsSPl1Cur.alloc | apply IsSPl1Cur.drewN | apply IsSPl1Cur.drew | apply IsSPl1Cur.set_1 | apply IsSPl1Cur.set_2) | exact HI0.out)) (RW HO_3).out (by decide)) hk (fun _ h => h.2)) (fun _ h => h.1)); replace HK := Aside0.mk (KeepBut.trans (by repeat (first | (with_reducible first | exact HK.out | apply KeepBut.set_ | apply keep_drewN | apply keep_drew | apply keep_alloc) | exact HK.out)) hk (.inl rfl)); replace HB := Aside0.mk (hb); replace HI0 := Aside0.mk (hi); clear hb hk hi) | ((with_reducible refine gate_builtin (b := .append) (xs := #[.tmp 17, .tmp 20]) rfl ?_); at_builtin; refine Kd.R_append (Kd.int .i64) w.heap.size rfl (.tmp 17) (.tmp 20) 22 3 (.int .i64 0) 8 rfl Try.underlying22 info3 rfl (by decide) (by omega) u3 x3_2 t124 [.int .i64 t124] (fun _ => True) (fun _ => False) rfl rfl ?aP (fun _ hk => hk.elim) ?aF ?aO (Below.refl _ _) ?aS ?aL ?_; (case aP => exact rfl); (case aF => exact (fun _ _ => trivial)); (case aO => exact (RW HO_3).out); (case aS => exact (keep_size (w := w) (g := g) (row := none) (by repeat (first | (with_reducible first | exact HK.out | apply KeepBut.set_ | apply keep_drewN | apply keep_drew | apply keep_alloc) | exact HK.out)))); (case aL => have := LMc12.out; omega); intro v128 w14 ho hb hg hat; rw [← Ny127.out] at ho; have n0_ := Aside0.mk (IsSPl1Cur.grown (by repeat (first | (with_reducible first | exact HI0.out | apply IsSPl1Cur.alloc | apply IsSPl1Cur.drewN | apply IsSPl1Cur.drew | apply IsSPl1Cur.set_1 | apply IsSPl1Cur.set_2) | exact HI0.out)) hg (IsSPl1Cur.own_ne HI0.out HO_3.out (by decide))); have n1_ := Aside0.mk (below_weaken (by repeat (first | (with_reducible first | exact HB.out | apply below_alloc | apply pw_below_drewN | apply below_drew1 | refine below_set ?_ (IsSPl1Cur.ge HI0.out)) | exact HB.out)) HL.out hb); have n2_ := Aside0.mk (KeepBut.trans (by repeat (first | (with_reducible first | exact HK.out | apply KeepBut.set_ | apply keep_drewN | apply keep_drew | apply keep_alloc) | exact HK.out)) (KeepBut.of_grown hg g) (Kd.R_base2 HO_3.out)); have n3_ := Aside0.mk (ho); clear HI0; clear HB; clear HK; clear HO_3; have HI0 := n0_; have HB := n1_; have HK := n2_; have HO129 := n3_; clear n0_ n1_ n2_ n3_; clear ho hb hg hat))
      go_roundg k2
      case measure => have := HJ3.out; have := HK2.out; omega
      case rel => exact ⟨(y127), (wrap64 (x4_2 - 1)), (t125), (t126), TF, H', ⟨by have := HJ3.out; have := HK2.out; omega⟩, RW HO129, ⟨by repeat (first | (with_reducible first | exact HI0.out | apply IsSPl1Cur.alloc | apply IsSPl1Cur.drewN | apply IsSPl1Cur.drew | apply IsSPl1Cur.set_1 | apply IsSPl1Cur.set_2) | exact HI0.out)⟩, ⟨by repeat (first | (with_reducible first | exact HK.out | apply KeepBut.set_ | apply keep_drewN | apply keep_drew | apply keep_alloc) | exact HK.out)⟩, ⟨by repeat (first | (with_reducible first | exact HB.out | apply below_alloc | apply pw_below_drewN | apply below_drew1 | refine below_set ?_ (IsSPl1Cur.ge HI0.out)) | exact HB.out)⟩⟩
     ·rw [if_neg c10] at H
      have c10b0 : decide (0 < x4_2) = false := decide_eq_false c10
      clear c10
      obtain ⟨⟨t130, t131, t132⟩, A15, H⟩ := bnd H
      try dsimp only at H
      by_cases c16 : t130 = 0
      ·rw [if_pos c16] at H
       have c16b0 : (t130 == 0) = true := beq_iff_eq.mpr c16
       have c16b1 : (t130 != 0) = false := bne_eq_false_iff_eq.mpr c16
       clear c16
       obtain ⟨y133, hy133⟩ : ∃ y_ : List Int, y_ = (([(-1), 50, 51] : List Int)) := ⟨_, rfl⟩
       replace H : ((spec_l1Cur_among.f s0_0 t131 t132 y133).bind fun bt136 => (if 0 < (x3_2.length : Int) then (some ((x3_2.set (0 : Int).toNat bt136.1), bt136.2.1, bt136.2.2)) else (none))) = some (r1, r2, r3) := by first | (rw [hy133]; with_reducible exact H) | (have H2_ := (Option.bind_some _ _).symm.trans H; rw [hy133]; with_reducible exact H2_) | (have H2_ := (Option.bind_some _ _).symm.trans H; with_reducible exact H2_) | with_reducible exact H | (rw [hy133]; exact H) | exact H
       have Ny133 := Aside0.mk hy133
       clear hy133
       obtain ⟨⟨t136, t137, t138⟩, A17, H⟩ := bnd H
       try dsimp only at H
       obtain ⟨c18, H⟩ := ifn H
       have c18b0 : decide (0 < (x3_2.length : Int)) = true := decide_eq_true c18
       have c18b1 : decide (0 < x3_2.length) = true := decide_eq_true (by omega)
       clear c18
       obtain ⟨y139, hy139⟩ : ∃ y_ : List Int, y_ = (x3_2.set (0 : Int).toNat t136) := ⟨_, rfl⟩
       replace H : (some (y139, t137, t138)) = some (r1, r2, r3) := by first | (rw [hy139]; with_reducible exact H) | (have H2_ := (Option.bind_some _ _).symm.trans H; rw [hy139]; with_reducible exact H2_) | (have H2_ := (Option.bind_some _ _).symm.trans H; with_reducible exact H2_) | with_reducible exact H | (rw [hy139]; exact H) | exact H
       have Ny139 := Aside0.mk hy139
       clear hy139
       simp only [Option.some.injEq, Prod.mk.injEq] at H
       obtain ⟨rfl, rfl, rfl⟩ := H
       go_wp2_with (first | ((with_reducible refine gate_callee (f := 81) rfl ?_); refine goesL_ (some 23) rfl rfl Try.func81 KR rfl #[.pointer (some ⟨g, 0, none⟩), .int .i64 30] rfl TA ?_; (with_reducible refine (spec_l1Cur_pick.calls g s0_0 x1001_2 x1002_2 30 t130 t131 t132 w0 _ ?side1 ?side2 A15.out).mono ?_); (case side1 => repeat (first | (with_reducible first | exact HI0.out | apply IsSPl1Cur.alloc | apply IsSPl1Cur.drewN | apply IsSPl1Cur.drew | apply IsSPl1Cur.set_1 | apply IsSPl1Cur.set_2) | exact HI0.out)); (case side2 => repeat (first | (with_reducible first | exact HB.out | apply below_alloc | apply pw_below_drewN | apply below_drew1 | refine below_set ?_ (IsSPl1Cur.ge HI0.out)) | exact HB.out)); rintro e w20 ⟨rfl, hi, hb, hk⟩; refine ⟨_, rfl, ?_⟩; replace HO_3 := Aside0.mk (Kd.R_mono (Kd.R_keep (IsSPl1Cur.apart (show IsSPl1Cur w0 _ g s0_0 x1001_2 x1002_2 from by repeat (first | (with_reducible first | exact HI0.out | apply IsSPl1Cur.alloc | apply IsSPl1Cur.drewN | apply IsSPl1Cur.drew | apply IsSPl1Cur.set_1 | apply IsSPl1Cur.set_2) | exact HI0.out)) (RW HO_3).out (by decide)) hk (fun _ h => h.2)) (fun _ h => h.1)); replace HK := Aside0.mk (KeepBut.trans (by repeat (first | (with_reducible first | exact HK.out | apply KeepBut.set_ | apply keep_drewN | apply keep_drew | apply keep_alloc) | exact HK.out)) hk (.inl rfl)); replace HB := Aside0.mk (hb); replace HI0 := Aside0.mk (hi); clear hb hk hi) | ((with_reducible refine gate_dst (N := 28) rfl ?_); refine Kd.R_lit (Kd.int .i64) _ 3 ?hg (N := 28) ?hd (xs := ([(-1), 50, 51] : List Int)) (inner := [.int .i64 (-1), .int .i64 50, .int .i64 51]) (ok := fun _ => True) (okp := fun _ => True) ?hr ?hp (fun _ hk => hk) trivial (Below.refl _ _) (Nat.le_refl _) (by simp) ?_; (case hd => rfl); (case hg => rfl); (case hr => first | (go_simp; done) | (go_simp; rfl)); (case hp => exact (Reps.one (show Kd.M (Kd.int .i64) _ _ _ (-1) [.int .i64 (-1)] from rfl) (Reps.one (show Kd.M (Kd.int .i64) _ _ _ 50 [.int .i64 50] from rfl) (Reps.one (show Kd.M (Kd.int .i64) _ _ _ 51 [.int .i64 51] from rfl) (Reps.none _ _))))); intro v134 w21 ho22 hb hg_ hnew_; clear hg_ hnew_; (first | rw [← Ny133.out] at ho22 | (simp only [Int.reduceToNat] at ho22; rw [← Ny133.out] at ho22)); have HO135 := Aside0.mk (Kd.R_lower (NW ho22 HO_3) (keep_size (w := w) (g := g) (row := none) (by repeat (first | (with_reducible first | exact HK.out | apply KeepBut.set_ | apply keep_drewN | apply keep_drew | apply keep_alloc) | exact HK.out)))); replace HO_3 := EL HO_3 ho22 hb; replace HK := Aside0.mk (KeepBut.trans (by repeat (first | (with_reducible first | exact HK.out | apply KeepBut.set_ | apply keep_drewN | apply keep_drew | apply keep_alloc) | exact HK.out)) (KeepBut.of_below hb g none) (.inl rfl)); replace HB := Aside0.mk (below_step (by repeat (first | (with_reducible first | exact HB.out | apply below_alloc | apply pw_below_drewN | apply below_drew1 | refine below_set ?_ (IsSPl1Cur.ge HI0.out)) | exact HB.out)) hb); replace HI0 := Aside0.mk (IsSPl1Cur.below (by repeat (first | (with_reducible first | exact HI0.out | apply IsSPl1Cur.alloc | apply IsSPl1Cur.drewN | apply IsSPl1Cur.drew | apply IsSPl1Cur.set_1 | apply IsSPl1Cur.set_2) | exact HI0.out)) hb); clear hb ho22; obtain ⟨Ao23, co23, eo23⟩ := Kd.R_slice HO135.out; subst eo23) | ((with_reducible refine gate_callee (f := 77) rfl ?_); refine goesL_ (some 29) rfl rfl Try.func77 KR rfl #[.pointer (some ⟨g, 0, none⟩), .slice Ao23 y133.length co23] rfl TA ?_; (with_reducible refine (spec_l1Cur_among.calls g s0_0 t131 t132 _ _ y133 t136 t137 t138 w0 _ ?side1 ?side2 ?side3 ?side4 ?side5 A17.out).mono ?_); (case side1 => repeat (first | (with_reducible first | exact HI0.out | apply IsSPl1Cur.alloc | apply IsSPl1Cur.drewN | apply IsSPl1Cur.drew | apply IsSPl1Cur.set_1 | apply IsSPl1Cur.set_2) | exact HI0.out)); (case side2 => repeat (first | (with_reducible first | exact HB.out | apply below_alloc | apply pw_below_drewN | apply below_drew1 | refine below_set ?_ (IsSPl1Cur.ge HI0.out)) | exact HB.out)); (case side3 => exact CW ((Kd.R_reads' HO135.out).2.2)); (case side4 => exact RI HO135); (case side5 => exact far_slice (IsSPl1Cur.own_ne HI0.out HO135.out (by decide))); rintro e w24 ⟨rfl, hi, hb, hk⟩; refine ⟨_, rfl, ?_⟩; replace HO_3 := Aside0.mk (Kd.R_mono (Kd.R_keep (IsSPl1Cur.apart (show IsSPl1Cur w0 _ g s0_0 t131 t132 from by repeat (first | (with_reducible first | exact HI0.out | apply IsSPl1Cur.alloc | apply IsSPl1Cur.drewN | apply IsSPl1Cur.drew | apply IsSPl1Cur.set_1 | apply IsSPl1Cur.set_2) | exact HI0.out)) (RW HO_3).out (by decide)) hk (fun _ h => h.2)) (fun _ h => h.1)); replace HO135 := Aside0.mk (Kd.R_mono (Kd.R_keep (IsSPl1Cur.apart (show IsSPl1Cur w0 _ g s0_0 t131 t132 from by repeat (first | (with_reducible first | exact HI0.out | apply IsSPl1Cur.alloc | apply IsSPl1Cur.drewN | apply IsSPl1Cur.drew | apply IsSPl1Cur.set_1 | apply IsSPl1Cur.set_2) | exact HI0.out)) (RW HO135).out (by decide)) hk (fun _ h => h.2)) (fun _ h => h.1)); replace HK := Aside0.mk (KeepBut.trans (by repeat (first | (with_reducible first | exact HK.out | apply KeepBut.set_ | apply keep_drewN | apply keep_drew | apply keep_alloc) | exact HK.out)) hk (.inl rfl)); replace HB := Aside0.mk (hb); replace HI0 := Aside0.mk (hi); clear hb hk hi; have p19 : 0 ≤ (0 : Int) := (by omega); have q19 : (0 : Int) < ((x3_2.length : Int) : Int) := TD; have qi19 : (0 < x3_2.length) = True := eq_true (by omega); obtain ⟨go19, co19, eo19, gb19, gl19, cl19, HG19⟩ := Kd.R_form HO_3.out (by omega); (first | cases eo19 | (injection eo19 with ea_ en_ ec_; (first | subst ea_ | (injection ea_ with ea_; subst ea_)); subst ec_; clear en_)); have GB19 := Aside0.mk gb19; have GG19 := Aside0.mk HG19; clear gb19 gl19 HG19; obtain ⟨hx19_0, hf19_0⟩ := Kd.R_celln 0 HO_3.out (0 : Int) p19 q19; (try rw [show ((0 : Int)).toNat = 0 from rfl] at hx19_0); (try simp only [Nat.reduceMul, Nat.zero_mul, Nat.zero_add, Nat.reduceAdd] at hx19_0); (try rw [show ((0 : Int)).toNat = 0 from rfl] at hf19_0); (try simp only [Nat.reduceMul, Nat.zero_mul, Nat.zero_add, Nat.reduceAdd] at hf19_0); replace p19 := eq_true p19; replace q19 := eq_true q19; have n_ := Aside0.mk (Kd.R_mono (ok' := (fun k_ => some k_ ≠ (.slice Ao23 y133.length co23 : Value).ownBlock)) HO_3.out (fun k_ hk => hk.2)); clear HO_3; have HO_3 := n_; clear n_; obtain ⟨hy25_, hz25_⟩ := Kd.R_celln 0 HO_3.out (0 : Int) (by omega) TD; (try simp only [Int.reduceToNat, Int.toNat_zero, Int.toNat_ofNat, Nat.reduceMul, Nat.zero_mul, Nat.zero_add] at hy25_ hz25_); (try rw [show ((0 : Int)).toNat = 0 from rfl] at hy25_); (try rw [show ((0 : Int)).toNat = 0 from rfl] at hz25_); have HP25 := Kd.R_putg HO_3.out (0 : Int) t136) | ((with_reducible refine gate_store (t := 3) (p := 30) rfl ?_); refine store_event (t := 3) (p := 30) (v := ?vo_w26) (w1 := (w24.setCell ⟨go19, (0 : Int).toNat, none⟩ (.int .i64 t136))) ?hg ?ho ?hn ?hr ?_; (case ho => rfl); (case hg => rfl); (case hn => rfl); (case hr => first | (go_simp; done) | (go_simp; rfl)); intro w26 hw; have hg : w24.grownBy w26 (some go19) := (by rw [hw]; exact HP25.2); have hp_ : Kd.R (Kd.int .i64) 3 w26 w.heap.size (fun k_ => some k_ ≠ (.slice Ao23 y133.length co23 : Value).ownBlock) (.slice (some ⟨go19, 0, none⟩) x3_2.length co19) y139 := (by rw [hw, Ny139.out]; exact HP25.1); clear HP25; replace HI0 := Aside0.mk (IsSPl1Cur.grown (by repeat (first | (with_reducible first | exact HI0.out | apply IsSPl1Cur.alloc | apply IsSPl1Cur.drewN | apply IsSPl1Cur.drew | apply IsSPl1Cur.set_1 | apply IsSPl1Cur.set_2) | exact HI0.out)) hg (IsSPl1Cur.own_ne HI0.out HO_3.out (by decide))); replace HO135 := Aside0.mk (Kd.R_after (v := (.slice (some ⟨go19, 0, none⟩) x3_2.length co19)) (v1 := (.slice (some ⟨go19, 0, none⟩) x3_2.length co19)) (ok := (fun _ => True)) (RW HO135).out hg (.inl rfl)); replace HB := Aside0.mk ((by rw [hw]; exact below_set (HB.out) (Nat.le_trans HL.out GB19.out) : Below w0.heap.size w0 w26)); replace HK := Aside0.mk (KeepBut.trans (by repeat (first | (with_reducible first | exact HK.out | apply KeepBut.set_ | apply keep_drewN | apply keep_drew | apply keep_alloc) | exact HK.out)) (KeepBut.of_grown hg g) (Kd.R_base2 HO_3.out)); replace HO_3 := Aside0.mk (hp_); clear hg hw hp_))
       go_ret
       exact ⟨_, TE, by (with_reducible repeat (first | apply Kd.R_alloc | apply Kd.R_drewN | apply Kd.R_drew)); exact Kd.R_mono HO_3.out (fun _ hk => trivial), by repeat (first | (with_reducible first | exact HI0.out | apply IsSPl1Cur.alloc | apply IsSPl1Cur.drewN | apply IsSPl1Cur.drew | apply IsSPl1Cur.set_1 | apply IsSPl1Cur.set_2) | exact HI0.out), by repeat (first | (with_reducible first | exact HB.out | apply below_alloc | apply pw_below_drewN | apply below_drew1 | refine below_set ?_ (IsSPl1Cur.ge HI0.out)) | exact HB.out), by repeat (first | (with_reducible first | exact HK.out | apply KeepBut.set_ | apply keep_drewN | apply keep_drew | apply keep_alloc) | exact HK.out)⟩
      ·rw [if_neg c16] at H
       have c16b0 : (t130 == 0) = false := beq_eq_false_iff_ne.mpr c16
       have c16b1 : (t130 != 0) = true := bne_iff_ne.mpr c16
       by_cases c27 : t130 = 1
       ·rw [if_pos c27] at H
        have c27b0 : (t130 == 1) = true := beq_iff_eq.mpr c27
        have c27b1 : (t130 != 1) = false := bne_eq_false_iff_eq.mpr c27
        clear c27
        obtain ⟨y140, hy140⟩ : ∃ y_ : List Int, y_ = (([0, 0] : List Int)) := ⟨_, rfl⟩
        replace H : (some (y140, t131, t132)) = some (r1, r2, r3) := by first | (rw [hy140]; with_reducible exact H) | (have H2_ := (Option.bind_some _ _).symm.trans H; rw [hy140]; with_reducible exact H2_) | (have H2_ := (Option.bind_some _ _).symm.trans H; with_reducible exact H2_) | with_reducible exact H | (rw [hy140]; exact H) | exact H
        have Ny140 := Aside0.mk hy140
        clear hy140
        simp only [Option.some.injEq, Prod.mk.injEq] at H
        obtain ⟨rfl, rfl, rfl⟩ := H
        go_wp2_with (first | ((with_reducible refine gate_callee (f := 81) rfl ?_); refine goesL_ (some 23) rfl rfl Try.func81 KR rfl #[.pointer (some ⟨g, 0, none⟩), .int .i64 30] rfl TA ?_; (with_reducible refine (spec_l1Cur_pick.calls g s0_0 x1001_2 x1002_2 30 t130 t131 t132 w0 _ ?side1 ?side2 A15.out).mono ?_); (case side1 => repeat (first | (with_reducible first | exact HI0.out | apply IsSPl1Cur.alloc | apply IsSPl1Cur.drewN | apply IsSPl1Cur.drew | apply IsSPl1Cur.set_1 | apply IsSPl1Cur.set_2) | exact HI0.out)); (case side2 => repeat (first | (with_reducible first | exact HB.out | apply below_alloc | apply pw_below_drewN | apply below_drew1 | refine below_set ?_ (IsSPl1Cur.ge HI0.out)) | exact HB.out)); rintro e w28 ⟨rfl, hi, hb, hk⟩; refine ⟨_, rfl, ?_⟩; replace HO_3 := Aside0.mk (Kd.R_mono (Kd.R_keep (IsSPl1Cur.apart (show IsSPl1Cur w0 _ g s0_0 x1001_2 x1002_2 from by repeat (first | (with_reducible first | exact HI0.out | apply IsSPl1Cur.alloc | apply IsSPl1Cur.drewN | apply IsSPl1Cur.drew | apply IsSPl1Cur.set_1 | apply IsSPl1Cur.set_2) | exact HI0.out)) (RW HO_3).out (by decide)) hk (fun _ h => h.2)) (fun _ h => h.1)); replace HK := Aside0.mk (KeepBut.trans (by repeat (first | (with_reducible first | exact HK.out | apply KeepBut.set_ | apply keep_drewN | apply keep_drew | apply keep_alloc) | exact HK.out)) hk (.inl rfl)); replace HB := Aside0.mk (hb); replace HI0 := Aside0.mk (hi); clear hb hk hi) | ((with_reducible refine gate_dst (N := 33) rfl ?_); refine Kd.R_lit (Kd.int .i64) _ 3 ?hg (N := 33) ?hd (xs := ([0, 0] : List Int)) (inner := [.int .i64 0, .int .i64 0]) (ok := fun _ => True) (okp := fun _ => True) ?hr ?hp (fun _ hk => hk) trivial (Below.refl _ _) (Nat.le_refl _) (by simp) ?_; (case hd => rfl); (case hg => rfl); (case hr => first | (go_simp; done) | (go_simp; rfl)); (case hp => exact (Reps.one (show Kd.M (Kd.int .i64) _ _ _ 0 [.int .i64 0] from rfl) (Reps.one (show Kd.M (Kd.int .i64) _ _ _ 0 [.int .i64 0] from rfl) (Reps.none _ _)))); intro v141 w29 ho30 hb hg_ hnew_; clear hg_ hnew_; (first | rw [← Ny140.out] at ho30 | (simp only [Int.reduceToNat] at ho30; rw [← Ny140.out] at ho30)); have HO142 := Aside0.mk (Kd.R_lower (NW ho30 HO_3) (keep_size (w := w) (g := g) (row := none) (by repeat (first | (with_reducible first | exact HK.out | apply KeepBut.set_ | apply keep_drewN | apply keep_drew | apply keep_alloc) | exact HK.out)))); replace HO_3 := EL HO_3 ho30 hb; replace HK := Aside0.mk (KeepBut.trans (by repeat (first | (with_reducible first | exact HK.out | apply KeepBut.set_ | apply keep_drewN | apply keep_drew | apply keep_alloc) | exact HK.out)) (KeepBut.of_below hb g none) (.inl rfl)); replace HB := Aside0.mk (below_step (by repeat (first | (with_reducible first | exact HB.out | apply below_alloc | apply pw_below_drewN | apply below_drew1 | refine below_set ?_ (IsSPl1Cur.ge HI0.out)) | exact HB.out)) hb); replace HI0 := Aside0.mk (IsSPl1Cur.below (by repeat (first | (with_reducible first | exact HI0.out | apply IsSPl1Cur.alloc | apply IsSPl1Cur.drewN | apply IsSPl1Cur.drew | apply IsSPl1Cur.set_1 | apply IsSPl1Cur.set_2) | exact HI0.out)) hb); clear hb ho30))
        go_ret
        exact ⟨_, TE, by (with_reducible repeat (first | apply Kd.R_alloc | apply Kd.R_drewN | apply Kd.R_drew)); exact Kd.R_mono HO142.out (fun _ hk => trivial), by repeat (first | (with_reducible first | exact HI0.out | apply IsSPl1Cur.alloc | apply IsSPl1Cur.drewN | apply IsSPl1Cur.drew | apply IsSPl1Cur.set_1 | apply IsSPl1Cur.set_2) | exact HI0.out), by repeat (first | (with_reducible first | exact HB.out | apply below_alloc | apply pw_below_drewN | apply below_drew1 | refine below_set ?_ (IsSPl1Cur.ge HI0.out)) | exact HB.out), by repeat (first | (with_reducible first | exact HK.out | apply KeepBut.set_ | apply keep_drewN | apply keep_drew | apply keep_alloc) | exact HK.out)⟩
       ·rw [if_neg c27] at H
        have c27b0 : (t130 == 1) = false := beq_eq_false_iff_ne.mpr c27
        have c27b1 : (t130 != 1) = true := bne_iff_ne.mpr c27
        simp only [Option.some.injEq, Prod.mk.injEq] at H
        obtain ⟨rfl, rfl, rfl⟩ := H
        go_wp2_with (first | ((with_reducible refine gate_callee (f := 81) rfl ?_); refine goesL_ (some 23) rfl rfl Try.func81 KR rfl #[.pointer (some ⟨g, 0, none⟩), .int .i64 30] rfl TA ?_; (with_reducible refine (spec_l1Cur_pick.calls g s0_0 x1001_2 x1002_2 30 t130 t131 t132 w0 _ ?side1 ?side2 A15.out).mono ?_); (case side1 => repeat (first | (with_reducible first | exact HI0.out | apply IsSPl1Cur.alloc | apply IsSPl1Cur.drewN | apply IsSPl1Cur.drew | apply IsSPl1Cur.set_1 | apply IsSPl1Cur.set_2) | exact HI0.out)); (case side2 => repeat (first | (with_reducible first | exact HB.out | apply below_alloc | apply pw_below_drewN | apply below_drew1 | refine below_set ?_ (IsSPl1Cur.ge HI0.out)) | exact HB.out)); rintro e w31 ⟨rfl, hi, hb, hk⟩; refine ⟨_, rfl, ?_⟩; replace HO_3 := Aside0.mk (Kd.R_mono (Kd.R_keep (IsSPl1Cur.apart (show IsSPl1Cur w0 _ g s0_0 x1001_2 x1002_2 from by repeat (first | (with_reducible first | exact HI0.out | apply IsSPl1Cur.alloc | apply IsSPl1Cur.drewN | apply IsSPl1Cur.drew | apply IsSPl1Cur.set_1 | apply IsSPl1Cur.set_2) | exact HI0.out)) (RW HO_3).out (by decide)) hk (fun _ h => h.2)) (fun _ h => h.1)); replace HK := Aside0.mk (KeepBut.trans (by repeat (first | (with_reducible first | exact HK.out | apply KeepBut.set_ | apply keep_drewN | apply keep_drew | apply keep_alloc) | exact HK.out)) hk (.inl rfl)); replace HB := Aside0.mk (hb); replace HI0 := Aside0.mk (hi); clear hb hk hi))
        go_ret
        exact ⟨_, TE, (RW HO_3).out, by repeat (first | (with_reducible first | exact HI0.out | apply IsSPl1Cur.alloc | apply IsSPl1Cur.drewN | apply IsSPl1Cur.drew | apply IsSPl1Cur.set_1 | apply IsSPl1Cur.set_2) | exact HI0.out), by repeat (first | (with_reducible first | exact HB.out | apply below_alloc | apply pw_below_drewN | apply below_drew1 | refine below_set ?_ (IsSPl1Cur.ge HI0.out)) | exact HB.out), by repeat (first | (with_reducible first | exact HK.out | apply KeepBut.set_ | apply keep_drewN | apply keep_drew | apply keep_alloc) | exact HK.out)⟩
end
section
/-! ### spec_DrawGoodWeights: function 79 -/
def spec_DrawGoodWeights.f (k : Nat) (l0 : List Int) : Option (List Int) := (spec_l1Cur_weights.f k l0 0 0).bind fun bt144 => (some bt144.1)
theorem spec_DrawGoodWeights.calls (k : Nat) (A0 : Option Addr) (c0 : Nat) (l0 : List Int) (r : List Int) (w : World) (hr0 : Kd.C (Kd.int .u8) w A0 l0.length l0) (hc0 : l0.length ≤ c0) (h : spec_DrawGoodWeights.f k l0 = some r) :
  Calls Try.prog 79 #[.slice A0 l0.length c0] w fun e w' => ∃ v0_ : Value, e = .returned (v0_) ∧ Kd.R (Kd.int .i64) 3 w' w.heap.size (fun _ => True) v0_ r ∧ Below w.heap.size w w' := by
 have hu93 := Try.underlying93
 have HR0 := Aside0.mk hr0
 have HC0 := Aside0.mk hc0
 clear hr0 hc0
 have HB := Aside0.mk (Below.refl w.heap.size w)
 have H : ((spec_l1Cur_weights.f k l0 0 0).bind fun bt144 => (some bt144.1)) = some r := h
 clear h
 obtain ⟨⟨t144, t147, t148⟩, A2, H⟩ := bnd H
 try dsimp only at H
 obtain rfl := Option.some.inj H
 go_enter Try.func79, Try.ntmps79
 go_wp2_with (first | ((with_reducible refine gate_dst (N := 6) rfl ?_); refine bE 6 #[.slice A0 l0.length c0, .int .i64 0, .int .u64 0] 93 ?_; intro gb143 hg w3 hbox hb; have HI143 := Aside0.mk ((⟨_, _, hbox, by rw [hg]; exact (below_size TB), HR0.out⟩ : IsSPl1Cur w w3 gb143 l0 0 0)); replace HB := BS hb; clear hb hbox hg) | ((with_reducible refine gate_callee (f := 76) rfl ?_); refine goesL_ (some 8) rfl rfl Try.func76 KR rfl #[.pointer (some ⟨gb143, 0, none⟩)] rfl TA ?_; (with_reducible refine (spec_l1Cur_weights.calls k gb143 l0 0 0 t144 t147 t148 w _ ?side1 ?side2 A2.out).mono ?_); (case side1 => repeat (first | (with_reducible first | exact HI143.out | apply IsSPl1Cur.alloc | apply IsSPl1Cur.drewN | apply IsSPl1Cur.drew | apply IsSPl1Cur.set_1 | apply IsSPl1Cur.set_2) | exact HI143.out)); (case side2 => repeat (first | (with_reducible first | exact HB.out | apply below_alloc | apply pw_below_drewN | apply below_drew1 | refine below_set ?_ (IsSPl1Cur.ge HI143.out)) | exact HB.out)); rintro e w4 ⟨v145, rfl, ho0, hi, hb, hk⟩; refine ⟨_, rfl, ?_⟩; have HO146 := Aside0.mk (Kd.R_lower ho0 (below_size (by repeat (first | (with_reducible first | exact HB.out | apply below_alloc | apply pw_below_drewN | apply below_drew1 | refine below_set ?_ (IsSPl1Cur.ge HI143.out)) | exact HB.out)))); replace HB := Aside0.mk (hb); replace HI143 := Aside0.mk (hi); clear hb hk hi; (try clear ho0)))
 go_ret
 exact ⟨_, TE, (RW HO146).out, by repeat (first | (with_reducible first | exact HB.out | apply below_alloc | apply pw_below_drewN | apply below_drew1 | refine below_set ?_ (IsSPl1Cur.ge HI143.out)) | exact HB.out)⟩
end
section
/-! ### spec_DrawAliasOf: function 51 -/
def spec_DrawAliasOf.f (k : Nat) (l0 : List Int) : Option (List Int) := (spec_DrawGoodWeights.f k l0).bind fun t149 => (some t149)
theorem spec_DrawAliasOf.calls (k : Nat) (A0 : Option Addr) (c0 : Nat) (l0 : List Int) (r : List Int) (w : World) (hr0 : Kd.C (Kd.int .u8) w A0 l0.length l0) (hc0 : l0.length ≤ c0) (h : spec_DrawAliasOf.f k l0 = some r) :
  Calls Try.prog 51 #[.slice A0 l0.length c0] w fun e w' => ∃ v0_ : Value, e = .returned (v0_) ∧ Kd.R (Kd.int .i64) 3 w' w.heap.size (fun _ => True) v0_ r ∧ Below w.heap.size w w' := by
 have HR0 := Aside0.mk hr0
 have HC0 := Aside0.mk hc0
 clear hr0 hc0
 have HB := Aside0.mk (Below.refl w.heap.size w)
 have H : ((spec_DrawGoodWeights.f k l0).bind fun t149 => (some t149)) = some r := h
 clear h
 obtain ⟨t149, A2, H⟩ := bnd H
 obtain rfl := Option.some.inj H
 go_enter Try.func51, Try.ntmps51
 go_wp2_with (first | ((with_reducible refine gate_callee (f := 79) rfl ?_); refine goesL_ (some 4) rfl rfl Try.func79 KR rfl #[.slice A0 l0.length c0] rfl TA ?_; (with_reducible refine (spec_DrawGoodWeights.calls k _ _ l0 t149 _ ?side1 ?side2 A2.out).mono ?_); (case side1 => exact CW (HR0.out)); (case side2 => exact HC0.out); rintro e w3 ⟨v150, rfl, ho0, hb⟩; refine ⟨_, rfl, ?_⟩; have HO151 := RL ho0; replace HB := BS hb; clear hb; (try clear ho0)))
 go_ret
 exact ⟨_, TE, (RW HO151).out, TB⟩
end
section
/-! ### impl_within: function 59 -/
def impl_within.f (a0 : Int) (a1 : Int) (a2 : Int) : Option (Bool) := if a0 ≥ a1 then (some (decide (a0 ≤ a2))) else (some false)
theorem impl_within.calls (a0 : Int) (a1 : Int) (a2 : Int) (r : Bool) (w : World) (h : impl_within.f a0 a1 a2 = some r) :
  Calls Try.prog 59 #[.int .i64 a0, .int .i64 a1, .int .i64 a2] w fun e w' => e = .returned (.bool r) ∧ Drawn0 w w' := by
 have H : (if a0 ≥ a1 then (some (decide (a0 ≤ a2))) else (some false)) = some r := h
 clear h
 by_cases c4 : a0 ≥ a1
 ·rw [if_pos c4] at H
  have c4b0 : decide (a1 ≤ a0) = true := decide_eq_true c4
  clear c4
  obtain rfl := Option.some.inj H
  go_enter Try.func59, Try.ntmps59
  go_wp2
  go_ret
  exact ⟨TF, TN⟩
 ·rw [if_neg c4] at H
  have c4b0 : decide (a1 ≤ a0) = false := decide_eq_false c4
  clear c4
  obtain rfl := Option.some.inj H
  go_enter Try.func59, Try.ntmps59
  go_wp2
  go_ret
  exact ⟨TF, TN⟩
end
section
/-! ### impl_GoodWeights_1: function 61 -/
def impl_GoodWeights_1.f (a0 : Int) : Option (Bool) := (impl_within.f a0 0 50).bind fun t152 => (some (!t152))
theorem impl_GoodWeights_1.calls (a0 : Int) (r : Bool) (w : World) (h : impl_GoodWeights_1.f a0 = some r) :
  Calls Try.prog 61 #[.int .i64 a0] w fun e w' => e = .returned (.bool r) ∧ Drawn0 w w' := by
 have H : ((impl_within.f a0 0 50).bind fun t152 => (some (!t152))) = some r := h
 clear h
 obtain ⟨t152, A2, H⟩ := bnd H
 obtain rfl := Option.some.inj H
 go_enter Try.func61, Try.ntmps61
 go_wp2_with (first | ((with_reducible refine gate_callee (f := 59) rfl ?_); refine goesL_ (some 4) rfl rfl Try.func59 KR rfl #[.int .i64 a0, .int .i64 0, .int .i64 50] rfl TA ?_; (with_reducible refine (impl_within.calls a0 0 50 t152 _ A2.out).mono ?_); rintro e w' ⟨rfl, ⟨nd, rfl⟩⟩; refine ⟨_, rfl, ?_⟩))
 go_ret
 exact ⟨TF, TN⟩
end
section
/-! ### slices_IndexFunc_int_int_GoodWeights_1: function 85 -/
def slices_IndexFunc_int_int_GoodWeights_1.l0 : Nat → List Int → Int → Int → Option (Int)
 | 0, _, _, _ => none
 | k + 1, x0, x7, x8 => if x8 < x7 then (if 0 ≤ x8 then (if x8 < (x0.length : Int) then ((impl_GoodWeights_1.f (rd x0 x8)).bind fun t154 => (if t154 = true then (some x8) else (slices_IndexFunc_int_int_GoodWeights_1.l0 k x0 x7 (wrap64 (x8 + 1))))) else (none)) else (none)) else (some (-1))
def slices_IndexFunc_int_int_GoodWeights_1.f (k : Nat) (l0 : List Int)  : Option (Int) := slices_IndexFunc_int_int_GoodWeights_1.l0 k l0 (l0.length : Int) 0
theorem slices_IndexFunc_int_int_GoodWeights_1.calls (k : Nat) (A0 : Option Addr) (c0 : Nat) (l0 : List Int)  (r : Int) (w : World) (hr0 : Kd.C (Kd.int .i64) w A0 l0.length l0) (hc0 : l0.length ≤ c0) (h : slices_IndexFunc_int_int_GoodWeights_1.f k l0 = some r) :
  Calls Try.prog 85 #[.slice A0 l0.length c0, .func (.func 61) #[] #[]] w fun e w' => e = .returned (.int .i64 r) ∧ Drawn0 w w' := by
 have HR0 := Aside0.mk hr0
 have HC0 := Aside0.mk hc0
 clear hr0 hc0
 have H : (slices_IndexFunc_int_int_GoodWeights_1.l0 k l0 (l0.length : Int) 0) = some r := h
 clear h
 have H' := Aside0.mk H
 clear H
 go_enter Try.func85, Try.ntmps85
 go_wp2
 go_loopg [8] k (fun kq v8 w' => ∃ (x8_1 : Int), v8 = .int .i64 x8_1 ∧ Aside0 (slices_IndexFunc_int_int_GoodWeights_1.l0 kq l0 (l0.length : Int) x8_1 = some r) ∧ Aside0 (kq ≤ k) ∧ Drawn0 w w')
 case atStart => exact ⟨(0), TF, H', ⟨Nat.le_refl _⟩, TN⟩
 case round =>
  clear H'
  obtain ⟨x8_1, rfl, HA, HK1, ⟨m1, rfl⟩⟩ := hrel
  cases gk with
  | zero => exact absurd HA.out (by simp [slices_IndexFunc_int_int_GoodWeights_1.l0])
  | succ k1 =>
   have H := HA.out
   clear HA
   simp only [slices_IndexFunc_int_int_GoodWeights_1.l0] at H
   by_cases c3 : x8_1 < (l0.length : Int)
   ·rw [if_pos c3] at H
    have c3b0 : decide (x8_1 < (l0.length : Int)) = true := decide_eq_true c3
    clear c3
    obtain ⟨c4, H⟩ := ifn H
    have c4b0 : decide (0 ≤ x8_1) = true := decide_eq_true c4
    clear c4
    obtain ⟨c5, H⟩ := ifn H
    have c5b0 : decide (x8_1 < (l0.length : Int)) = true := decide_eq_true c5
    clear c5
    obtain ⟨t154, A6, H⟩ := bnd H
    by_cases c7 : t154 = true
    ·subst c7
     replace H := ift H
     obtain rfl := Option.some.inj H
     have p153 : 0 ≤ (x8_1 : Int) := TD
     have q153 : x8_1 < (l0.length : Int) := TD
     obtain ⟨ad153, e153, hx153_0⟩ := Kd.at_int HR0.out x8_1 p153 q153
     cases e153
     replace p153 := eq_true p153
     replace q153 := eq_true q153
     go_wp2_with (first | (go_at_call 61; (with_reducible refine (impl_GoodWeights_1.calls (rd l0 x8_1) true _ A6.out).mono ?_); rintro e w' ⟨rfl, ⟨nd, rfl⟩⟩))
     go_ret
     exact ⟨TF, TN⟩
    ·replace c7 := Bool.eq_false_iff.mpr c7
     subst c7
     replace H := iff' H
     have H' := Aside0.mk H
     clear H
     have p153 : 0 ≤ (x8_1 : Int) := TD
     have q153 : x8_1 < (l0.length : Int) := TD
     obtain ⟨ad153, e153, hx153_0⟩ := Kd.at_int HR0.out x8_1 p153 q153
     cases e153
     replace p153 := eq_true p153
     replace q153 := eq_true q153
     go_wp2_with (first | (go_at_call 61; (with_reducible refine (impl_GoodWeights_1.calls (rd l0 x8_1) false _ A6.out).mono ?_); rintro e w' ⟨rfl, ⟨nd, rfl⟩⟩))
     go_roundg k1
     case measure => have := HK1.out; omega
     case rel => exact ⟨(wrap64 (x8_1 + 1)), TF, H', ⟨TM⟩, TN⟩
   ·rw [if_neg c3] at H
    have c3b0 : decide (x8_1 < (l0.length : Int)) = false := decide_eq_false c3
    clear c3
    obtain rfl := Option.some.inj H
    go_wp2
    go_ret
    exact ⟨TF, TN⟩
end
section
/-! ### slices_ContainsFunc_int_int_GoodWeights_1: function 60 -/
def slices_ContainsFunc_int_int_GoodWeights_1.f (k : Nat) (l0 : List Int)  : Option (Bool) := (slices_IndexFunc_int_int_GoodWeights_1.f k l0).bind fun t155 => (some (decide (t155 ≥ 0)))
theorem slices_ContainsFunc_int_int_GoodWeights_1.calls (k : Nat) (A0 : Option Addr) (c0 : Nat) (l0 : List Int)  (r : Bool) (w : World) (hr0 : Kd.C (Kd.int .i64) w A0 l0.length l0) (hc0 : l0.length ≤ c0) (h : slices_ContainsFunc_int_int_GoodWeights_1.f k l0 = some r) :
  Calls Try.prog 60 #[.slice A0 l0.length c0, .func (.func 61) #[] #[]] w fun e w' => e = .returned (.bool r) ∧ Drawn0 w w' := by
 have HR0 := Aside0.mk hr0
 have HC0 := Aside0.mk hc0
 clear hr0 hc0
 have H : ((slices_IndexFunc_int_int_GoodWeights_1.f k l0).bind fun t155 => (some (decide (t155 ≥ 0)))) = some r := h
 clear h
 obtain ⟨t155, A3, H⟩ := bnd H
 obtain rfl := Option.some.inj H
 go_enter Try.func60, Try.ntmps60
 go_wp2_with (first | ((with_reducible refine gate_callee (f := 85) rfl ?_); refine goesL_ (some 7) rfl rfl Try.func85 KR rfl #[.slice A0 l0.length c0, .func (.func 61) #[] #[]] rfl TA ?_; (with_reducible refine (slices_IndexFunc_int_int_GoodWeights_1.calls k _ _ l0  t155 _ ?side1 ?side2 A3.out).mono ?_); (case side1 => exact CW (HR0.out)); (case side2 => exact HC0.out); rintro e w' ⟨rfl, ⟨nd, rfl⟩⟩; refine ⟨_, rfl, ?_⟩))
 go_ret
 exact ⟨TF, TN⟩
end
section
/-! ### impl_totalOf: function 62 -/
def impl_totalOf.l0 : Nat → Int → List Int → Int → Int → Option (Int)
 | 0, _, _, _, _ => none
 | k + 1, x3, x6, x7, x8 => if x8 < x7 then (if 0 ≤ x8 then (if x8 < (x6.length : Int) then (impl_totalOf.l0 k (wrap64 (x3 + (rd x6 x8))) x6 x7 (wrap64 (x8 + 1))) else (none)) else (none)) else (some x3)
def impl_totalOf.f (k : Nat) (l0 : List Int) : Option (Int) := impl_totalOf.l0 k 0 l0 (l0.length : Int) 0
theorem impl_totalOf.calls (k : Nat) (A0 : Option Addr) (c0 : Nat) (l0 : List Int) (r : Int) (w : World) (hr0 : Kd.C (Kd.int .i64) w A0 l0.length l0) (hc0 : l0.length ≤ c0) (h : impl_totalOf.f k l0 = some r) :
  Calls Try.prog 62 #[.slice A0 l0.length c0] w fun e w' => e = .returned (.int .i64 r) ∧ Drawn0 w w' := by
 have HR0 := Aside0.mk hr0
 have HC0 := Aside0.mk hc0
 clear hr0 hc0
 have H : (impl_totalOf.l0 k 0 l0 (l0.length : Int) 0) = some r := h
 clear h
 have H' := Aside0.mk H
 clear H
 go_enter Try.func62, Try.ntmps62
 go_wp2
 go_loopg [3, 8] k (fun kq v3 v8 w' => ∃ (x3_1 : Int) (x8_1 : Int), v3 = .int .i64 x3_1 ∧ v8 = .int .i64 x8_1 ∧ Aside0 (impl_totalOf.l0 kq x3_1 l0 (l0.length : Int) x8_1 = some r) ∧ Aside0 (kq ≤ k) ∧ Drawn0 w w')
 case atStart => exact ⟨(0), (0), TF, TF, H', ⟨Nat.le_refl _⟩, TN⟩
 case round =>
  clear H'
  obtain ⟨x3_1, x8_1, rfl, rfl, HA, HK1, ⟨m1, rfl⟩⟩ := hrel
  cases gk with
  | zero => exact absurd HA.out (by simp [impl_totalOf.l0])
  | succ k1 =>
   have H := HA.out
   clear HA
   simp only [impl_totalOf.l0] at H
   by_cases c2 : x8_1 < (l0.length : Int)
   ·rw [if_pos c2] at H
    have c2b0 : decide (x8_1 < (l0.length : Int)) = true := decide_eq_true c2
    clear c2
    obtain ⟨c3, H⟩ := ifn H
    have c3b0 : decide (0 ≤ x8_1) = true := decide_eq_true c3
    clear c3
    obtain ⟨c4, H⟩ := ifn H
    have c4b0 : decide (x8_1 < (l0.length : Int)) = true := decide_eq_true c4
    clear c4
    have H' := Aside0.mk H
    clear H
    have p156 : 0 ≤ (x8_1 : Int) := TD
    have q156 : x8_1 < (l0.length : Int) := TD
    obtain ⟨ad156, e156, hx156_0⟩ := Kd.at_int HR0.out x8_1 p156 q156
    cases e156
    replace p156 := eq_true p156
    replace q156 := eq_true q156
    go_wp2
    go_roundg k1
    case measure => have := HK1.out; omega
    case rel => exact ⟨(wrap64 (x3_1 + (rd l0 x8_1))), (wrap64 (x8_1 + 1)), TF, TF, H', ⟨TM⟩, TN⟩
   ·rw [if_neg c2] at H
    have c2b0 : decide (x8_1 < (l0.length : Int)) = false := decide_eq_false c2
    clear c2
    obtain rfl := Option.some.inj H
    go_wp2
    go_ret
    exact ⟨TF, TN⟩
end
section
/-! ### impl_GoodWeights: function 17 -/
def impl_GoodWeights.f (k : Nat) (l0 : List Int) : Option (Bool) := (impl_within.f (l0.length : Int) 1 12).bind fun t157 => (if t157 = true then ((slices_ContainsFunc_int_int_GoodWeights_1.f k l0).bind fun t158 => (if t158 = true then (some false) else ((impl_totalOf.f k l0).bind fun t159 => (some (decide (t159 > 0)))))) else (some false))
theorem impl_GoodWeights.calls (k : Nat) (A0 : Option Addr) (c0 : Nat) (l0 : List Int) (r : Bool) (w : World) (hr0 : Kd.C (Kd.int .i64) w A0 l0.length l0) (hc0 : l0.length ≤ c0) (h : impl_GoodWeights.f k l0 = some r) :
  Calls Try.prog 17 #[.slice A0 l0.length c0] w fun e w' => e = .returned (.bool r) ∧ Drawn0 w w' := by
 have HR0 := Aside0.mk hr0
 have HC0 := Aside0.mk hc0
 clear hr0 hc0
 have H : ((impl_within.f (l0.length : Int) 1 12).bind fun t157 => (if t157 = true then ((slices_ContainsFunc_int_int_GoodWeights_1.f k l0).bind fun t158 => (if t158 = true then (some false) else ((impl_totalOf.f k l0).bind fun t159 => (some (decide (t159 > 0)))))) else (some false))) = some r := h
 clear h
 obtain ⟨t157, A2, H⟩ := bnd H
 by_cases c3 : t157 = true
 ·subst c3
  replace H := ift H
  obtain ⟨t158, A4, H⟩ := bnd H
  by_cases c5 : t158 = true
  ·subst c5
   replace H := ift H
   obtain rfl := Option.some.inj H
   go_enter Try.func17, Try.ntmps17
   go_wp2_with (first | ((with_reducible refine gate_callee (f := 59) rfl ?_); refine goesL_ (some 5) rfl rfl Try.func59 KR rfl #[.int .i64 (l0.length : Int), .int .i64 1, .int .i64 12] rfl TA ?_; (with_reducible refine (impl_within.calls (l0.length : Int) 1 12 true _ A2.out).mono ?_); rintro e w' ⟨rfl, ⟨nd, rfl⟩⟩; refine ⟨_, rfl, ?_⟩) | (go_at_call 60; (with_reducible refine (slices_ContainsFunc_int_int_GoodWeights_1.calls k _ _ l0  true _ ?side1 ?side2 A4.out).mono ?_); (case side1 => exact CW (HR0.out)); (case side2 => exact HC0.out); rintro e w' ⟨rfl, ⟨nd, rfl⟩⟩))
   go_ret
   exact ⟨TF, TN⟩
  ·replace c5 := Bool.eq_false_iff.mpr c5
   subst c5
   replace H := iff' H
   obtain ⟨t159, A6, H⟩ := bnd H
   obtain rfl := Option.some.inj H
   go_enter Try.func17, Try.ntmps17
   go_wp2_with (first | ((with_reducible refine gate_callee (f := 59) rfl ?_); refine goesL_ (some 5) rfl rfl Try.func59 KR rfl #[.int .i64 (l0.length : Int), .int .i64 1, .int .i64 12] rfl TA ?_; (with_reducible refine (impl_within.calls (l0.length : Int) 1 12 true _ A2.out).mono ?_); rintro e w' ⟨rfl, ⟨nd, rfl⟩⟩; refine ⟨_, rfl, ?_⟩) | (go_at_call 60; (with_reducible refine (slices_ContainsFunc_int_int_GoodWeights_1.calls k _ _ l0  false _ ?side1 ?side2 A4.out).mono ?_); (case side1 => exact CW (HR0.out)); (case side2 => exact HC0.out); rintro e w' ⟨rfl, ⟨nd, rfl⟩⟩) | (go_at_call 62; (with_reducible refine (impl_totalOf.calls k _ _ l0 t159 _ ?side1 ?side2 A6.out).mono ?_); (case side1 => exact CW (HR0.out)); (case side2 => exact HC0.out); rintro e w' ⟨rfl, ⟨nd, rfl⟩⟩))
   go_ret
   exact ⟨TF, TN⟩
 ·replace c3 := Bool.eq_false_iff.mpr c3
  subst c3
  replace H := iff' H
  obtain rfl := Option.some.inj H
  go_enter Try.func17, Try.ntmps17
  go_wp2_with (first | ((with_reducible refine gate_callee (f := 59) rfl ?_); refine goesL_ (some 5) rfl rfl Try.func59 KR rfl #[.int .i64 (l0.length : Int), .int .i64 1, .int .i64 12] rfl TA ?_; (with_reducible refine (impl_within.calls (l0.length : Int) 1 12 false _ A2.out).mono ?_); rintro e w' ⟨rfl, ⟨nd, rfl⟩⟩; refine ⟨_, rfl, ?_⟩))
  go_ret
  exact ⟨TF, TN⟩
end
section
/-! ### impl_aliasOf_1: function 88 -/
def impl_aliasOf_1.f (a0 : Int) (a1_0 : Int) : Option (Bool) := some (decide (a0 > a1_0))
theorem impl_aliasOf_1.calls (a0 : Int) (g1_ : Nat) (a1_0 : Int) (r : Bool) (w : World) (hkg1_ : w.heap[g1_]? = some (.cells #[.int .i64 a1_0] 3 (0, 0))) (h : impl_aliasOf_1.f a0 a1_0 = some r) :
  Calls Try.prog 88 #[.int .i64 a0, .pointer (some ⟨g1_, 0, none⟩)] w fun e w' => e = .returned (.bool r) ∧ Drawn0 w w' := by
 have BKrg1_ := Aside0.mk hkg1_
 clear hkg1_
 have H : (some (decide (a0 > a1_0))) = some r := h
 clear h
 obtain rfl := Option.some.inj H
 have hcz3 := cz1 BKrg1_
 go_enter Try.func88, Try.ntmps88
 go_wp2
 go_ret
 exact ⟨TF, TN⟩
end
section
/-! ### slices_IndexFunc_int_int_aliasOf_1: function 85 -/
def slices_IndexFunc_int_int_aliasOf_1.l0 : Nat → List Int → Int → Int → Int → Option (Int)
 | 0, _, _, _, _ => none
 | k + 1, x0, x7, x8, x59000 => if x8 < x7 then (if 0 ≤ x8 then (if x8 < (x0.length : Int) then ((impl_aliasOf_1.f (rd x0 x8) x59000).bind fun t161 => (if t161 = true then (some x8) else (slices_IndexFunc_int_int_aliasOf_1.l0 k x0 x7 (wrap64 (x8 + 1)) x59000))) else (none)) else (none)) else (some (-1))
def slices_IndexFunc_int_int_aliasOf_1.f (k : Nat) (l0 : List Int) (a1_0 : Int) : Option (Int) := slices_IndexFunc_int_int_aliasOf_1.l0 k l0 (l0.length : Int) 0 a1_0
theorem slices_IndexFunc_int_int_aliasOf_1.calls (k : Nat) (A0 : Option Addr) (c0 : Nat) (l0 : List Int) (g1_0_ : Nat) (a1_0 : Int) (r : Int) (w : World) (hr0 : Kd.C (Kd.int .i64) w A0 l0.length l0) (hc0 : l0.length ≤ c0) (hkg1_0_ : w.heap[g1_0_]? = some (.cells #[.int .i64 a1_0] 3 (0, 0))) (h : slices_IndexFunc_int_int_aliasOf_1.f k l0 a1_0 = some r) :
  Calls Try.prog 85 #[.slice A0 l0.length c0, .func (.func 88) #[] #[.pointer (some ⟨g1_0_, 0, none⟩)]] w fun e w' => e = .returned (.int .i64 r) ∧ Drawn0 w w' := by
 have HR0 := Aside0.mk hr0
 have HC0 := Aside0.mk hc0
 clear hr0 hc0
 have BKrg1_0_ := Aside0.mk hkg1_0_
 clear hkg1_0_
 have H : (slices_IndexFunc_int_int_aliasOf_1.l0 k l0 (l0.length : Int) 0 a1_0) = some r := h
 clear h
 have H' := Aside0.mk H
 clear H
 go_enter Try.func85, Try.ntmps85
 go_wp2
 go_loopg [8] k (fun kq v8 w' => ∃ (x8_1 : Int), v8 = .int .i64 x8_1 ∧ Aside0 (slices_IndexFunc_int_int_aliasOf_1.l0 kq l0 (l0.length : Int) x8_1 a1_0 = some r) ∧ Aside0 (kq ≤ k) ∧ Aside0 (w'.heap[g1_0_]? = some (.cells #[.int .i64 a1_0] 3 (0, 0))) ∧ Drawn0 w w')
 case atStart => exact ⟨(0), TF, H', ⟨Nat.le_refl _⟩, ⟨BKrg1_0_.out⟩, TN⟩
 case round =>
  clear H'
  obtain ⟨x8_1, rfl, HA, HK1, BKrg1_0_, ⟨m1, rfl⟩⟩ := hrel
  cases gk with
  | zero => exact absurd HA.out (by simp [slices_IndexFunc_int_int_aliasOf_1.l0])
  | succ k1 =>
   have H := HA.out
   clear HA
   simp only [slices_IndexFunc_int_int_aliasOf_1.l0] at H
   by_cases c3 : x8_1 < (l0.length : Int)
   ·rw [if_pos c3] at H
    have c3b0 : decide (x8_1 < (l0.length : Int)) = true := decide_eq_true c3
    clear c3
    obtain ⟨c4, H⟩ := ifn H
    have c4b0 : decide (0 ≤ x8_1) = true := decide_eq_true c4
    clear c4
    obtain ⟨c5, H⟩ := ifn H
    have c5b0 : decide (x8_1 < (l0.length : Int)) = true := decide_eq_true c5
    clear c5
    obtain ⟨t161, A6, H⟩ := bnd H
    by_cases c7 : t161 = true
    ·subst c7
     replace H := ift H
     obtain rfl := Option.some.inj H
     have p160 : 0 ≤ (x8_1 : Int) := TD
     have q160 : x8_1 < (l0.length : Int) := TD
     obtain ⟨ad160, e160, hx160_0⟩ := Kd.at_int HR0.out x8_1 p160 q160
     cases e160
     replace p160 := eq_true p160
     replace q160 := eq_true q160
     go_wp2_with (first | (go_at_call 88; (with_reducible refine (impl_aliasOf_1.calls (rd l0 x8_1) g1_0_ a1_0 true _ ?side1 A6.out).mono ?_); (case side1 => exact (KW BKrg1_0_).out); rintro e w' ⟨rfl, ⟨nd, rfl⟩⟩))
     go_ret
     exact ⟨TF, TN⟩
    ·replace c7 := Bool.eq_false_iff.mpr c7
     subst c7
     replace H := iff' H
     have H' := Aside0.mk H
     clear H
     have p160 : 0 ≤ (x8_1 : Int) := TD
     have q160 : x8_1 < (l0.length : Int) := TD
     obtain ⟨ad160, e160, hx160_0⟩ := Kd.at_int HR0.out x8_1 p160 q160
     cases e160
     replace p160 := eq_true p160
     replace q160 := eq_true q160
     go_wp2_with (first | (go_at_call 88; (with_reducible refine (impl_aliasOf_1.calls (rd l0 x8_1) g1_0_ a1_0 false _ ?side1 A6.out).mono ?_); (case side1 => exact (KW BKrg1_0_).out); rintro e w' ⟨rfl, ⟨nd, rfl⟩⟩))
     go_roundg k1
     case measure => have := HK1.out; omega
     case rel => exact ⟨(wrap64 (x8_1 + 1)), TF, H', ⟨TM⟩, ⟨BKrg1_0_.out⟩, TN⟩
   ·rw [if_neg c3] at H
    have c3b0 : decide (x8_1 < (l0.length : Int)) = false := decide_eq_false c3
    clear c3
    obtain rfl := Option.some.inj H
    go_wp2
    go_ret
    exact ⟨TF, TN⟩
end
section
/-! ### impl_aliasOf: function 75 -/
mutual
def impl_aliasOf.l0 : Nat → List Int → List Int → List (S_Column) → List Int → Int → Int → Int → Option ((List (S_Column)))
 | 0, _, _, _, _, _, _, _ => none
 | k + 1, x0, x4, x5, x17, x18, x19, x164000 => if x19 < x18 then (if 0 ≤ x19 then (if x19 < (x17.length : Int) then (if x4.length < 17592186044416 then (if x5.length < 8796093022208 then (impl_aliasOf.l0 k x0 (x4 ++ [wrap64 ((rd x17 x19) * (x0.length : Int))]) (x5 ++ [(⟨x164000, x19⟩ : S_Column)]) x17 x18 (wrap64 (x19 + 1)) x164000) else (none)) else (none)) else (none)) else (none)) else (if 0 ≤ (x0.length : Int) then (if ((x0.length : Int) : Int).toNat ≤ 281474976710656 then (impl_aliasOf.l1 k x4 x5 (List.replicate ((x0.length : Int) : Int).toNat false) x164000) else (none)) else (none))
def impl_aliasOf.l1 : Nat → List Int → List (S_Column) → List Bool → Int → Option ((List (S_Column)))
 | 0, _, _, _, _ => none
 | k + 1, x4, x5, x8, x164000 => impl_aliasOf.l2 k x4 x5 x8 (-1) x4 (x4.length : Int) 0 x164000
def impl_aliasOf.l2 : Nat → List Int → List (S_Column) → List Bool → Int → List Int → Int → Int → Int → Option ((List (S_Column)))
 | 0, _, _, _, _, _, _, _, _ => none
 | k + 1, x4, x5, x8, x9, x41, x42, x43, x164000 => if x43 < x42 then (if 0 ≤ x43 then (if x43 < (x41.length : Int) then (if x43 < (x8.length : Int) then (if rdOf false x8 x43 = true then (impl_aliasOf.l2 k x4 x5 x8 x9 x41 x42 (wrap64 (x43 + 1)) x164000) else (if (rd x41 x43) < x164000 then (if x43 < 0 then (some x5) else ((slices_IndexFunc_int_int_aliasOf_1.f k x4 x164000).bind fun t182 => (if x43 < (x4.length : Int) then (if x43 < (x5.length : Int) then (if 0 ≤ t182 then (if t182 < (x4.length : Int) then (impl_aliasOf.l1 k (x4.set (t182 : Int).toNat (wrap64 ((rd x4 t182) - (wrap64 (x164000 - (rd x4 x43)))))) (x5.set (x43 : Int).toNat (⟨rd x4 x43, t182⟩ : S_Column)) (x8.set (x43 : Int).toNat true) x164000) else (none)) else (none)) else (none)) else (none)))) else (impl_aliasOf.l2 k x4 x5 x8 x9 x41 x42 (wrap64 (x43 + 1)) x164000))) else (none)) else (none)) else (none)) else (if x9 < 0 then (some x5) else ((slices_IndexFunc_int_int_aliasOf_1.f k x4 x164000).bind fun t189 => (if 0 ≤ x9 then (if x9 < (x4.length : Int) then (if x9 < (x5.length : Int) then (if 0 ≤ t189 then (if t189 < (x4.length : Int) then (if x9 < (x8.length : Int) then (impl_aliasOf.l1 k (x4.set (t189 : Int).toNat (wrap64 ((rd x4 t189) - (wrap64 (x164000 - (rd x4 x9)))))) (x5.set (x9 : Int).toNat (⟨rd x4 x9, t189⟩ : S_Column)) (x8.set (x9 : Int).toNat true) x164000) else (none)) else (none)) else (none)) else (none)) else (none)) else (none))))
end
def impl_aliasOf.f (k : Nat) (l0 : List Int) : Option ((List (S_Column))) := (impl_totalOf.f k l0).bind fun t162 => (impl_aliasOf.l0 k l0 (([] : List Int)) (([] : List (S_Column))) l0 (l0.length : Int) 0 t162)
def impl_aliasOf.T22 : Bool × List (List Nat × List Nat) := (true, [([], []), ([], []), ([0, 1], [0, 1]), ([2], [2]), ([], []), ([], []), ([], []), ([5, 6], [5, 6]), ([7], [7]), ([4, 8], [4, 8]), ([3, 9], [3, 9]), ([0, 1, 0, 1, 2, 3, 4, 5, 6, 7, 8, 9, 10], [0, 1]), ([11, 10, 0, 1, 2, 3, 4, 5, 6, 7, 8, 9, 10], [10, 11])])
def impl_aliasOf.B22 : List Nat := [0, 0, 3, 7, 0, 0, 0, 96, 224, 496, 1023, 2047, 4095]
theorem impl_aliasOf.tab22 : rtab .any (opsOf Try.f75 22) = impl_aliasOf.T22 := by kernel_rfl
theorem impl_aliasOf.bits22 : waitsOk impl_aliasOf.T22.2 impl_aliasOf.B22 = true := by kernel_rfl
theorem impl_aliasOf.calls (k : Nat) (A0 : Option Addr) (c0 : Nat) (l0 : List Int) (r : List (S_Column)) (w : World) (hr0 : Kd.C (Kd.int .i64) w A0 l0.length l0) (hc0 : l0.length ≤ c0) (h : impl_aliasOf.f k l0 = some r) :
  Calls Try.prog 75 #[.slice A0 l0.length c0] w fun e w' => ∃ v0_ : Value, e = .returned (v0_) ∧ Kd.R k_Column 65 w' w.heap.size (fun _ => True) v0_ r ∧ Below w.heap.size w w' := by
 have hu65 := Try.underlying65
 have HR0 := Aside0.mk hr0
 have HC0 := Aside0.mk hc0
 clear hr0 hc0
 have HB := Aside0.mk (Below.refl w.heap.size w)
 have H : ((impl_totalOf.f k l0).bind fun t162 => (impl_aliasOf.l0 k l0 (([] : List Int)) (([] : List (S_Column))) l0 (l0.length : Int) 0 t162)) = some r := h
 clear h
 obtain ⟨t162, A2, H⟩ := bnd H
 obtain ⟨y164, hy164⟩ : ∃ y_ : List Int, y_ = (([] : List Int)) := ⟨_, rfl⟩
 replace H : (impl_aliasOf.l0 k l0 y164 (([] : List (S_Column))) l0 (l0.length : Int) 0 t162) = some r := by first | (rw [hy164]; with_reducible exact H) | (have H2_ := (Option.bind_some _ _).symm.trans H; rw [hy164]; with_reducible exact H2_) | (have H2_ := (Option.bind_some _ _).symm.trans H; with_reducible exact H2_) | with_reducible exact H | (rw [hy164]; exact H) | exact H
 have Ny164 := Aside0.mk hy164
 clear hy164
 obtain ⟨y167, hy167⟩ : ∃ y_ : List (S_Column), y_ = (([] : List (S_Column))) := ⟨_, rfl⟩
 replace H : (impl_aliasOf.l0 k l0 y164 y167 l0 (l0.length : Int) 0 t162) = some r := by first | (rw [hy167]; with_reducible exact H) | (have H2_ := (Option.bind_some _ _).symm.trans H; rw [hy167]; with_reducible exact H2_) | (have H2_ := (Option.bind_some _ _).symm.trans H; with_reducible exact H2_) | with_reducible exact H | (rw [hy167]; exact H) | exact H
 have Ny167 := Aside0.mk hy167
 clear hy167
 have H' := Aside0.mk H
 clear H
 go_enter Try.func75, Try.ntmps75
 go_wp2_with (first | ((with_reducible refine gate_callee (f := 62) rfl ?_); refine goesL_ (some 14) rfl rfl Try.func62 KR rfl #[.slice A0 l0.length c0] rfl TA ?_; (with_reducible refine (impl_totalOf.calls k _ _ l0 t162 _ ?side1 ?side2 A2.out).mono ?_); (case side1 => exact CW (HR0.out)); (case side2 => exact HC0.out); rintro e w' ⟨rfl, ⟨nd, rfl⟩⟩; refine ⟨_, rfl, ?_⟩) | ((with_reducible refine gate_dst (N := 3) rfl ?_); refine bE 3 #[.int .i64 0] 3 ?_; intro gb163 hg w3 hbox hb; have BK163 := Aside0.mk (hbox); have GE163 := bG hg; replace HB := BS hb; clear hb hbox hg; have hcz4 := cz1 BK163) | ((with_reducible refine gate_dst (N := 15) rfl ?_); refine Kd.R_lit (Kd.int .i64) _ 3 ?hg (N := 15) ?hd (xs := ([] : List Int)) (inner := []) (ok := fun _ => True) (okp := fun _ => True) ?hr ?hp (fun _ hk => hk) trivial (Below.refl _ _) (Nat.le_refl _) (by simp) ?_; (case hd => rfl); (case hg => rfl); (case hr => first | (go_simp; done) | (go_simp; rfl)); (case hp => exact (Reps.none _ _)); intro v165 w5 ho6 hb hg_ hnew_; clear hg_ hnew_; (first | rw [← Ny164.out] at ho6 | (simp only [Int.reduceToNat] at ho6; rw [← Ny164.out] at ho6)); have HO166 := Aside0.mk (Kd.R_lower (Kd.R_newB ho6 (g := gb163) (o := .cells #[.int .i64 t162] 3 (0, 0)) (by (with_reducible repeat (first | refine blk_drewN ?_ _ | refine blk_drew ?_ | refine blk_alloc ?_ _)); refine blk_put (cs := #[.int .i64 0]) ?_ 0 _ rfl; (with_reducible repeat (first | refine blk_drewN ?_ _ | refine blk_drew ?_ | refine blk_alloc ?_ _)); exact BK163.out)) (below_size TB)); replace BK163 := KP BK163 #[.int .i64 t162] hb; replace HB := BS hb; clear hb ho6) | ((with_reducible refine gate_dst (N := 16) rfl ?_); refine Kd.R_lit k_Column _ 65 ?hg (N := 16) ?hd (xs := ([] : List (S_Column))) (inner := []) (ok := fun _ => True) (okp := fun _ => True) ?hr ?hp (fun _ hk => hk) trivial (Below.refl _ _) (Nat.le_refl _) (by simp) ?_; (case hd => rfl); (case hg => rfl); (case hr => first | (go_simp; done) | (go_simp; rfl)); (case hp => exact (Reps.none _ _)); intro v168 w7 ho8 hb hg_ hnew_; clear hg_ hnew_; (first | rw [← Ny167.out] at ho8 | (simp only [Int.reduceToNat] at ho8; rw [← Ny167.out] at ho8)); replace HO166 := RB HO166 hb; have HO169 := RL ho8; replace BK163 := KB BK163 hb; replace HB := BS hb; clear hb ho8))
 go_loopg [4, 5, 19] k (fun kq v4 v5 v19 w' => ∃ (x4_1 : List Int) (x5_1 : List (S_Column)) (x19_1 : Int), v19 = .int .i64 x19_1 ∧ Aside0 (impl_aliasOf.l0 kq l0 x4_1 x5_1 l0 (l0.length : Int) x19_1 t162 = some r) ∧ Aside0 (kq ≤ k) ∧ Aside0 (Kd.R (Kd.int .i64) 3 w' w.heap.size (fun k_ => k_ ≠ gb163) v4 x4_1) ∧ Aside0 (Kd.R k_Column 65 w' w.heap.size (fun _ => True) v5 x5_1) ∧ Aside0 (w'.heap[gb163]? = some (.cells #[.int .i64 t162] 3 (0, 0))) ∧ Aside0 (Below w.heap.size w w'))
 case atStart => exact ⟨(y164), (y167), (0), TF, H', ⟨Nat.le_refl _⟩, MO HO166, RW HO169, KW BK163, ⟨TB⟩⟩
 case round =>
  clear H'
  obtain ⟨x4_1, x5_1, x19_1, rfl, HA, HK1, HO_4, HO_5, BK163, HB⟩ := hrel
  cases gk with
  | zero => exact absurd HA.out (by simp [impl_aliasOf.l0])
  | succ k1 =>
   have H := HA.out
   clear HA
   simp only [impl_aliasOf.l0] at H
   by_cases c9 : x19_1 < (l0.length : Int)
   ·rw [if_pos c9] at H
    have c9b0 : decide (x19_1 < (l0.length : Int)) = true := decide_eq_true c9
    clear c9
    obtain ⟨c10, H⟩ := ifn H
    have c10b0 : decide (0 ≤ x19_1) = true := decide_eq_true c10
    clear c10
    obtain ⟨c11, H⟩ := ifn H
    have c11b0 : decide (x19_1 < (l0.length : Int)) = true := decide_eq_true c11
    clear c11
    obtain ⟨c12, H⟩ := ifn H
    have LMc12 := Aside0.mk c12
    clear c12
    obtain ⟨y171, hy171⟩ : ∃ y_ : List Int, y_ = (x4_1 ++ [wrap64 ((rd l0 x19_1) * (l0.length : Int))]) := ⟨_, rfl⟩
    replace H : (if x5_1.length < 8796093022208 then (impl_aliasOf.l0 k1 l0 y171 (x5_1 ++ [(⟨t162, x19_1⟩ : S_Column)]) l0 (l0.length : Int) (wrap64 (x19_1 + 1)) t162) else (none)) = some r := by first | (rw [hy171]; with_reducible exact H) | (have H2_ := (Option.bind_some _ _).symm.trans H; rw [hy171]; with_reducible exact H2_) | (have H2_ := (Option.bind_some _ _).symm.trans H; with_reducible exact H2_) | with_reducible exact H | (rw [hy171]; exact H) | exact H
    have Ny171 := Aside0.mk hy171
    clear hy171
    obtain ⟨c13, H⟩ := ifn H
    have LMc13 := Aside0.mk c13
    clear c13
    obtain ⟨y174, hy174⟩ : ∃ y_ : List (S_Column), y_ = (x5_1 ++ [(⟨t162, x19_1⟩ : S_Column)]) := ⟨_, rfl⟩
    replace H : (impl_aliasOf.l0 k1 l0 y171 y174 l0 (l0.length : Int) (wrap64 (x19_1 + 1)) t162) = some r := by first | (rw [hy174]; with_reducible exact H) | (have H2_ := (Option.bind_some _ _).symm.trans H; rw [hy174]; with_reducible exact H2_) | (have H2_ := (Option.bind_some _ _).symm.trans H; with_reducible exact H2_) | with_reducible exact H | (rw [hy174]; exact H) | exact H
    have Ny174 := Aside0.mk hy174
    clear hy174
    have H' := Aside0.mk H
    clear H
    have p170 : 0 ≤ (x19_1 : Int) := TD
    have q170 : x19_1 < (l0.length : Int) := TD
    obtain ⟨ad170, e170, hx170_0⟩ := Kd.at_int (Kd.C_below HR0.out HB.out) x19_1 p170 q170
    cases e170
    replace p170 := eq_true p170
    replace q170 := eq_true q170
    go_wp2_with (first | ((with_reducible refine gate_builtin (b := .append) (xs := #[.tmp 24, .tmp 29]) rfl ?_); at_builtin; refine Kd.R_append (Kd.int .i64) (w0 := w) w.heap.size rfl (.tmp 24) (.tmp 29) 22 3 (.int .i64 0) 8 rfl Try.underlying22 info3 rfl (by decide) (by omega) u4 x4_1 (wrap64 ((rd l0 x19_1) * (l0.length : Int))) [.int .i64 (wrap64 ((rd l0 x19_1) * (l0.length : Int)))] (fun k_ => k_ ≠ gb163) (fun _ => False) rfl rfl ?aP (fun _ hk => hk.elim) ?aF ?aO ?aB ?aS ?aL ?_; (case aP => exact rfl); (case aB => exact TB); (case aF => exact (fun k_ hk => Kd.freshB (g := gb163) (o := .cells #[.int .i64 t162] 3 (0, 0)) (KW BK163).out k_ hk)); (case aO => exact (RW HO_4).out); (case aS => exact (below_size TB)); (case aL => have := LMc12.out; omega); intro v172 w14 ho hb hg hat; rw [← Ny171.out] at ho; have n0_ := Aside0.mk (Kd.R_over' (RW HO_5).out (Kd.R_typed (RW HO_4).out) (by decide) hg); have n1_ := Aside0.mk (blk_grown (g := gb163) (o := .cells #[.int .i64 t162] 3 (0, 0)) (KW BK163).out hg (Kd.R_away HO_4.out (fun _ hk => hk))); have n2_ := Aside0.mk (hb); have n3_ := Aside0.mk (ho); clear HO_5; clear BK163; clear HB; clear HO_4; have HO_5 := n0_; have BK163 := n1_; have HB := n2_; have HO173 := n3_; clear n0_ n1_ n2_ n3_; clear ho hb hg hat; have hcz15 := cz1 BK163) | ((with_reducible refine gate_builtin (b := .append) (xs := #[.tmp 31, .tmp 35]) rfl ?_); at_builtin; refine Kd.R_append k_Column (w0 := w) w.heap.size rfl (.tmp 31) (.tmp 35) 29 65 (.agg #[(.int .i64 0), (.int .i64 0)]) 16 rfl Try.underlying29 info65 rfl (by decide) (by omega) u5 x5_1 (⟨t162, x19_1⟩ : S_Column) [.int .i64 t162, .int .i64 x19_1] (fun _ => True) (fun _ => False) rfl rfl ?aP (fun _ hk => hk.elim) ?aF ?aO ?aB ?aS ?aL ?_; (case aP => exact k_Column_mkM _ _ _ (⟨t162, x19_1⟩ : S_Column)); (case aB => exact TB); (case aF => exact (fun _ _ => trivial)); (case aO => exact (RW HO_5).out); (case aS => exact (below_size TB)); (case aL => have := LMc13.out; omega); intro v175 w16 ho hb hg hat; rw [← Ny174.out] at ho; have n0_ := Aside0.mk (blk_grown (g := gb163) (o := .cells #[.int .i64 t162] 3 (0, 0)) (KW BK163).out hg (Kd.R_ne HO_5.out BK163.out (by decide))); have n1_ := Aside0.mk (Kd.R_over' (RW HO173).out (Kd.R_typed (RW HO_5).out) (by decide) hg); have n2_ := Aside0.mk (hb); have n3_ := Aside0.mk (ho); clear BK163; clear HO173; clear HB; clear HO_5; have BK163 := n0_; have HO173 := n1_; have HB := n2_; have HO176 := n3_; clear n0_ n1_ n2_ n3_; clear ho hb hg hat))
    go_roundg k1
    case measure => have := HK1.out; omega
    case rel => exact ⟨(y171), (y174), (wrap64 (x19_1 + 1)), TF, H', ⟨TM⟩, RW HO173, RW HO176, KW BK163, ⟨TB⟩⟩
   ·rw [if_neg c9] at H
    have c9b0 : decide (x19_1 < (l0.length : Int)) = false := decide_eq_false c9
    clear c9
    obtain ⟨c17, H⟩ := ifn H
    have c17b0 := eq_true c17
    have c17b1 : decide (0 ≤ (l0.length : Int)) = true := decide_eq_true c17
    clear c17
    obtain ⟨c18, H⟩ := ifn H
    have c18b0 := eq_true c18
    have c18b1 : decide (((l0.length : Int) : Int).toNat ≤ 281474976710656) = true := decide_eq_true c18
    clear c18
    obtain ⟨y177, hy177⟩ : ∃ y_ : List Bool, y_ = (List.replicate ((l0.length : Int) : Int).toNat false) := ⟨_, rfl⟩
    replace H : (impl_aliasOf.l1 k1 x4_1 x5_1 y177 t162) = some r := by first | (rw [hy177]; with_reducible exact H) | (have H2_ := (Option.bind_some _ _).symm.trans H; rw [hy177]; with_reducible exact H2_) | (have H2_ := (Option.bind_some _ _).symm.trans H; with_reducible exact H2_) | with_reducible exact H | (rw [hy177]; exact H) | exact H
    have Ny177 := Aside0.mk hy177
    clear hy177
    have H' := Aside0.mk H
    clear H
    go_wp2_with (first | ((with_reducible refine gate_dst (N := 40) rfl ?_); refine Kd.R_make Kd.bool _ 4 rfl (N := 40) rfl 88 _ _ rfl (l0.length : Int) rfl rfl Try.underlying88 (.bool false) 1 info4 rfl (by decide) (by omega) false (ok := fun _ => True) (okp := fun _ => True) rfl (fun _ hk => hk) trivial TD (Nat.le_trans (Nat.mul_le_mul_right _ (TD : (l0.length : Int).toNat ≤ 281474976710656)) (by omega)) (Below.refl _ _) (Nat.le_refl _) ?_; intro v178 w19 ho20 hb hg_ hnew_; clear hg_ hnew_; (first | rw [← Ny177.out] at ho20 | (simp only [Int.reduceToNat] at ho20; rw [← Ny177.out] at ho20)); replace HO_4 := RB HO_4 hb; replace HO_5 := RB HO_5 hb; have HO179 := RL ho20; replace BK163 := KB BK163 hb; replace HB := BS hb; clear hb ho20))
    go_loopg [] k1 (fun kq w' => ∃ (x4_2 : List Int) (x5_2 : List (S_Column)) (x8_2 : List Bool), Aside0 (impl_aliasOf.l1 kq x4_2 x5_2 x8_2 t162 = some r) ∧ Aside0 (kq ≤ k1) ∧ Aside0 (Kd.R (Kd.int .i64) 3 w' w.heap.size (fun k_ => k_ ≠ gb163) u4 x4_2) ∧ Aside0 (Kd.R k_Column 65 w' w.heap.size (fun _ => True) u5 x5_2) ∧ Aside0 (Kd.R Kd.bool 4 w' w.heap.size (fun _ => True) v178 x8_2) ∧ Aside0 (w'.heap[gb163]? = some (.cells #[.int .i64 t162] 3 (0, 0))) ∧ Aside0 (Below w.heap.size w w'))
    case atStart => exact ⟨(x4_1), (x5_1), (y177), H', ⟨Nat.le_refl _⟩, RW HO_4, RW HO_5, RW HO179, KW BK163, ⟨TB⟩⟩
    case round =>
     clear H'
     obtain ⟨x4_2, x5_2, x8_2, HA, HK2, HO_4, HO_5, HO_8, BK163, HB⟩ := hrel
     cases gk with
     | zero => exact absurd HA.out (by simp [impl_aliasOf.l1])
     | succ k2 =>
      have H := HA.out
      clear HA
      simp only [impl_aliasOf.l1] at H
      have H' := Aside0.mk H
      clear H
      obtain ⟨Ao21, co21, eo21⟩ := Kd.R_slice HO_4.out
      subst eo21
      go_wp2
      go_loopg [9, 43] k2 (fun kq v9 v43 w' => ∃ (x9_3 : Int) (x43_3 : Int), v9 = .int .i64 x9_3 ∧ v43 = .int .i64 x43_3 ∧ Aside0 (impl_aliasOf.l2 kq x4_2 x5_2 x8_2 x9_3 x4_2 (x4_2.length : Int) x43_3 t162 = some r) ∧ Aside0 (kq ≤ k2) ∧ Aside0 (Kd.R (Kd.int .i64) 3 w' w.heap.size (fun k_ => k_ ≠ gb163) (.slice Ao21 x4_2.length co21) x4_2) ∧ Aside0 (Kd.R k_Column 65 w' w.heap.size (fun _ => True) u5 x5_2) ∧ Aside0 (Kd.R Kd.bool 4 w' w.heap.size (fun _ => True) v178 x8_2) ∧ Aside0 (Kd.R (Kd.int .i64) 3 w' w.heap.size (fun k_ => k_ ≠ gb163) (.slice Ao21 x4_2.length co21) x4_2) ∧ Aside0 (w'.heap[gb163]? = some (.cells #[.int .i64 t162] 3 (0, 0))) ∧ Aside0 (Below w.heap.size w w'))
      case atStart => exact ⟨((-1)), (0), TF, TF, H', ⟨Nat.le_refl _⟩, RW HO_4, RW HO_5, RW HO_8, RW HO_4, KW BK163, ⟨TB⟩⟩
      case round =>
       clear H'
       obtain ⟨x9_3, x43_3, rfl, rfl, HA, HK3, HO_4, HO_5, HO_8, HO_41, BK163, HB⟩ := hrel
       cases gk with
       | zero => exact absurd HA.out (by simp [impl_aliasOf.l2])
       | succ k3 =>
        have H := HA.out
        clear HA
        simp only [impl_aliasOf.l2] at H
        by_cases c22 : x43_3 < (x4_2.length : Int)
        ·rw [if_pos c22] at H
         have c22b0 : decide (x43_3 < (x4_2.length : Int)) = true := decide_eq_true c22
         clear c22
         obtain ⟨c23, H⟩ := ifn H
         have c23b0 : decide (0 ≤ x43_3) = true := decide_eq_true c23
         clear c23
         obtain ⟨c24, H⟩ := ifn H
         have c24b0 : decide (x43_3 < (x4_2.length : Int)) = true := decide_eq_true c24
         clear c24
         obtain ⟨c25, H⟩ := ifn H
         have c25b0 : decide (x43_3 < (x8_2.length : Int)) = true := decide_eq_true c25
         clear c25
         obtain ⟨bq26, hbq26⟩ : ∃ b_ : Bool, b_ = (rdOf false x8_2 x43_3) := ⟨_, rfl⟩
         replace H : (if bq26 = true then (impl_aliasOf.l2 k3 x4_2 x5_2 x8_2 x9_3 x4_2 (x4_2.length : Int) (wrap64 (x43_3 + 1)) t162) else (if (rd x4_2 x43_3) < t162 then (if x43_3 < 0 then (some x5_2) else ((slices_IndexFunc_int_int_aliasOf_1.f k3 x4_2 t162).bind fun t182 => (if x43_3 < (x4_2.length : Int) then (if x43_3 < (x5_2.length : Int) then (if 0 ≤ t182 then (if t182 < (x4_2.length : Int) then (impl_aliasOf.l1 k3 (x4_2.set (t182 : Int).toNat (wrap64 ((rd x4_2 t182) - (wrap64 (t162 - (rd x4_2 x43_3)))))) (x5_2.set (x43_3 : Int).toNat (⟨rd x4_2 x43_3, t182⟩ : S_Column)) (x8_2.set (x43_3 : Int).toNat true) t162) else (none)) else (none)) else (none)) else (none)))) else (impl_aliasOf.l2 k3 x4_2 x5_2 x8_2 x9_3 x4_2 (x4_2.length : Int) (wrap64 (x43_3 + 1)) t162))) = some r := by rw [← hbq26] at H; exact H
         have Nbq26 := Aside0.mk hbq26
         clear hbq26
         by_cases c27 : bq26 = true
         ·subst c27
          replace H := ift H
          have H' := Aside0.mk H
          clear H
          have p180 : 0 ≤ (x43_3 : Int) := TD
          have q180 : x43_3 < (x4_2.length : Int) := TD
          obtain ⟨ad180, e180, hx180_0⟩ := Kd.at_int (Kd.R_reads' HO_41.out).2.2 x43_3 p180 q180
          cases e180
          replace p180 := eq_true p180
          replace q180 := eq_true q180
          obtain ⟨Ao28, co28, eo28⟩ := Kd.R_slice HO_8.out
          subst eo28
          have p181 : 0 ≤ (x43_3 : Int) := TD
          have q181 : x43_3 < (x8_2.length : Int) := TD
          obtain ⟨ad181, e181, hx181_0⟩ := Kd.at_bool (Kd.R_reads' HO_8.out).2.2 x43_3 p181 q181
          (try rw [← Nbq26.out] at hx181_0)
          cases e181
          replace p181 := eq_true p181
          replace q181 := eq_true q181
          go_wp2
          go_roundg k3
          case measure => have := HK1.out; have := HK2.out; have := HK3.out; omega
          case rel => exact ⟨(x9_3), (wrap64 (x43_3 + 1)), TF, TF, H', ⟨by have := HK1.out; have := HK2.out; have := HK3.out; omega⟩, RW HO_4, RW HO_5, RW HO_8, RW HO_41, KW BK163, ⟨TB⟩⟩
         ·replace c27 := Bool.eq_false_iff.mpr c27
          subst c27
          replace H := iff' H
          by_cases c29 : (rd x4_2 x43_3) < t162
          ·rw [if_pos c29] at H
           have c29b0 : decide ((rd x4_2 x43_3) < t162) = true := decide_eq_true c29
           clear c29
           by_cases c30 : x43_3 < 0
           ·rw [if_pos c30] at H
            have c30b0 : decide (x43_3 < 0) = true := decide_eq_true c30
            clear c30
            obtain rfl := Option.some.inj H
            have p180 : 0 ≤ (x43_3 : Int) := TD
            have q180 : x43_3 < (x4_2.length : Int) := TD
            obtain ⟨ad180, e180, hx180_0⟩ := Kd.at_int (Kd.R_reads' HO_41.out).2.2 x43_3 p180 q180
            cases e180
            replace p180 := eq_true p180
            replace q180 := eq_true q180
            obtain ⟨Ao31, co31, eo31⟩ := Kd.R_slice HO_8.out
            subst eo31
            have p181 : 0 ≤ (x43_3 : Int) := TD
            have q181 : x43_3 < (x8_2.length : Int) := TD
            obtain ⟨ad181, e181, hx181_0⟩ := Kd.at_bool (Kd.R_reads' HO_8.out).2.2 x43_3 p181 q181
            (try rw [← Nbq26.out] at hx181_0)
            cases e181
            replace p181 := eq_true p181
            replace q181 := eq_true q181
            have hcz32 := cz1 BK163
            go_wp2
            go_ret
            exact ⟨_, TE, (RW HO_5).out, TB⟩
           ·rw [if_neg c30] at H
            have c30b0 : decide (x43_3 < 0) = false := decide_eq_false c30
            clear c30
            obtain ⟨t182, A33, H⟩ := bnd H
            obtain ⟨c34, H⟩ := ifn H
            have c34b0 : decide (x43_3 < (x4_2.length : Int)) = true := decide_eq_true c34
            clear c34
            obtain ⟨c35, H⟩ := ifn H
            have c35b0 : decide (x43_3 < (x5_2.length : Int)) = true := decide_eq_true c35
            clear c35
            obtain ⟨y184, hy184⟩ : ∃ y_ : List (S_Column), y_ = (x5_2.set (x43_3 : Int).toNat (⟨rd x4_2 x43_3, t182⟩ : S_Column)) := ⟨_, rfl⟩
            replace H : (if 0 ≤ t182 then (if t182 < (x4_2.length : Int) then (impl_aliasOf.l1 k3 (x4_2.set (t182 : Int).toNat (wrap64 ((rd x4_2 t182) - (wrap64 (t162 - (rd x4_2 x43_3)))))) y184 (x8_2.set (x43_3 : Int).toNat true) t162) else (none)) else (none)) = some r := by first | (rw [hy184]; with_reducible exact H) | (have H2_ := (Option.bind_some _ _).symm.trans H; rw [hy184]; with_reducible exact H2_) | (have H2_ := (Option.bind_some _ _).symm.trans H; with_reducible exact H2_) | with_reducible exact H | (rw [hy184]; exact H) | exact H
            have Ny184 := Aside0.mk hy184
            clear hy184
            obtain ⟨c37, H⟩ := ifn H
            have c37b0 : decide (0 ≤ t182) = true := decide_eq_true c37
            clear c37
            obtain ⟨c38, H⟩ := ifn H
            have c38b0 : decide (t182 < (x4_2.length : Int)) = true := decide_eq_true c38
            clear c38
            obtain ⟨y187, hy187⟩ : ∃ y_ : List Int, y_ = (x4_2.set (t182 : Int).toNat (wrap64 ((rd x4_2 t182) - (wrap64 (t162 - (rd x4_2 x43_3)))))) := ⟨_, rfl⟩
            replace H : (impl_aliasOf.l1 k3 y187 y184 (x8_2.set (x43_3 : Int).toNat true) t162) = some r := by first | (rw [hy187]; with_reducible exact H) | (have H2_ := (Option.bind_some _ _).symm.trans H; rw [hy187]; with_reducible exact H2_) | (have H2_ := (Option.bind_some _ _).symm.trans H; with_reducible exact H2_) | with_reducible exact H | (rw [hy187]; exact H) | exact H
            have Ny187 := Aside0.mk hy187
            clear hy187
            obtain ⟨y188, hy188⟩ : ∃ y_ : List Bool, y_ = (x8_2.set (x43_3 : Int).toNat true) := ⟨_, rfl⟩
            replace H : (impl_aliasOf.l1 k3 y187 y184 y188 t162) = some r := by first | (rw [hy188]; with_reducible exact H) | (have H2_ := (Option.bind_some _ _).symm.trans H; rw [hy188]; with_reducible exact H2_) | (have H2_ := (Option.bind_some _ _).symm.trans H; with_reducible exact H2_) | with_reducible exact H | (rw [hy188]; exact H) | exact H
            have Ny188 := Aside0.mk hy188
            clear hy188
            have H' := Aside0.mk H
            clear H
            have p180 : 0 ≤ (x43_3 : Int) := TD
            have q180 : x43_3 < (x4_2.length : Int) := TD
            obtain ⟨ad180, e180, hx180_0⟩ := Kd.at_int (Kd.R_reads' HO_41.out).2.2 x43_3 p180 q180
            cases e180
            replace p180 := eq_true p180
            replace q180 := eq_true q180
            obtain ⟨Ao41, co41, eo41⟩ := Kd.R_slice HO_8.out
            subst eo41
            have p181 : 0 ≤ (x43_3 : Int) := TD
            have q181 : x43_3 < (x8_2.length : Int) := TD
            obtain ⟨ad181, e181, hx181_0⟩ := Kd.at_bool (Kd.R_reads' HO_8.out).2.2 x43_3 p181 q181
            (try rw [← Nbq26.out] at hx181_0)
            cases e181
            replace p181 := eq_true p181
            replace q181 := eq_true q181
            have hcz42 := cz1 BK163
            try go_wp2_with (first | ((with_reducible refine gate_callee (f := 85) rfl ?_); refine goesL_ (some 65) rfl rfl Try.func85 KR rfl #[.slice (some ad180) x4_2.length co21, .func (.func 88) #[] #[.pointer (some ⟨gb163, 0, none⟩)]] rfl TA ?_; (with_reducible refine (slices_IndexFunc_int_int_aliasOf_1.calls k3 _ _ x4_2 gb163 t162 t182 _ ?side1 ?side2 ?side3 A33.out).mono ?_); (case side1 => exact CW ((Kd.R_reads' HO_4.out).2.2)); (case side2 => exact RI HO_4); (case side3 => exact (KW BK163).out); rintro e w' ⟨rfl, ⟨nd, rfl⟩⟩; refine ⟨_, rfl, ?_⟩; (try (rw [drewN_self wr]; generalize hq_ : World.drewN wr _ = wr; have n0_ : Aside0 (Kd.R (Kd.int .i64) 3 wr w.heap.size (fun k_ => k_ ≠ gb163) (.slice (some ad180) x4_2.length co21) x4_2) := ⟨by rw [← hq_]; exact (RW HO_4).out⟩; have n1_ : Aside0 (Kd.R (Kd.int .i64) 3 wr w.heap.size (fun k_ => k_ ≠ gb163) (.slice (some ad180) x4_2.length co21) x4_2) := ⟨by rw [← hq_]; exact (RW HO_41).out⟩; have n2_ : Aside0 (Kd.R k_Column 65 wr w.heap.size (fun _ => True) u5 x5_2) := ⟨by rw [← hq_]; exact (RW HO_5).out⟩; have n3_ : Aside0 (Kd.R Kd.bool 4 wr w.heap.size (fun _ => True) (.slice (some ad181) x8_2.length co41) x8_2) := ⟨by rw [← hq_]; exact (RW HO_8).out⟩; have n4_ : Aside0 (wr.heap[gb163]? = some (.cells #[.int .i64 t162] 3 (0, 0))) := ⟨by rw [← hq_]; exact (KW BK163).out⟩; have n5_ : Aside0 (Below w.heap.size w wr) := ⟨by rw [← hq_]; exact TB⟩; clear HO_4 HO_41 HO_5 HO_8 BK163 HB hq_; have HO_4 := n0_; have HO_41 := n1_; have HO_5 := n2_; have HO_8 := n3_; have BK163 := n4_; have HB := n5_; clear n0_ n1_ n2_ n3_ n4_ n5_)); have p183 : 0 ≤ (x43_3 : Int) := TD; have q183 : x43_3 < (x4_2.length : Int) := TD; obtain ⟨ad183, e183, hx183_0⟩ := Kd.at_int (Kd.R_reads' HO_4.out).2.2 x43_3 p183 q183; obtain rfl : ad180 = ad183 := (by injection e183); replace p183 := eq_true p183; replace q183 := eq_true q183; have p36 : 0 ≤ (x43_3 : Int) := TD; have q36 : (x43_3 : Int) < ((x5_2.length : Int) : Int) := TD; obtain ⟨go36, co36, eo36, gb36, gl36, cl36, HG36⟩ := Kd.R_form HO_5.out (by omega); (first | cases eo36 | (injection eo36 with ea_ en_ ec_; (first | subst ea_ | (injection ea_ with ea_; subst ea_)); subst ec_; clear en_)); have GB36 := Aside0.mk gb36; have GG36 := Aside0.mk HG36; clear gb36 gl36 HG36; obtain ⟨ce36, hcl36, hM36, hcc36, hfr36⟩ := Kd.R_elem HO_5.out z_Column (x43_3 : Int) p36 q36; obtain rfl := k_Column_openM hM36; have hx36_0 : wr.cell? ⟨go36, (x43_3 : Int).toNat * 2, none⟩ = some (.int .i64 ((rd_TColumn x5_2 x43_3).f0)) := hcc36 0 _ rfl; have hx36_1 : wr.cell? ⟨go36, (x43_3 : Int).toNat * 2 + 1, none⟩ = some (.int .i64 ((rd_TColumn x5_2 x43_3).f1)) := hcc36 1 _ rfl; have hf36_0 : wr.frozen? ⟨go36, (x43_3 : Int).toNat * 2, none⟩ = false := hfr36 0; have hf36_1 : wr.frozen? ⟨go36, (x43_3 : Int).toNat * 2 + 1, none⟩ = false := hfr36 1; clear hcl36 hcc36 hfr36 hM36; replace p36 := eq_true p36; replace q36 := eq_true q36; have HX43 := Aside0.mk (show Kd.R k_Column 65 wr w.heap.size (fun _ => True) (.slice (some ⟨go36, 0, none⟩) x5_2.length co36) x5_2 from (RW HO_5).out); obtain ⟨ce43, hcl43, hM43, hcc43, hfr43⟩ := Kd.R_elem HX43.out z_Column (x43_3 : Int) TD (by have h_ : (x43_3 : Int) < ((x5_2.length : Int) : Int) := TD; first | exact h_ | (have e_ := (Kd.R_reads' HO_5.out).1; omega) | simpa using h_); obtain rfl := k_Column_openM hM43; have HP43 := Kd.R_seg HX43.out (x43_3 : Int) TD (by have h_ : (x43_3 : Int) < ((x5_2.length : Int) : Int) := TD; first | exact h_ | (have e_ := (Kd.R_reads' HO_5.out).1; omega) | simpa using h_) (seg := [.int .i64 (rd x4_2 x43_3), .int .i64 t182]) (j := 0) hcl43 hcc43 (show 2 ≤ 2 from by decide) (x' := (⟨rd x4_2 x43_3, t182⟩ : S_Column)) (k_Column_mkM _ _ _ (⟨rd x4_2 x43_3, t182⟩ : S_Column) ) (fun _ hk => hk); have hx43_0 := hcc43 0 _ rfl; (try simp only [show (k_Column).sz = 2 from rfl, Nat.mul_one, Nat.add_zero] at hx43_0); have hf43_0 := hfr43 0; (try simp only [show (k_Column).sz = 2 from rfl, Nat.mul_one, Nat.add_zero] at hf43_0); have hx43_1 := hcc43 1 _ rfl; (try simp only [show (k_Column).sz = 2 from rfl, Nat.mul_one, Nat.add_zero] at hx43_1); have hf43_1 := hfr43 1; (try simp only [show (k_Column).sz = 2 from rfl, Nat.mul_one, Nat.add_zero] at hf43_1); clear hcl43 hcc43 hfr43 hM43) | ((with_reducible refine gate_store (t := 65) (p := 74) rfl ?_); refine store_event (t := 65) (p := 74) (v := ?vo_w44) (w1 := ((wr.setCell ⟨go36, (x43_3 : Int).toNat * 2, none⟩ (.int .i64 (rd x4_2 x43_3))).setCell ⟨go36, (x43_3 : Int).toNat * 2 + 1, none⟩ (.int .i64 t182))) ?hg ?ho ?hn ?hr ?_; (case ho => rfl); (case hg => rfl); (case hn => rfl); (case hr => first | (go_simp; done) | (go_simp; rfl)); intro w44 hw; have hg : wr.grownBy w44 (some go36) := (by rw [hw]; exact HP43.2); have hp_ : Kd.R k_Column 65 w44 w.heap.size (fun _ => True) (.slice (some ⟨go36, 0, none⟩) x5_2.length co36) y184 := (by rw [hw, Ny184.out]; exact HP43.1); clear HP43; replace HO_4 := Aside0.mk (Kd.R_over' (v := (.slice (some ⟨go36, 0, none⟩) x5_2.length co36)) (RW HO_4).out (Kd.R_typed HO_5.out) (by decide) hg); replace HO_8 := Aside0.mk (Kd.R_over' (v := (.slice (some ⟨go36, 0, none⟩) x5_2.length co36)) (RW HO_8).out (Kd.R_typed HO_5.out) (by decide) hg); replace HO_41 := Aside0.mk (Kd.R_over' (v := (.slice (some ⟨go36, 0, none⟩) x5_2.length co36)) (RW HO_41).out (Kd.R_typed HO_5.out) (by decide) hg); replace BK163 := Aside0.mk (blk_grown (g := gb163) (o := .cells #[.int .i64 t162] 3 (0, 0)) (KW BK163).out hg (Kd.R_ne HO_5.out BK163.out (by decide))); replace HO_5 := Aside0.mk (hp_); replace HB := Aside0.mk ((by rw [hw]; exact below_set (below_set (HB.out) GB36.out) GB36.out : Below w.heap.size w w44)); clear hg hw hp_))
            replace HO_4 := Aside0.mk (Kd.R_drew HO_4.out)
            replace HO_5 := Aside0.mk (Kd.R_drew HO_5.out)
            replace HO_8 := Aside0.mk (Kd.R_drew HO_8.out)
            replace HO_41 := Aside0.mk (Kd.R_drew HO_41.out)
            replace BK163 := Aside0.mk (blk_drew BK163.out)
            replace HB := Aside0.mk (below_drew1 HB.out)
            have p185 : 0 ≤ (t182 : Int) := TD
            have q185 : t182 < (x4_2.length : Int) := TD
            obtain ⟨ad185, e185, hx185_0⟩ := Kd.at_int (Kd.R_reads' HO_4.out).2.2 t182 p185 q185
            obtain rfl : ad180 = ad185 := (by injection e185)
            replace p185 := eq_true p185
            replace q185 := eq_true q185
            have p186 : 0 ≤ (x43_3 : Int) := TD
            have q186 : x43_3 < (x4_2.length : Int) := TD
            obtain ⟨ad186, e186, hx186_0⟩ := Kd.at_int (Kd.R_reads' HO_4.out).2.2 x43_3 p186 q186
            obtain rfl : ad180 = ad186 := (by injection e186)
            replace p186 := eq_true p186
            replace q186 := eq_true q186
            have p39 : 0 ≤ (t182 : Int) := TD
            have q39 : (t182 : Int) < ((x4_2.length : Int) : Int) := TD
            obtain ⟨go39, co39, eo39, gb39, gl39, cl39, HG39⟩ := Kd.R_form HO_4.out (by omega)
            (first | cases eo39 | (injection eo39 with ea_ en_ ec_; (first | subst ea_ | (injection ea_ with ea_; subst ea_)); subst ec_; clear en_))
            have GB39 := Aside0.mk gb39
            have GG39 := Aside0.mk HG39
            clear gb39 gl39 HG39
            (first | simp only [add_plain] at hx180_0 | skip)
            (first | simp only [add_plain] at hx183_0 | skip)
            (first | simp only [add_plain] at hx185_0 | skip)
            (first | simp only [add_plain] at hx186_0 | skip)
            obtain ⟨hx39_0, hf39_0⟩ := Kd.R_celln 0 HO_4.out (t182 : Int) p39 q39
            replace p39 := eq_true p39
            replace q39 := eq_true q39
            have HP46 := Kd.R_putn HO_4.out (t182 : Int) (wrap64 ((rd x4_2 t182) - (wrap64 (t162 - (rd x4_2 x43_3)))))
            rw [← Ny187.out] at HP46
            have HQ46 := Aside0.mk HP46
            clear HP46
            refine start_ (n := 13) (S := fun w' => w'.cell? ⟨gb163, 0, none⟩ = some (.int .i64 t162) ∧ w'.cell? ⟨go39, (t182).toNat, none⟩ = some (.int .i64 (rd x4_2 t182)) ∧ w'.cell? ⟨go39, (x43_3).toNat, none⟩ = some (.int .i64 (rd x4_2 x43_3))) (ds := [12]) #[false, false, false, false, false, false, false, false, false, false, false, false, false] KR rfl rfl ⟨bc 0 BK163, hx185_0, hx186_0⟩ (fun hHeld => ?_); refine with_tabW impl_aliasOf.tab22 impl_aliasOf.bits22 (fun HT_ HW_ => ?_)
            generalize w44.drew = w45 at HO_4 HO_5 HO_8 HO_41 BK163 HB GG39 HQ46 hf39_0 hx180_0 hx183_0 hx185_0 hx186_0 hx39_0 hHeld ⊢
            refine pA 0 75 (mL 13 1) HT_ rfl rfl ?_
            refine pA 1 76 (mL 13 3) HT_ rfl rfl ?_
            refine pA 2 77 (mL 13 7) HT_ rfl rfl ?_
            refine pA 5 80 (mL 13 39) HT_ rfl rfl ?_
            refine pA 6 81 (mL 13 103) HT_ rfl rfl ?_
            refine pA 7 82 (mL 13 231) HT_ rfl rfl ?_
            refine tA 3 78 (mL 13 239) HT_ HW_ hHeld rfl rfl (by rintro w' ⟨s0, s1, s2⟩; go_simp; with_reducible rfl) ?_
            refine tA 4 79 (mL 13 255) HT_ HW_ hHeld rfl rfl (by rintro w' ⟨s0, s1, s2⟩; go_simp; with_reducible rfl) ?_
            refine tA 8 83 (mL 13 511) HT_ HW_ hHeld rfl rfl (by rintro w' ⟨s0, s1, s2⟩; go_simp; with_reducible rfl) ?_
            refine pA 9 84 (mL 13 1023) HT_ rfl rfl ?_
            refine pA 10 85 (mL 13 2047) HT_ rfl rfl ?_
            refine pA 11 86 (mL 13 4095) HT_ rfl rfl ?_
            refine last_ (i := 12) (N := none) (mL 13 8191) rfl rfl (one_of HT_.out KR) (by decide) (fun K hK => ?_)
            refine skip_ (w1 := ?_) (by rfl) rfl ?_ ?_
            rotate_left
            ·go_simp
             rfl
            refine hK.out _ _ ?_
            clear hK K
            refine done_ (done_of HT_.out KR) ?_
            have n0_ : Aside0 (Kd.R (Kd.int .i64) 3 (w45.setCell ⟨go39, (t182 : Int).toNat, none⟩ (.int .i64 (wrap64 ((rd x4_2 t182) - (wrap64 (t162 - (rd x4_2 x43_3))))))) w.heap.size (fun k_ => k_ ≠ gb163) (.slice (some ⟨go39, 0, none⟩) x4_2.length co21) y187) := RW HQ46
            have n1_ : Aside0 (Kd.R k_Column 65 (w45.setCell ⟨go39, (t182 : Int).toNat, none⟩ (.int .i64 (wrap64 ((rd x4_2 t182) - (wrap64 (t162 - (rd x4_2 x43_3))))))) w.heap.size (fun _ => True) (.slice (some ⟨go36, 0, none⟩) x5_2.length co36) y184) := ⟨by (with_reducible repeat (first | apply Kd.R_alloc | apply Kd.R_drewN | apply Kd.R_drew)); exact Kd.R_mono (Kd.R_far (p := ⟨go39, (t182 : Int).toNat, none⟩) (Kd.R_types HO_5.out GG39.out (by decide)) (fun _ hk => hk.2) (.int .i64 (wrap64 ((rd x4_2 t182) - (wrap64 (t162 - (rd x4_2 x43_3))))))) (fun _ hk => trivial)⟩
            have n2_ : Aside0 (Kd.R Kd.bool 4 (w45.setCell ⟨go39, (t182 : Int).toNat, none⟩ (.int .i64 (wrap64 ((rd x4_2 t182) - (wrap64 (t162 - (rd x4_2 x43_3))))))) w.heap.size (fun _ => True) (.slice (some ad181) x8_2.length co41) x8_2) := ⟨by (with_reducible repeat (first | apply Kd.R_alloc | apply Kd.R_drewN | apply Kd.R_drew)); exact Kd.R_mono (Kd.R_far (p := ⟨go39, (t182 : Int).toNat, none⟩) (Kd.R_types HO_8.out GG39.out (by decide)) (fun _ hk => hk.2) (.int .i64 (wrap64 ((rd x4_2 t182) - (wrap64 (t162 - (rd x4_2 x43_3))))))) (fun _ hk => trivial)⟩
            have n3_ : Aside0 ((w45.setCell ⟨go39, (t182 : Int).toNat, none⟩ (.int .i64 (wrap64 ((rd x4_2 t182) - (wrap64 (t162 - (rd x4_2 x43_3))))))).heap[gb163]? = some (.cells #[.int .i64 t162] 3 (0, 0))) := ⟨by (with_reducible repeat (first | refine blk_drewN ?_ _ | refine blk_drew ?_ | refine blk_alloc ?_ _)); refine blk_far ?_ (by have h_ := Kd.R_away HO_4.out (fun _ hk => hk); intro e_; exact h_ (by rw [e_]; rfl)) _; (with_reducible repeat (first | refine blk_drewN ?_ _ | refine blk_drew ?_ | refine blk_alloc ?_ _)); exact BK163.out⟩
            have n4_ : Aside0 (Below w.heap.size w (w45.setCell ⟨go39, (t182 : Int).toNat, none⟩ (.int .i64 (wrap64 ((rd x4_2 t182) - (wrap64 (t162 - (rd x4_2 x43_3)))))))) := ⟨TB⟩
            (try clear HO_4)
            (try clear HO_5)
            (try clear HO_8)
            (try clear BK163)
            (try clear HB)
            generalize (w45.setCell ⟨go39, (t182 : Int).toNat, none⟩ (.int .i64 (wrap64 ((rd x4_2 t182) - (wrap64 (t162 - (rd x4_2 x43_3))))))) = w47 at n0_ n1_ n2_ n3_ n4_ ⊢
            have HO_4 := n0_
            have HO_5 := n1_
            have HO_8 := n2_
            have BK163 := n3_
            have HB := n4_
            clear n0_ n1_ n2_ n3_ n4_
            have p40 : 0 ≤ (x43_3 : Int) := TD
            have q40 : (x43_3 : Int) < ((x8_2.length : Int) : Int) := TD
            obtain ⟨go40, co40, eo40, gb40, gl40, cl40, HG40⟩ := Kd.R_form HO_8.out (by omega)
            (first | cases eo40 | (injection eo40 with ea_ en_ ec_; (first | subst ea_ | (injection ea_ with ea_; subst ea_)); subst ec_; clear en_))
            have GB40 := Aside0.mk gb40
            have GG40 := Aside0.mk HG40
            clear gb40 gl40 HG40
            (first | simp only [add_plain] at hx181_0 | skip)
            obtain ⟨hx40_0, hf40_0⟩ := Kd.R_celln false HO_8.out (x43_3 : Int) p40 q40
            replace p40 := eq_true p40
            replace q40 := eq_true q40
            obtain ⟨hy48_, hz48_⟩ := Kd.R_celln false HO_8.out (x43_3 : Int) TD TD
            have HP48 := Kd.R_putg HO_8.out (x43_3 : Int) true
            try go_wp2_with (first | ((with_reducible refine gate_store (t := 4) (p := 89) rfl ?_); refine store_event (t := 4) (p := 89) (v := ?vo_w49) (w1 := (w47.setCell ⟨go40, (x43_3 : Int).toNat, none⟩ (.bool true))) ?hg ?ho ?hn ?hr ?_; (case ho => rfl); (case hg => rfl); (case hn => rfl); (case hr => first | (go_simp; done) | (go_simp; rfl)); intro w49 hw; have hg : w47.grownBy w49 (some go40) := (by rw [hw]; exact HP48.2); have hp_ : Kd.R Kd.bool 4 w49 w.heap.size (fun _ => True) (.slice (some ⟨go40, 0, none⟩) x8_2.length co41) y188 := (by rw [hw, Ny188.out]; exact HP48.1); clear HP48; replace HO_4 := Aside0.mk (Kd.R_over' (v := (.slice (some ⟨go40, 0, none⟩) x8_2.length co41)) (RW HO_4).out (Kd.R_typed HO_8.out) (by decide) hg); replace HO_5 := Aside0.mk (Kd.R_over' (v := (.slice (some ⟨go40, 0, none⟩) x8_2.length co41)) (RW HO_5).out (Kd.R_typed HO_8.out) (by decide) hg); replace BK163 := Aside0.mk (blk_grown (g := gb163) (o := .cells #[.int .i64 t162] 3 (0, 0)) (KW BK163).out hg (Kd.R_ne HO_8.out BK163.out (by decide))); replace HO_8 := Aside0.mk (hp_); replace HB := Aside0.mk ((by rw [hw]; exact below_set (HB.out) GB40.out : Below w.heap.size w w49)); clear hg hw hp_))
            go_roundg k3
            case measure => have := HK1.out; have := HK2.out; have := HK3.out; omega
            case rel => exact ⟨(y187), (y184), (y188), H', ⟨by have := HK1.out; have := HK2.out; have := HK3.out; omega⟩, RW HO_4, RW HO_5, RW HO_8, KW BK163, ⟨TB⟩⟩
          ·rw [if_neg c29] at H
           have c29b0 : decide ((rd x4_2 x43_3) < t162) = false := decide_eq_false c29
           clear c29
           have H' := Aside0.mk H
           clear H
           have p180 : 0 ≤ (x43_3 : Int) := TD
           have q180 : x43_3 < (x4_2.length : Int) := TD
           obtain ⟨ad180, e180, hx180_0⟩ := Kd.at_int (Kd.R_reads' HO_41.out).2.2 x43_3 p180 q180
           cases e180
           replace p180 := eq_true p180
           replace q180 := eq_true q180
           obtain ⟨Ao50, co50, eo50⟩ := Kd.R_slice HO_8.out
           subst eo50
           have p181 : 0 ≤ (x43_3 : Int) := TD
           have q181 : x43_3 < (x8_2.length : Int) := TD
           obtain ⟨ad181, e181, hx181_0⟩ := Kd.at_bool (Kd.R_reads' HO_8.out).2.2 x43_3 p181 q181
           (try rw [← Nbq26.out] at hx181_0)
           cases e181
           replace p181 := eq_true p181
           replace q181 := eq_true q181
           have hcz51 := cz1 BK163
           go_wp2
           go_roundg k3
           case measure => have := HK1.out; have := HK2.out; have := HK3.out; omega
           case rel => exact ⟨(x9_3), (wrap64 (x43_3 + 1)), TF, TF, H', ⟨by have := HK1.out; have := HK2.out; have := HK3.out; omega⟩, RW HO_4, RW HO_5, RW HO_8, RW HO_41, KW BK163, ⟨TB⟩⟩
        ·rw [if_neg c22] at H
         have c22b0 : decide (x43_3 < (x4_2.length : Int)) = false := decide_eq_false c22
         clear c22
         by_cases c52 : x9_3 < 0
         ·rw [if_pos c52] at H
          have c52b0 : decide (x9_3 < 0) = true := decide_eq_true c52
          clear c52
          obtain rfl := Option.some.inj H
          go_wp2
          go_ret
          exact ⟨_, TE, (RW HO_5).out, TB⟩
         ·rw [if_neg c52] at H
          have c52b0 : decide (x9_3 < 0) = false := decide_eq_false c52
          clear c52
          obtain ⟨t189, A53, H⟩ := bnd H
          obtain ⟨c54, H⟩ := ifn H
          have c54b0 : decide (0 ≤ x9_3) = true := decide_eq_true c54
          clear c54
          obtain ⟨c55, H⟩ := ifn H
          have c55b0 : decide (x9_3 < (x4_2.length : Int)) = true := decide_eq_true c55
          clear c55
          obtain ⟨c56, H⟩ := ifn H
          have c56b0 : decide (x9_3 < (x5_2.length : Int)) = true := decide_eq_true c56
          clear c56
          obtain ⟨y191, hy191⟩ : ∃ y_ : List (S_Column), y_ = (x5_2.set (x9_3 : Int).toNat (⟨rd x4_2 x9_3, t189⟩ : S_Column)) := ⟨_, rfl⟩
          replace H : (if 0 ≤ t189 then (if t189 < (x4_2.length : Int) then (if x9_3 < (x8_2.length : Int) then (impl_aliasOf.l1 k3 (x4_2.set (t189 : Int).toNat (wrap64 ((rd x4_2 t189) - (wrap64 (t162 - (rd x4_2 x9_3)))))) y191 (x8_2.set (x9_3 : Int).toNat true) t162) else (none)) else (none)) else (none)) = some r := by first | (rw [hy191]; with_reducible exact H) | (have H2_ := (Option.bind_some _ _).symm.trans H; rw [hy191]; with_reducible exact H2_) | (have H2_ := (Option.bind_some _ _).symm.trans H; with_reducible exact H2_) | with_reducible exact H | (rw [hy191]; exact H) | exact H
          have Ny191 := Aside0.mk hy191
          clear hy191
          obtain ⟨c58, H⟩ := ifn H
          have c58b0 : decide (0 ≤ t189) = true := decide_eq_true c58
          clear c58
          obtain ⟨c59, H⟩ := ifn H
          have c59b0 : decide (t189 < (x4_2.length : Int)) = true := decide_eq_true c59
          clear c59
          obtain ⟨y194, hy194⟩ : ∃ y_ : List Int, y_ = (x4_2.set (t189 : Int).toNat (wrap64 ((rd x4_2 t189) - (wrap64 (t162 - (rd x4_2 x9_3)))))) := ⟨_, rfl⟩
          replace H : (if x9_3 < (x8_2.length : Int) then (impl_aliasOf.l1 k3 y194 y191 (x8_2.set (x9_3 : Int).toNat true) t162) else (none)) = some r := by first | (rw [hy194]; with_reducible exact H) | (have H2_ := (Option.bind_some _ _).symm.trans H; rw [hy194]; with_reducible exact H2_) | (have H2_ := (Option.bind_some _ _).symm.trans H; with_reducible exact H2_) | with_reducible exact H | (rw [hy194]; exact H) | exact H
          have Ny194 := Aside0.mk hy194
          clear hy194
          obtain ⟨c61, H⟩ := ifn H
          have c61b0 : decide (x9_3 < (x8_2.length : Int)) = true := decide_eq_true c61
          clear c61
          obtain ⟨y195, hy195⟩ : ∃ y_ : List Bool, y_ = (x8_2.set (x9_3 : Int).toNat true) := ⟨_, rfl⟩
          replace H : (impl_aliasOf.l1 k3 y194 y191 y195 t162) = some r := by first | (rw [hy195]; with_reducible exact H) | (have H2_ := (Option.bind_some _ _).symm.trans H; rw [hy195]; with_reducible exact H2_) | (have H2_ := (Option.bind_some _ _).symm.trans H; with_reducible exact H2_) | with_reducible exact H | (rw [hy195]; exact H) | exact H
          have Ny195 := Aside0.mk hy195
          clear hy195
          have H' := Aside0.mk H
          clear H
          try go_wp2_with (first | ((with_reducible refine gate_callee (f := 85) rfl ?_); refine goesL_ (some 65) rfl rfl Try.func85 KR rfl #[.slice Ao21 x4_2.length co21, .func (.func 88) #[] #[.pointer (some ⟨gb163, 0, none⟩)]] rfl TA ?_; (with_reducible refine (slices_IndexFunc_int_int_aliasOf_1.calls k3 _ _ x4_2 gb163 t162 t189 _ ?side1 ?side2 ?side3 A53.out).mono ?_); (case side1 => exact CW ((Kd.R_reads' HO_4.out).2.2)); (case side2 => exact RI HO_4); (case side3 => exact (KW BK163).out); rintro e w' ⟨rfl, ⟨nd, rfl⟩⟩; refine ⟨_, rfl, ?_⟩; (try (rw [drewN_self wr]; generalize hq_ : World.drewN wr _ = wr; have n0_ : Aside0 (Kd.R (Kd.int .i64) 3 wr w.heap.size (fun k_ => k_ ≠ gb163) (.slice Ao21 x4_2.length co21) x4_2) := ⟨by rw [← hq_]; exact (RW HO_4).out⟩; have n1_ : Aside0 (Kd.R (Kd.int .i64) 3 wr w.heap.size (fun k_ => k_ ≠ gb163) (.slice Ao21 x4_2.length co21) x4_2) := ⟨by rw [← hq_]; exact (RW HO_41).out⟩; have n2_ : Aside0 (Kd.R k_Column 65 wr w.heap.size (fun _ => True) u5 x5_2) := ⟨by rw [← hq_]; exact (RW HO_5).out⟩; have n3_ : Aside0 (Kd.R Kd.bool 4 wr w.heap.size (fun _ => True) v178 x8_2) := ⟨by rw [← hq_]; exact (RW HO_8).out⟩; have n4_ : Aside0 (wr.heap[gb163]? = some (.cells #[.int .i64 t162] 3 (0, 0))) := ⟨by rw [← hq_]; exact (KW BK163).out⟩; have n5_ : Aside0 (Below w.heap.size w wr) := ⟨by rw [← hq_]; exact TB⟩; clear HO_4 HO_41 HO_5 HO_8 BK163 HB hq_; have HO_4 := n0_; have HO_41 := n1_; have HO_5 := n2_; have HO_8 := n3_; have BK163 := n4_; have HB := n5_; clear n0_ n1_ n2_ n3_ n4_ n5_)); have p190 : 0 ≤ (x9_3 : Int) := TD; have q190 : x9_3 < (x4_2.length : Int) := TD; obtain ⟨ad190, e190, hx190_0⟩ := Kd.at_int (Kd.R_reads' HO_4.out).2.2 x9_3 p190 q190; cases e190; replace p190 := eq_true p190; replace q190 := eq_true q190; have p57 : 0 ≤ (x9_3 : Int) := TD; have q57 : (x9_3 : Int) < ((x5_2.length : Int) : Int) := TD; obtain ⟨go57, co57, eo57, gb57, gl57, cl57, HG57⟩ := Kd.R_form HO_5.out (by omega); (first | cases eo57 | (injection eo57 with ea_ en_ ec_; (first | subst ea_ | (injection ea_ with ea_; subst ea_)); subst ec_; clear en_)); have GB57 := Aside0.mk gb57; have GG57 := Aside0.mk HG57; clear gb57 gl57 HG57; obtain ⟨ce57, hcl57, hM57, hcc57, hfr57⟩ := Kd.R_elem HO_5.out z_Column (x9_3 : Int) p57 q57; obtain rfl := k_Column_openM hM57; have hx57_0 : wr.cell? ⟨go57, (x9_3 : Int).toNat * 2, none⟩ = some (.int .i64 ((rd_TColumn x5_2 x9_3).f0)) := hcc57 0 _ rfl; have hx57_1 : wr.cell? ⟨go57, (x9_3 : Int).toNat * 2 + 1, none⟩ = some (.int .i64 ((rd_TColumn x5_2 x9_3).f1)) := hcc57 1 _ rfl; have hf57_0 : wr.frozen? ⟨go57, (x9_3 : Int).toNat * 2, none⟩ = false := hfr57 0; have hf57_1 : wr.frozen? ⟨go57, (x9_3 : Int).toNat * 2 + 1, none⟩ = false := hfr57 1; clear hcl57 hcc57 hfr57 hM57; replace p57 := eq_true p57; replace q57 := eq_true q57; have HX63 := Aside0.mk (show Kd.R k_Column 65 wr w.heap.size (fun _ => True) (.slice (some ⟨go57, 0, none⟩) x5_2.length co57) x5_2 from (RW HO_5).out); obtain ⟨ce63, hcl63, hM63, hcc63, hfr63⟩ := Kd.R_elem HX63.out z_Column (x9_3 : Int) TD (by have h_ : (x9_3 : Int) < ((x5_2.length : Int) : Int) := TD; first | exact h_ | (have e_ := (Kd.R_reads' HO_5.out).1; omega) | simpa using h_); obtain rfl := k_Column_openM hM63; have HP63 := Kd.R_seg HX63.out (x9_3 : Int) TD (by have h_ : (x9_3 : Int) < ((x5_2.length : Int) : Int) := TD; first | exact h_ | (have e_ := (Kd.R_reads' HO_5.out).1; omega) | simpa using h_) (seg := [.int .i64 (rd x4_2 x9_3), .int .i64 t189]) (j := 0) hcl63 hcc63 (show 2 ≤ 2 from by decide) (x' := (⟨rd x4_2 x9_3, t189⟩ : S_Column)) (k_Column_mkM _ _ _ (⟨rd x4_2 x9_3, t189⟩ : S_Column) ) (fun _ hk => hk); have hx63_0 := hcc63 0 _ rfl; (try simp only [show (k_Column).sz = 2 from rfl, Nat.mul_one, Nat.add_zero] at hx63_0); have hf63_0 := hfr63 0; (try simp only [show (k_Column).sz = 2 from rfl, Nat.mul_one, Nat.add_zero] at hf63_0); have hx63_1 := hcc63 1 _ rfl; (try simp only [show (k_Column).sz = 2 from rfl, Nat.mul_one, Nat.add_zero] at hx63_1); have hf63_1 := hfr63 1; (try simp only [show (k_Column).sz = 2 from rfl, Nat.mul_one, Nat.add_zero] at hf63_1); clear hcl63 hcc63 hfr63 hM63) | ((with_reducible refine gate_store (t := 65) (p := 74) rfl ?_); refine store_event (t := 65) (p := 74) (v := ?vo_w64) (w1 := ((wr.setCell ⟨go57, (x9_3 : Int).toNat * 2, none⟩ (.int .i64 (rd x4_2 x9_3))).setCell ⟨go57, (x9_3 : Int).toNat * 2 + 1, none⟩ (.int .i64 t189))) ?hg ?ho ?hn ?hr ?_; (case ho => rfl); (case hg => rfl); (case hn => rfl); (case hr => first | (go_simp; done) | (go_simp; rfl)); intro w64 hw; have hg : wr.grownBy w64 (some go57) := (by rw [hw]; exact HP63.2); have hp_ : Kd.R k_Column 65 w64 w.heap.size (fun _ => True) (.slice (some ⟨go57, 0, none⟩) x5_2.length co57) y191 := (by rw [hw, Ny191.out]; exact HP63.1); clear HP63; replace HO_4 := Aside0.mk (Kd.R_over' (v := (.slice (some ⟨go57, 0, none⟩) x5_2.length co57)) (RW HO_4).out (Kd.R_typed HO_5.out) (by decide) hg); replace HO_8 := Aside0.mk (Kd.R_over' (v := (.slice (some ⟨go57, 0, none⟩) x5_2.length co57)) (RW HO_8).out (Kd.R_typed HO_5.out) (by decide) hg); replace HO_41 := Aside0.mk (Kd.R_over' (v := (.slice (some ⟨go57, 0, none⟩) x5_2.length co57)) (RW HO_41).out (Kd.R_typed HO_5.out) (by decide) hg); replace BK163 := Aside0.mk (blk_grown (g := gb163) (o := .cells #[.int .i64 t162] 3 (0, 0)) (KW BK163).out hg (Kd.R_ne HO_5.out BK163.out (by decide))); replace HO_5 := Aside0.mk (hp_); replace HB := Aside0.mk ((by rw [hw]; exact below_set (below_set (HB.out) GB57.out) GB57.out : Below w.heap.size w w64)); clear hg hw hp_))
          replace HO_4 := Aside0.mk (Kd.R_drew HO_4.out)
          replace HO_5 := Aside0.mk (Kd.R_drew HO_5.out)
          replace HO_8 := Aside0.mk (Kd.R_drew HO_8.out)
          replace HO_41 := Aside0.mk (Kd.R_drew HO_41.out)
          replace BK163 := Aside0.mk (blk_drew BK163.out)
          replace HB := Aside0.mk (below_drew1 HB.out)
          have p192 : 0 ≤ (t189 : Int) := TD
          have q192 : t189 < (x4_2.length : Int) := TD
          obtain ⟨ad192, e192, hx192_0⟩ := Kd.at_int (Kd.R_reads' HO_4.out).2.2 t189 p192 q192
          obtain rfl : ad190 = ad192 := (by injection e192)
          replace p192 := eq_true p192
          replace q192 := eq_true q192
          have p193 : 0 ≤ (x9_3 : Int) := TD
          have q193 : x9_3 < (x4_2.length : Int) := TD
          obtain ⟨ad193, e193, hx193_0⟩ := Kd.at_int (Kd.R_reads' HO_4.out).2.2 x9_3 p193 q193
          obtain rfl : ad190 = ad193 := (by injection e193)
          replace p193 := eq_true p193
          replace q193 := eq_true q193
          have p60 : 0 ≤ (t189 : Int) := TD
          have q60 : (t189 : Int) < ((x4_2.length : Int) : Int) := TD
          obtain ⟨go60, co60, eo60, gb60, gl60, cl60, HG60⟩ := Kd.R_form HO_4.out (by omega)
          (first | cases eo60 | (injection eo60 with ea_ en_ ec_; (first | subst ea_ | (injection ea_ with ea_; subst ea_)); subst ec_; clear en_))
          have GB60 := Aside0.mk gb60
          have GG60 := Aside0.mk HG60
          clear gb60 gl60 HG60
          (first | simp only [add_plain] at hx190_0 | skip)
          (first | simp only [add_plain] at hx192_0 | skip)
          (first | simp only [add_plain] at hx193_0 | skip)
          obtain ⟨hx60_0, hf60_0⟩ := Kd.R_celln 0 HO_4.out (t189 : Int) p60 q60
          replace p60 := eq_true p60
          replace q60 := eq_true q60
          have HP66 := Kd.R_putn HO_4.out (t189 : Int) (wrap64 ((rd x4_2 t189) - (wrap64 (t162 - (rd x4_2 x9_3)))))
          rw [← Ny194.out] at HP66
          have HQ66 := Aside0.mk HP66
          clear HP66
          refine start_ (n := 13) (S := fun w' => w'.cell? ⟨gb163, 0, none⟩ = some (.int .i64 t162) ∧ w'.cell? ⟨go60, (t189).toNat, none⟩ = some (.int .i64 (rd x4_2 t189)) ∧ w'.cell? ⟨go60, (x9_3).toNat, none⟩ = some (.int .i64 (rd x4_2 x9_3))) (ds := [12]) #[false, false, false, false, false, false, false, false, false, false, false, false, false] KR rfl rfl ⟨bc 0 BK163, hx192_0, hx193_0⟩ (fun hHeld => ?_); refine with_tabW impl_aliasOf.tab22 impl_aliasOf.bits22 (fun HT_ HW_ => ?_)
          generalize w64.drew = w65 at HO_4 HO_5 HO_8 HO_41 BK163 HB GG60 HQ66 hf60_0 hx190_0 hx192_0 hx193_0 hx60_0 hHeld ⊢
          refine pA 0 75 (mL 13 1) HT_ rfl rfl ?_
          refine pA 1 76 (mL 13 3) HT_ rfl rfl ?_
          refine pA 2 77 (mL 13 7) HT_ rfl rfl ?_
          refine pA 5 80 (mL 13 39) HT_ rfl rfl ?_
          refine pA 6 81 (mL 13 103) HT_ rfl rfl ?_
          refine pA 7 82 (mL 13 231) HT_ rfl rfl ?_
          refine tA 3 78 (mL 13 239) HT_ HW_ hHeld rfl rfl (by rintro w' ⟨s0, s1, s2⟩; go_simp; with_reducible rfl) ?_
          refine tA 4 79 (mL 13 255) HT_ HW_ hHeld rfl rfl (by rintro w' ⟨s0, s1, s2⟩; go_simp; with_reducible rfl) ?_
          refine tA 8 83 (mL 13 511) HT_ HW_ hHeld rfl rfl (by rintro w' ⟨s0, s1, s2⟩; go_simp; with_reducible rfl) ?_
          refine pA 9 84 (mL 13 1023) HT_ rfl rfl ?_
          refine pA 10 85 (mL 13 2047) HT_ rfl rfl ?_
          refine pA 11 86 (mL 13 4095) HT_ rfl rfl ?_
          refine last_ (i := 12) (N := none) (mL 13 8191) rfl rfl (one_of HT_.out KR) (by decide) (fun K hK => ?_)
          refine skip_ (w1 := ?_) (by rfl) rfl ?_ ?_
          rotate_left
          ·go_simp
           rfl
          refine hK.out _ _ ?_
          clear hK K
          refine done_ (done_of HT_.out KR) ?_
          have n0_ : Aside0 (Kd.R (Kd.int .i64) 3 (w65.setCell ⟨go60, (t189 : Int).toNat, none⟩ (.int .i64 (wrap64 ((rd x4_2 t189) - (wrap64 (t162 - (rd x4_2 x9_3))))))) w.heap.size (fun k_ => k_ ≠ gb163) (.slice (some ⟨go60, 0, none⟩) x4_2.length co21) y194) := RW HQ66
          have n1_ : Aside0 (Kd.R k_Column 65 (w65.setCell ⟨go60, (t189 : Int).toNat, none⟩ (.int .i64 (wrap64 ((rd x4_2 t189) - (wrap64 (t162 - (rd x4_2 x9_3))))))) w.heap.size (fun _ => True) (.slice (some ⟨go57, 0, none⟩) x5_2.length co57) y191) := ⟨by (with_reducible repeat (first | apply Kd.R_alloc | apply Kd.R_drewN | apply Kd.R_drew)); exact Kd.R_mono (Kd.R_far (p := ⟨go60, (t189 : Int).toNat, none⟩) (Kd.R_types HO_5.out GG60.out (by decide)) (fun _ hk => hk.2) (.int .i64 (wrap64 ((rd x4_2 t189) - (wrap64 (t162 - (rd x4_2 x9_3))))))) (fun _ hk => trivial)⟩
          have n2_ : Aside0 (Kd.R Kd.bool 4 (w65.setCell ⟨go60, (t189 : Int).toNat, none⟩ (.int .i64 (wrap64 ((rd x4_2 t189) - (wrap64 (t162 - (rd x4_2 x9_3))))))) w.heap.size (fun _ => True) v178 x8_2) := ⟨by (with_reducible repeat (first | apply Kd.R_alloc | apply Kd.R_drewN | apply Kd.R_drew)); exact Kd.R_mono (Kd.R_far (p := ⟨go60, (t189 : Int).toNat, none⟩) (Kd.R_types HO_8.out GG60.out (by decide)) (fun _ hk => hk.2) (.int .i64 (wrap64 ((rd x4_2 t189) - (wrap64 (t162 - (rd x4_2 x9_3))))))) (fun _ hk => trivial)⟩
          have n3_ : Aside0 ((w65.setCell ⟨go60, (t189 : Int).toNat, none⟩ (.int .i64 (wrap64 ((rd x4_2 t189) - (wrap64 (t162 - (rd x4_2 x9_3))))))).heap[gb163]? = some (.cells #[.int .i64 t162] 3 (0, 0))) := ⟨by (with_reducible repeat (first | refine blk_drewN ?_ _ | refine blk_drew ?_ | refine blk_alloc ?_ _)); refine blk_far ?_ (by have h_ := Kd.R_away HO_4.out (fun _ hk => hk); intro e_; exact h_ (by rw [e_]; rfl)) _; (with_reducible repeat (first | refine blk_drewN ?_ _ | refine blk_drew ?_ | refine blk_alloc ?_ _)); exact BK163.out⟩
          have n4_ : Aside0 (Below w.heap.size w (w65.setCell ⟨go60, (t189 : Int).toNat, none⟩ (.int .i64 (wrap64 ((rd x4_2 t189) - (wrap64 (t162 - (rd x4_2 x9_3)))))))) := ⟨TB⟩
          (try clear HO_4)
          (try clear HO_5)
          (try clear HO_8)
          (try clear BK163)
          (try clear HB)
          generalize (w65.setCell ⟨go60, (t189 : Int).toNat, none⟩ (.int .i64 (wrap64 ((rd x4_2 t189) - (wrap64 (t162 - (rd x4_2 x9_3))))))) = w67 at n0_ n1_ n2_ n3_ n4_ ⊢
          have HO_4 := n0_
          have HO_5 := n1_
          have HO_8 := n2_
          have BK163 := n3_
          have HB := n4_
          clear n0_ n1_ n2_ n3_ n4_
          have p62 : 0 ≤ (x9_3 : Int) := TD
          have q62 : (x9_3 : Int) < ((x8_2.length : Int) : Int) := TD
          obtain ⟨go62, co62, eo62, gb62, gl62, cl62, HG62⟩ := Kd.R_form HO_8.out (by omega)
          (first | cases eo62 | (injection eo62 with ea_ en_ ec_; (first | subst ea_ | (injection ea_ with ea_; subst ea_)); subst ec_; clear en_))
          have GB62 := Aside0.mk gb62
          have GG62 := Aside0.mk HG62
          clear gb62 gl62 HG62
          obtain ⟨hx62_0, hf62_0⟩ := Kd.R_celln false HO_8.out (x9_3 : Int) p62 q62
          replace p62 := eq_true p62
          replace q62 := eq_true q62
          obtain ⟨hy68_, hz68_⟩ := Kd.R_celln false HO_8.out (x9_3 : Int) TD TD
          have HP68 := Kd.R_putg HO_8.out (x9_3 : Int) true
          try go_wp2_with (first | ((with_reducible refine gate_store (t := 4) (p := 89) rfl ?_); refine store_event (t := 4) (p := 89) (v := ?vo_w69) (w1 := (w67.setCell ⟨go62, (x9_3 : Int).toNat, none⟩ (.bool true))) ?hg ?ho ?hn ?hr ?_; (case ho => rfl); (case hg => rfl); (case hn => rfl); (case hr => first | (go_simp; done) | (go_simp; rfl)); intro w69 hw; have hg : w67.grownBy w69 (some go62) := (by rw [hw]; exact HP68.2); have hp_ : Kd.R Kd.bool 4 w69 w.heap.size (fun _ => True) (.slice (some ⟨go62, 0, none⟩) x8_2.length co62) y195 := (by rw [hw, Ny195.out]; exact HP68.1); clear HP68; replace HO_4 := Aside0.mk (Kd.R_over' (v := (.slice (some ⟨go62, 0, none⟩) x8_2.length co62)) (RW HO_4).out (Kd.R_typed HO_8.out) (by decide) hg); replace HO_5 := Aside0.mk (Kd.R_over' (v := (.slice (some ⟨go62, 0, none⟩) x8_2.length co62)) (RW HO_5).out (Kd.R_typed HO_8.out) (by decide) hg); replace BK163 := Aside0.mk (blk_grown (g := gb163) (o := .cells #[.int .i64 t162] 3 (0, 0)) (KW BK163).out hg (Kd.R_ne HO_8.out BK163.out (by decide))); replace HO_8 := Aside0.mk (hp_); replace HB := Aside0.mk ((by rw [hw]; exact below_set (HB.out) GB62.out : Below w.heap.size w w69)); clear hg hw hp_))
          go_roundg k3
          case measure => have := HK1.out; have := HK2.out; have := HK3.out; omega
          case rel => exact ⟨(y194), (y191), (y195), H', ⟨by have := HK1.out; have := HK2.out; have := HK3.out; omega⟩, RW HO_4, RW HO_5, RW HO_8, KW BK163, ⟨TB⟩⟩
end
section
/-! ### impl_AliasOf: function 43 -/
def impl_AliasOf.f (k : Nat) (l0 : List Int) : Option ((List (S_Column)) × Bool) := (impl_GoodWeights.f k l0).bind fun t196 => (if t196 = true then ((impl_aliasOf.f k l0).bind fun t197 => (some (t197, true))) else (some (([] : List (S_Column)), false)))
theorem impl_AliasOf.calls (k : Nat) (A0 : Option Addr) (c0 : Nat) (l0 : List Int) (r1 : List (S_Column)) (r2 : Bool) (w : World) (hr0 : Kd.C (Kd.int .i64) w A0 l0.length l0) (hc0 : l0.length ≤ c0) (h : impl_AliasOf.f k l0 = some (r1, r2)) :
  Calls Try.prog 43 #[.slice A0 l0.length c0] w fun e w' => ∃ v0_ : Value, e = .returned (.tuple #[v0_, .bool r2]) ∧ Kd.R k_Column 65 w' w.heap.size (fun _ => True) v0_ r1 ∧ Below w.heap.size w w' := by
 have HR0 := Aside0.mk hr0
 have HC0 := Aside0.mk hc0
 clear hr0 hc0
 have HB := Aside0.mk (Below.refl w.heap.size w)
 have H : ((impl_GoodWeights.f k l0).bind fun t196 => (if t196 = true then ((impl_aliasOf.f k l0).bind fun t197 => (some (t197, true))) else (some (([] : List (S_Column)), false)))) = some (r1, r2) := h
 clear h
 obtain ⟨t196, A2, H⟩ := bnd H
 by_cases c3 : t196 = true
 ·subst c3
  replace H := ift H
  obtain ⟨t197, A4, H⟩ := bnd H
  simp only [Option.some.injEq, Prod.mk.injEq] at H
  obtain ⟨rfl, rfl⟩ := H
  go_enter Try.func43, Try.ntmps43
  go_wp2_with (first | ((with_reducible refine gate_callee (f := 17) rfl ?_); refine goesL_ (some 5) rfl rfl Try.func17 KR rfl #[.slice A0 l0.length c0] rfl TA ?_; (with_reducible refine (impl_GoodWeights.calls k _ _ l0 true _ ?side1 ?side2 A2.out).mono ?_); (case side1 => exact CW (HR0.out)); (case side2 => exact HC0.out); rintro e w' ⟨rfl, ⟨nd, rfl⟩⟩; refine ⟨_, rfl, ?_⟩) | ((with_reducible refine gate_callee (f := 75) rfl ?_); refine goesL_ (some 8) rfl rfl Try.func75 KR rfl #[.slice A0 l0.length c0] rfl TA ?_; (with_reducible refine (impl_aliasOf.calls k _ _ l0 t197 _ ?side1 ?side2 A4.out).mono ?_); (case side1 => exact CW (HR0.out)); (case side2 => exact HC0.out); rintro e w5 ⟨v198, rfl, ho0, hb⟩; refine ⟨_, rfl, ?_⟩; have HO199 := RL ho0; replace HB := BS hb; clear hb; (try clear ho0)))
  go_ret2
  exact ⟨_, TE, (RW HO199).out, TB⟩
 ·replace c3 := Bool.eq_false_iff.mpr c3
  subst c3
  replace H := iff' H
  simp only [Option.some.injEq, Prod.mk.injEq] at H
  obtain ⟨rfl, rfl⟩ := H
  go_enter Try.func43, Try.ntmps43
  go_wp2_with (first | ((with_reducible refine gate_callee (f := 17) rfl ?_); refine goesL_ (some 5) rfl rfl Try.func17 KR rfl #[.slice A0 l0.length c0] rfl TA ?_; (with_reducible refine (impl_GoodWeights.calls k _ _ l0 false _ ?side1 ?side2 A2.out).mono ?_); (case side1 => exact CW (HR0.out)); (case side2 => exact HC0.out); rintro e w' ⟨rfl, ⟨nd, rfl⟩⟩; refine ⟨_, rfl, ?_⟩))
  go_ret2
  exact ⟨_, TE, TZ, TB⟩
end
section
/-! ### spec_l1In: function 58 -/
def spec_l1In.f (a0 : Int) (a1 : Int) (a2 : Int) : Option (Bool) := if a0 ≥ a1 then (some (decide (a0 ≤ a2))) else (some false)
theorem spec_l1In.calls (a0 : Int) (a1 : Int) (a2 : Int) (r : Bool) (w : World) (h : spec_l1In.f a0 a1 a2 = some r) :
  Calls Try.prog 58 #[.int .i64 a0, .int .i64 a1, .int .i64 a2] w fun e w' => e = .returned (.bool r) ∧ Drawn0 w w' := by
 have H : (if a0 ≥ a1 then (some (decide (a0 ≤ a2))) else (some false)) = some r := h
 clear h
 by_cases c4 : a0 ≥ a1
 ·rw [if_pos c4] at H
  have c4b0 : decide (a1 ≤ a0) = true := decide_eq_true c4
  clear c4
  obtain rfl := Option.some.inj H
  go_enter Try.func58, Try.ntmps58
  go_wp2
  go_ret
  exact ⟨TF, TN⟩
 ·rw [if_neg c4] at H
  have c4b0 : decide (a1 ≤ a0) = false := decide_eq_false c4
  clear c4
  obtain rfl := Option.some.inj H
  go_enter Try.func58, Try.ntmps58
  go_wp2
  go_ret
  exact ⟨TF, TN⟩
end
section
/-! ### spec_GoodWeights: function 15 -/
def spec_GoodWeights.l0 : Nat → List Int → Int → List Int → Int → Int → Option (Bool)
 | 0, _, _, _, _, _ => none
 | k + 1, x0, x3, x6, x7, x8 => if x8 < x7 then (if 0 ≤ x8 then (if x8 < (x6.length : Int) then ((spec_l1In.f (rd x6 x8) 0 50).bind fun t201 => (if t201 = true then (spec_GoodWeights.l0 k x0 (wrap64 (x3 + (rd x6 x8))) x6 x7 (wrap64 (x8 + 1))) else (some false))) else (none)) else (none)) else ((spec_l1In.f (x0.length : Int) 1 12).bind fun t202 => (if t202 = true then (some (decide (x3 > 0))) else (some false)))
def spec_GoodWeights.f (k : Nat) (l0 : List Int) : Option (Bool) := spec_GoodWeights.l0 k l0 0 l0 (l0.length : Int) 0
theorem spec_GoodWeights.calls (k : Nat) (A0 : Option Addr) (c0 : Nat) (l0 : List Int) (r : Bool) (w : World) (hr0 : Kd.C (Kd.int .i64) w A0 l0.length l0) (hc0 : l0.length ≤ c0) (h : spec_GoodWeights.f k l0 = some r) :
  Calls Try.prog 15 #[.slice A0 l0.length c0] w fun e w' => e = .returned (.bool r) ∧ Drawn0 w w' := by
 have HR0 := Aside0.mk hr0
 have HC0 := Aside0.mk hc0
 clear hr0 hc0
 have H : (spec_GoodWeights.l0 k l0 0 l0 (l0.length : Int) 0) = some r := h
 clear h
 have H' := Aside0.mk H
 clear H
 go_enter Try.func15, Try.ntmps15
 go_wp2
 go_loopg [3, 8] k (fun kq v3 v8 w' => ∃ (x3_1 : Int) (x8_1 : Int), v3 = .int .i64 x3_1 ∧ v8 = .int .i64 x8_1 ∧ Aside0 (spec_GoodWeights.l0 kq l0 x3_1 l0 (l0.length : Int) x8_1 = some r) ∧ Aside0 (kq ≤ k) ∧ Drawn0 w w')
 case atStart => exact ⟨(0), (0), TF, TF, H', ⟨Nat.le_refl _⟩, TN⟩
 case round =>
  clear H'
  obtain ⟨x3_1, x8_1, rfl, rfl, HA, HK1, ⟨m1, rfl⟩⟩ := hrel
  cases gk with
  | zero => exact absurd HA.out (by simp [spec_GoodWeights.l0])
  | succ k1 =>
   have H := HA.out
   clear HA
   simp only [spec_GoodWeights.l0] at H
   by_cases c2 : x8_1 < (l0.length : Int)
   ·rw [if_pos c2] at H
    have c2b0 : decide (x8_1 < (l0.length : Int)) = true := decide_eq_true c2
    clear c2
    obtain ⟨c3, H⟩ := ifn H
    have c3b0 : decide (0 ≤ x8_1) = true := decide_eq_true c3
    clear c3
    obtain ⟨c4, H⟩ := ifn H
    have c4b0 : decide (x8_1 < (l0.length : Int)) = true := decide_eq_true c4
    clear c4
    obtain ⟨t201, A5, H⟩ := bnd H
    by_cases c6 : t201 = true
    ·subst c6
     replace H := ift H
     have H' := Aside0.mk H
     clear H
     have p200 : 0 ≤ (x8_1 : Int) := TD
     have q200 : x8_1 < (l0.length : Int) := TD
     obtain ⟨ad200, e200, hx200_0⟩ := Kd.at_int HR0.out x8_1 p200 q200
     cases e200
     replace p200 := eq_true p200
     replace q200 := eq_true q200
     go_wp2_with (first | ((with_reducible refine gate_callee (f := 58) rfl ?_); refine goesL_ (some 13) rfl rfl Try.func58 KR rfl #[.int .i64 (rd l0 x8_1), .int .i64 0, .int .i64 50] rfl TA ?_; (with_reducible refine (spec_l1In.calls (rd l0 x8_1) 0 50 true _ A5.out).mono ?_); rintro e w' ⟨rfl, ⟨nd, rfl⟩⟩; refine ⟨_, rfl, ?_⟩))
     go_roundg k1
     case measure => have := HK1.out; omega
     case rel => exact ⟨(wrap64 (x3_1 + (rd l0 x8_1))), (wrap64 (x8_1 + 1)), TF, TF, H', ⟨TM⟩, TN⟩
    ·replace c6 := Bool.eq_false_iff.mpr c6
     subst c6
     replace H := iff' H
     obtain rfl := Option.some.inj H
     have p200 : 0 ≤ (x8_1 : Int) := TD
     have q200 : x8_1 < (l0.length : Int) := TD
     obtain ⟨ad200, e200, hx200_0⟩ := Kd.at_int HR0.out x8_1 p200 q200
     cases e200
     replace p200 := eq_true p200
     replace q200 := eq_true q200
     go_wp2_with (first | ((with_reducible refine gate_callee (f := 58) rfl ?_); refine goesL_ (some 13) rfl rfl Try.func58 KR rfl #[.int .i64 (rd l0 x8_1), .int .i64 0, .int .i64 50] rfl TA ?_; (with_reducible refine (spec_l1In.calls (rd l0 x8_1) 0 50 false _ A5.out).mono ?_); rintro e w' ⟨rfl, ⟨nd, rfl⟩⟩; refine ⟨_, rfl, ?_⟩))
     go_ret
     exact ⟨TF, TN⟩
   ·rw [if_neg c2] at H
    have c2b0 : decide (x8_1 < (l0.length : Int)) = false := decide_eq_false c2
    clear c2
    obtain ⟨t202, A7, H⟩ := bnd H
    by_cases c8 : t202 = true
    ·subst c8
     replace H := ift H
     obtain rfl := Option.some.inj H
     go_wp2_with (first | ((with_reducible refine gate_callee (f := 58) rfl ?_); refine goesL_ (some 21) rfl rfl Try.func58 KR rfl #[.int .i64 (l0.length : Int), .int .i64 1, .int .i64 12] rfl TA ?_; (with_reducible refine (spec_l1In.calls (l0.length : Int) 1 12 true _ A7.out).mono ?_); rintro e w' ⟨rfl, ⟨nd, rfl⟩⟩; refine ⟨_, rfl, ?_⟩))
     go_ret
     exact ⟨TF, TN⟩
    ·replace c8 := Bool.eq_false_iff.mpr c8
     subst c8
     replace H := iff' H
     obtain rfl := Option.some.inj H
     go_wp2_with (first | ((with_reducible refine gate_callee (f := 58) rfl ?_); refine goesL_ (some 21) rfl rfl Try.func58 KR rfl #[.int .i64 (l0.length : Int), .int .i64 1, .int .i64 12] rfl TA ?_; (with_reducible refine (spec_l1In.calls (l0.length : Int) 1 12 false _ A7.out).mono ?_); rintro e w' ⟨rfl, ⟨nd, rfl⟩⟩; refine ⟨_, rfl, ?_⟩))
     go_ret
     exact ⟨TF, TN⟩
end
section
/-! ### spec_l12Total: function 74 -/
def spec_l12Total.l0 : Nat → Int → List Int → Int → Int → Option (Int)
 | 0, _, _, _, _ => none
 | k + 1, x3, x6, x7, x8 => if x8 < x7 then (if 0 ≤ x8 then (if x8 < (x6.length : Int) then (spec_l12Total.l0 k (wrap64 (x3 + (rd x6 x8))) x6 x7 (wrap64 (x8 + 1))) else (none)) else (none)) else (some x3)
def spec_l12Total.f (k : Nat) (l0 : List Int) : Option (Int) := spec_l12Total.l0 k 0 l0 (l0.length : Int) 0
theorem spec_l12Total.calls (k : Nat) (A0 : Option Addr) (c0 : Nat) (l0 : List Int) (r : Int) (w : World) (hr0 : Kd.C (Kd.int .i64) w A0 l0.length l0) (hc0 : l0.length ≤ c0) (h : spec_l12Total.f k l0 = some r) :
  Calls Try.prog 74 #[.slice A0 l0.length c0] w fun e w' => e = .returned (.int .i64 r) ∧ Drawn0 w w' := by
 have HR0 := Aside0.mk hr0
 have HC0 := Aside0.mk hc0
 clear hr0 hc0
 have H : (spec_l12Total.l0 k 0 l0 (l0.length : Int) 0) = some r := h
 clear h
 have H' := Aside0.mk H
 clear H
 go_enter Try.func74, Try.ntmps74
 go_wp2
 go_loopg [3, 8] k (fun kq v3 v8 w' => ∃ (x3_1 : Int) (x8_1 : Int), v3 = .int .i64 x3_1 ∧ v8 = .int .i64 x8_1 ∧ Aside0 (spec_l12Total.l0 kq x3_1 l0 (l0.length : Int) x8_1 = some r) ∧ Aside0 (kq ≤ k) ∧ Drawn0 w w')
 case atStart => exact ⟨(0), (0), TF, TF, H', ⟨Nat.le_refl _⟩, TN⟩
 case round =>
  clear H'
  obtain ⟨x3_1, x8_1, rfl, rfl, HA, HK1, ⟨m1, rfl⟩⟩ := hrel
  cases gk with
  | zero => exact absurd HA.out (by simp [spec_l12Total.l0])
  | succ k1 =>
   have H := HA.out
   clear HA
   simp only [spec_l12Total.l0] at H
   by_cases c2 : x8_1 < (l0.length : Int)
   ·rw [if_pos c2] at H
    have c2b0 : decide (x8_1 < (l0.length : Int)) = true := decide_eq_true c2
    clear c2
    obtain ⟨c3, H⟩ := ifn H
    have c3b0 : decide (0 ≤ x8_1) = true := decide_eq_true c3
    clear c3
    obtain ⟨c4, H⟩ := ifn H
    have c4b0 : decide (x8_1 < (l0.length : Int)) = true := decide_eq_true c4
    clear c4
    have H' := Aside0.mk H
    clear H
    have p203 : 0 ≤ (x8_1 : Int) := TD
    have q203 : x8_1 < (l0.length : Int) := TD
    obtain ⟨ad203, e203, hx203_0⟩ := Kd.at_int HR0.out x8_1 p203 q203
    cases e203
    replace p203 := eq_true p203
    replace q203 := eq_true q203
    go_wp2
    go_roundg k1
    case measure => have := HK1.out; omega
    case rel => exact ⟨(wrap64 (x3_1 + (rd l0 x8_1))), (wrap64 (x8_1 + 1)), TF, TF, H', ⟨TM⟩, TN⟩
   ·rw [if_neg c2] at H
    have c2b0 : decide (x8_1 < (l0.length : Int)) = false := decide_eq_false c2
    clear c2
    obtain rfl := Option.some.inj H
    go_wp2
    go_ret
    exact ⟨TF, TN⟩
end
section
/-! ### spec_AliasOf: function 42 -/
mutual
def spec_AliasOf.l0 : Nat → Int → Int → List Int → List Bool → List (S_Column) → List Int → Int → Int → Option ((List (S_Column)) × Bool)
 | 0, _, _, _, _, _, _, _, _ => none
 | k + 1, x4, x5, x6, x7, x8, x27, x28, x29 => if x29 < x28 then (if 0 ≤ x29 then (if x29 < (x27.length : Int) then (if x29 < (x6.length : Int) then (if x29 < (x8.length : Int) then (spec_AliasOf.l0 k x4 x5 (x6.set (x29 : Int).toNat (wrap64 ((rd x27 x29) * x4))) x7 (x8.set (x29 : Int).toNat (⟨x5, x29⟩ : S_Column)) x27 x28 (wrap64 (x29 + 1))) else (none)) else (none)) else (none)) else (none)) else (spec_AliasOf.l1 k x5 x6 x7 x8)
def spec_AliasOf.l1 : Nat → Int → List Int → List Bool → List (S_Column) → Option ((List (S_Column)) × Bool)
 | 0, _, _, _, _ => none
 | k + 1, x5, x6, x7, x8 => spec_AliasOf.l2 k x5 x6 x7 x8 (-1) (-1) (x6.length : Int) 0
def spec_AliasOf.l2 : Nat → Int → List Int → List Bool → List (S_Column) → Int → Int → Int → Int → Option ((List (S_Column)) × Bool)
 | 0, _, _, _, _, _, _, _, _ => none
 | k + 1, x5, x6, x7, x8, x11, x12, x48, x49 => if x49 < x48 then (if 0 ≤ x49 then (if x49 < (x7.length : Int) then (if rdOf false x7 x49 = true then (spec_AliasOf.l2 k x5 x6 x7 x8 x11 x12 x48 (wrap64 (x49 + 1))) else (if x49 < (x6.length : Int) then (if (rd x6 x49) < x5 then (spec_AliasOf.j3 k x5 x6 x7 x8 x11 x12 x49 x48 x49 (decide (x11 < 0))) else (spec_AliasOf.j3 k x5 x6 x7 x8 x11 x12 x49 x48 x49 false)) else (none))) else (none)) else (none)) else (if x11 < 0 then (some (x8, true)) else (if x12 < 0 then (some (x8, true)) else (if 0 ≤ x11 then (if x11 < (x6.length : Int) then (if x11 < (x8.length : Int) then (if 0 ≤ x12 then (if x12 < (x6.length : Int) then (if x11 < (x7.length : Int) then (spec_AliasOf.l1 k x5 (x6.set (x12 : Int).toNat (wrap64 ((rd x6 x12) - (wrap64 (x5 - (rd x6 x11)))))) (x7.set (x11 : Int).toNat true) (x8.set (x11 : Int).toNat (⟨rd x6 x11, x12⟩ : S_Column))) else (none)) else (none)) else (none)) else (none)) else (none)) else (none))))
def spec_AliasOf.j3 : Nat → Int → List Int → List Bool → List (S_Column) → Int → Int → Int → Int → Int → Bool → Option ((List (S_Column)) × Bool)
 | 0, _, _, _, _, _, _, _, _, _, _ => none
 | k + 1, x5, x6, x7, x8, x11, x12, x13, x48, x49, x65 => if x65 = true then (if 0 ≤ x13 then (if x13 < (x6.length : Int) then (if (rd x6 x13) > x5 then (if x12 < 0 then (spec_AliasOf.l2 k x5 x6 x7 x8 x13 x13 x48 (wrap64 (x49 + 1))) else (spec_AliasOf.l2 k x5 x6 x7 x8 x13 x12 x48 (wrap64 (x49 + 1)))) else (spec_AliasOf.l2 k x5 x6 x7 x8 x13 x12 x48 (wrap64 (x49 + 1)))) else (none)) else (none)) else (if 0 ≤ x13 then (if x13 < (x6.length : Int) then (if (rd x6 x13) > x5 then (if x12 < 0 then (spec_AliasOf.l2 k x5 x6 x7 x8 x11 x13 x48 (wrap64 (x49 + 1))) else (spec_AliasOf.l2 k x5 x6 x7 x8 x11 x12 x48 (wrap64 (x49 + 1)))) else (spec_AliasOf.l2 k x5 x6 x7 x8 x11 x12 x48 (wrap64 (x49 + 1)))) else (none)) else (none))
end
def spec_AliasOf.f (k : Nat) (l0 : List Int) : Option ((List (S_Column)) × Bool) := (spec_GoodWeights.f k l0).bind fun t204 => (if t204 = true then ((spec_l12Total.f k l0).bind fun t205 => (if 0 ≤ (l0.length : Int) then (if ((l0.length : Int) : Int).toNat ≤ 35184372088832 then (if ((l0.length : Int) : Int).toNat ≤ 281474976710656 then (if ((l0.length : Int) : Int).toNat ≤ 17592186044416 then (spec_AliasOf.l0 k (l0.length : Int) t205 (List.replicate ((l0.length : Int) : Int).toNat 0) (List.replicate ((l0.length : Int) : Int).toNat false) (List.replicate ((l0.length : Int) : Int).toNat z_Column) l0 (l0.length : Int) 0) else (none)) else (none)) else (none)) else (none))) else (some (([] : List (S_Column)), false)))
def spec_AliasOf.T28 : Bool × List (List Nat × List Nat) := (true, [([], []), ([], []), ([0, 1], [0, 1]), ([2], [2]), ([], []), ([], []), ([], []), ([5, 6], [5, 6]), ([7], [7]), ([4, 8], [4, 8]), ([3, 9], [3, 9]), ([0, 1, 0, 1, 2, 3, 4, 5, 6, 7, 8, 9, 10], [0, 1]), ([11, 10, 0, 1, 2, 3, 4, 5, 6, 7, 8, 9, 10], [10, 11])])
def spec_AliasOf.B28 : List Nat := [0, 0, 3, 7, 0, 0, 0, 96, 224, 496, 1023, 2047, 4095]
theorem spec_AliasOf.tab28 : rtab .any (opsOf Try.f42 28) = spec_AliasOf.T28 := by kernel_rfl
theorem spec_AliasOf.bits28 : waitsOk spec_AliasOf.T28.2 spec_AliasOf.B28 = true := by kernel_rfl
theorem spec_AliasOf.calls (k : Nat) (A0 : Option Addr) (c0 : Nat) (l0 : List Int) (r1 : List (S_Column)) (r2 : Bool) (w : World) (hr0 : Kd.C (Kd.int .i64) w A0 l0.length l0) (hc0 : l0.length ≤ c0) (h : spec_AliasOf.f k l0 = some (r1, r2)) :
  Calls Try.prog 42 #[.slice A0 l0.length c0] w fun e w' => ∃ v0_ : Value, e = .returned (.tuple #[v0_, .bool r2]) ∧ Kd.R k_Column 65 w' w.heap.size (fun _ => True) v0_ r1 ∧ Below w.heap.size w w' := by
 have hu65 := Try.underlying65
 have HR0 := Aside0.mk hr0
 have HC0 := Aside0.mk hc0
 clear hr0 hc0
 have HB := Aside0.mk (Below.refl w.heap.size w)
 have H : ((spec_GoodWeights.f k l0).bind fun t204 => (if t204 = true then ((spec_l12Total.f k l0).bind fun t205 => (if 0 ≤ (l0.length : Int) then (if ((l0.length : Int) : Int).toNat ≤ 35184372088832 then (if ((l0.length : Int) : Int).toNat ≤ 281474976710656 then (if ((l0.length : Int) : Int).toNat ≤ 17592186044416 then (spec_AliasOf.l0 k (l0.length : Int) t205 (List.replicate ((l0.length : Int) : Int).toNat 0) (List.replicate ((l0.length : Int) : Int).toNat false) (List.replicate ((l0.length : Int) : Int).toNat z_Column) l0 (l0.length : Int) 0) else (none)) else (none)) else (none)) else (none))) else (some (([] : List (S_Column)), false)))) = some (r1, r2) := h
 clear h
 obtain ⟨t204, A2, H⟩ := bnd H
 by_cases c3 : t204 = true
 ·subst c3
  replace H := ift H
  obtain ⟨t205, A4, H⟩ := bnd H
  obtain ⟨c5, H⟩ := ifn H
  have c5b0 := eq_true c5
  have c5b1 : decide (0 ≤ (l0.length : Int)) = true := decide_eq_true c5
  clear c5
  obtain ⟨c6, H⟩ := ifn H
  have c6b0 := eq_true c6
  have c6b1 : decide (((l0.length : Int) : Int).toNat ≤ 35184372088832) = true := decide_eq_true c6
  clear c6
  obtain ⟨y206, hy206⟩ : ∃ y_ : List Int, y_ = (List.replicate ((l0.length : Int) : Int).toNat 0) := ⟨_, rfl⟩
  replace H : (if ((l0.length : Int) : Int).toNat ≤ 281474976710656 then (if ((l0.length : Int) : Int).toNat ≤ 17592186044416 then (spec_AliasOf.l0 k (l0.length : Int) t205 y206 (List.replicate ((l0.length : Int) : Int).toNat false) (List.replicate ((l0.length : Int) : Int).toNat z_Column) l0 (l0.length : Int) 0) else (none)) else (none)) = some (r1, r2) := by first | (rw [hy206]; with_reducible exact H) | (have H2_ := (Option.bind_some _ _).symm.trans H; rw [hy206]; with_reducible exact H2_) | (have H2_ := (Option.bind_some _ _).symm.trans H; with_reducible exact H2_) | with_reducible exact H | (rw [hy206]; exact H) | exact H
  have Ny206 := Aside0.mk hy206
  clear hy206
  obtain ⟨c7, H⟩ := ifn H
  have c7b0 := eq_true c7
  have c7b1 : decide (((l0.length : Int) : Int).toNat ≤ 281474976710656) = true := decide_eq_true c7
  clear c7
  obtain ⟨y209, hy209⟩ : ∃ y_ : List Bool, y_ = (List.replicate ((l0.length : Int) : Int).toNat false) := ⟨_, rfl⟩
  replace H : (if ((l0.length : Int) : Int).toNat ≤ 17592186044416 then (spec_AliasOf.l0 k (l0.length : Int) t205 y206 y209 (List.replicate ((l0.length : Int) : Int).toNat z_Column) l0 (l0.length : Int) 0) else (none)) = some (r1, r2) := by first | (rw [hy209]; with_reducible exact H) | (have H2_ := (Option.bind_some _ _).symm.trans H; rw [hy209]; with_reducible exact H2_) | (have H2_ := (Option.bind_some _ _).symm.trans H; with_reducible exact H2_) | with_reducible exact H | (rw [hy209]; exact H) | exact H
  have Ny209 := Aside0.mk hy209
  clear hy209
  obtain ⟨c8, H⟩ := ifn H
  have c8b0 := eq_true c8
  have c8b1 : decide (((l0.length : Int) : Int).toNat ≤ 17592186044416) = true := decide_eq_true c8
  clear c8
  obtain ⟨y212, hy212⟩ : ∃ y_ : List (S_Column), y_ = (List.replicate ((l0.length : Int) : Int).toNat z_Column) := ⟨_, rfl⟩
  replace H : (spec_AliasOf.l0 k (l0.length : Int) t205 y206 y209 y212 l0 (l0.length : Int) 0) = some (r1, r2) := by first | (rw [hy212]; with_reducible exact H) | (have H2_ := (Option.bind_some _ _).symm.trans H; rw [hy212]; with_reducible exact H2_) | (have H2_ := (Option.bind_some _ _).symm.trans H; with_reducible exact H2_) | with_reducible exact H | (rw [hy212]; exact H) | exact H
  have Ny212 := Aside0.mk hy212
  clear hy212
  have H' := Aside0.mk H
  clear H
  go_enter Try.func42, Try.ntmps42
  go_wp2_with (first | ((with_reducible refine gate_callee (f := 15) rfl ?_); refine goesL_ (some 15) rfl rfl Try.func15 KR rfl #[.slice A0 l0.length c0] rfl TA ?_; (with_reducible refine (spec_GoodWeights.calls k _ _ l0 true _ ?side1 ?side2 A2.out).mono ?_); (case side1 => exact CW (HR0.out)); (case side2 => exact HC0.out); rintro e w' ⟨rfl, ⟨nd, rfl⟩⟩; refine ⟨_, rfl, ?_⟩) | ((with_reducible refine gate_callee (f := 74) rfl ?_); refine goesL_ (some 20) rfl rfl Try.func74 KR rfl #[.slice A0 l0.length c0] rfl TA ?_; (with_reducible refine (spec_l12Total.calls k _ _ l0 t205 _ ?side1 ?side2 A4.out).mono ?_); (case side1 => exact CW (HR0.out)); (case side2 => exact HC0.out); rintro e w' ⟨rfl, ⟨nd, rfl⟩⟩; refine ⟨_, rfl, ?_⟩) | ((with_reducible refine gate_dst (N := 22) rfl ?_); refine Kd.R_make (Kd.int .i64) _ 3 rfl (N := 22) rfl 22 _ _ rfl (l0.length : Int) rfl rfl Try.underlying22 (.int .i64 0) 8 info3 rfl (by decide) (by omega) 0 (ok := fun _ => True) (okp := fun _ => True) rfl (fun _ hk => hk) trivial TD (Nat.le_trans (Nat.mul_le_mul_right _ (TD : (l0.length : Int).toNat ≤ 35184372088832)) (by omega)) (Below.refl _ _) (Nat.le_refl _) ?_; intro v207 w9 ho10 hb hg_ hnew_; clear hg_ hnew_; (first | rw [← Ny206.out] at ho10 | (simp only [Int.reduceToNat] at ho10; rw [← Ny206.out] at ho10)); have HO208 := RL ho10; replace HB := BS hb; clear hb ho10) | ((with_reducible refine gate_dst (N := 24) rfl ?_); refine Kd.R_make Kd.bool _ 4 rfl (N := 24) rfl 88 _ _ rfl (l0.length : Int) rfl rfl Try.underlying88 (.bool false) 1 info4 rfl (by decide) (by omega) false (ok := fun _ => True) (okp := fun _ => True) rfl (fun _ hk => hk) trivial TD (Nat.le_trans (Nat.mul_le_mul_right _ (TD : (l0.length : Int).toNat ≤ 281474976710656)) (by omega)) (Below.refl _ _) (Nat.le_refl _) ?_; intro v210 w11 ho12 hb hg_ hnew_; clear hg_ hnew_; (first | rw [← Ny209.out] at ho12 | (simp only [Int.reduceToNat] at ho12; rw [← Ny209.out] at ho12)); replace HO208 := RB HO208 hb; have HO211 := RL ho12; replace HB := BS hb; clear hb ho12) | ((with_reducible refine gate_dst (N := 26) rfl ?_); refine Kd.R_make k_Column _ 65 rfl (N := 26) rfl 29 _ _ rfl (l0.length : Int) rfl rfl Try.underlying29 (.agg #[(.int .i64 0), (.int .i64 0)]) 16 info65 rfl (by decide) (by omega) z_Column (ok := fun _ => True) (okp := fun _ => True) (k_Column_mkM _ _ _ z_Column ) (fun _ hk => hk) trivial TD (Nat.le_trans (Nat.mul_le_mul_right _ (TD : (l0.length : Int).toNat ≤ 17592186044416)) (by omega)) (Below.refl _ _) (Nat.le_refl _) ?_; intro v213 w13 ho14 hb hg_ hnew_; clear hg_ hnew_; (first | rw [← Ny212.out] at ho14 | (simp only [Int.reduceToNat] at ho14; rw [← Ny212.out] at ho14)); replace HO208 := RB HO208 hb; replace HO211 := RB HO211 hb; have HO214 := RL ho14; replace HB := BS hb; clear hb ho14))
  go_loopg [29] k (fun kq v29 w' => ∃ (x6_1 : List Int) (x8_1 : List (S_Column)) (x29_1 : Int), v29 = .int .i64 x29_1 ∧ Aside0 (spec_AliasOf.l0 kq (l0.length : Int) t205 x6_1 y209 x8_1 l0 (l0.length : Int) x29_1 = some (r1, r2)) ∧ Aside0 (kq ≤ k) ∧ Aside0 (Kd.R (Kd.int .i64) 3 w' w.heap.size (fun _ => True) v207 x6_1) ∧ Aside0 (Kd.R Kd.bool 4 w' w.heap.size (fun _ => True) v210 y209) ∧ Aside0 (Kd.R k_Column 65 w' w.heap.size (fun _ => True) v213 x8_1) ∧ Aside0 (Below w.heap.size w w'))
  case atStart => exact ⟨(y206), (y212), (0), TF, H', ⟨Nat.le_refl _⟩, RW HO208, RW HO211, RW HO214, ⟨TB⟩⟩
  case round =>
   clear H'
   obtain ⟨x6_1, x8_1, x29_1, rfl, HA, HK1, HO_6, HO_7, HO_8, HB⟩ := hrel
   cases gk with
   | zero => exact absurd HA.out (by simp [spec_AliasOf.l0])
   | succ k1 =>
    have H := HA.out
    clear HA
    simp only [spec_AliasOf.l0] at H
    by_cases c15 : x29_1 < (l0.length : Int)
    ·rw [if_pos c15] at H
     have c15b0 : decide (x29_1 < (l0.length : Int)) = true := decide_eq_true c15
     clear c15
     obtain ⟨c16, H⟩ := ifn H
     have c16b0 : decide (0 ≤ x29_1) = true := decide_eq_true c16
     clear c16
     obtain ⟨c17, H⟩ := ifn H
     have c17b0 : decide (x29_1 < (l0.length : Int)) = true := decide_eq_true c17
     clear c17
     obtain ⟨c18, H⟩ := ifn H
     have c18b0 : decide (x29_1 < (x6_1.length : Int)) = true := decide_eq_true c18
     clear c18
     obtain ⟨y216, hy216⟩ : ∃ y_ : List Int, y_ = (x6_1.set (x29_1 : Int).toNat (wrap64 ((rd l0 x29_1) * (l0.length : Int)))) := ⟨_, rfl⟩
     replace H : (if x29_1 < (x8_1.length : Int) then (spec_AliasOf.l0 k1 (l0.length : Int) t205 y216 y209 (x8_1.set (x29_1 : Int).toNat (⟨t205, x29_1⟩ : S_Column)) l0 (l0.length : Int) (wrap64 (x29_1 + 1))) else (none)) = some (r1, r2) := by first | (rw [hy216]; with_reducible exact H) | (have H2_ := (Option.bind_some _ _).symm.trans H; rw [hy216]; with_reducible exact H2_) | (have H2_ := (Option.bind_some _ _).symm.trans H; with_reducible exact H2_) | with_reducible exact H | (rw [hy216]; exact H) | exact H
     have Ny216 := Aside0.mk hy216
     clear hy216
     obtain ⟨c20, H⟩ := ifn H
     have c20b0 : decide (x29_1 < (x8_1.length : Int)) = true := decide_eq_true c20
     clear c20
     obtain ⟨y217, hy217⟩ : ∃ y_ : List (S_Column), y_ = (x8_1.set (x29_1 : Int).toNat (⟨t205, x29_1⟩ : S_Column)) := ⟨_, rfl⟩
     replace H : (spec_AliasOf.l0 k1 (l0.length : Int) t205 y216 y209 y217 l0 (l0.length : Int) (wrap64 (x29_1 + 1))) = some (r1, r2) := by first | (rw [hy217]; with_reducible exact H) | (have H2_ := (Option.bind_some _ _).symm.trans H; rw [hy217]; with_reducible exact H2_) | (have H2_ := (Option.bind_some _ _).symm.trans H; with_reducible exact H2_) | with_reducible exact H | (rw [hy217]; exact H) | exact H
     have Ny217 := Aside0.mk hy217
     clear hy217
     have H' := Aside0.mk H
     clear H
     have p215 : 0 ≤ (x29_1 : Int) := TD
     have q215 : x29_1 < (l0.length : Int) := TD
     obtain ⟨ad215, e215, hx215_0⟩ := Kd.at_int (Kd.C_below HR0.out HB.out) x29_1 p215 q215
     cases e215
     replace p215 := eq_true p215
     replace q215 := eq_true q215
     have p19 : 0 ≤ (x29_1 : Int) := TD
     have q19 : (x29_1 : Int) < ((x6_1.length : Int) : Int) := TD
     obtain ⟨go19, co19, eo19, gb19, gl19, cl19, HG19⟩ := Kd.R_form HO_6.out (by omega)
     (first | cases eo19 | (injection eo19 with ea_ en_ ec_; (first | subst ea_ | (injection ea_ with ea_; subst ea_)); subst ec_; clear en_))
     have GB19 := Aside0.mk gb19
     have GG19 := Aside0.mk HG19
     clear gb19 gl19 HG19
     obtain ⟨hx19_0, hf19_0⟩ := Kd.R_celln 0 HO_6.out (x29_1 : Int) p19 q19
     replace p19 := eq_true p19
     replace q19 := eq_true q19
     have HP22 := Kd.R_putg HO_6.out (x29_1 : Int) (wrap64 ((rd l0 x29_1) * (l0.length : Int)))
     go_wp2_with (first | ((with_reducible refine gate_store (t := 3) (p := 39) rfl ?_); refine store_event (t := 3) (p := 39) (v := ?vo_w23) (w1 := (wr.setCell ⟨go19, (x29_1 : Int).toNat, none⟩ (.int .i64 (wrap64 ((rd l0 x29_1) * (l0.length : Int)))))) ?hg ?ho ?hn ?hr ?_; (case ho => rfl); (case hg => rfl); (case hn => rfl); (case hr => first | (go_simp; done) | (go_simp; rfl)); intro w23 hw; have hg : wr.grownBy w23 (some go19) := (by rw [hw]; exact HP22.2); have hp_ : Kd.R (Kd.int .i64) 3 w23 w.heap.size (fun _ => True) (.slice (some ⟨go19, 0, none⟩) x6_1.length co19) y216 := (by rw [hw, Ny216.out]; exact HP22.1); clear HP22; replace HO_7 := Aside0.mk (Kd.R_over' (v := (.slice (some ⟨go19, 0, none⟩) x6_1.length co19)) (RW HO_7).out (Kd.R_typed HO_6.out) (by decide) hg); replace HO_8 := Aside0.mk (Kd.R_over' (v := (.slice (some ⟨go19, 0, none⟩) x6_1.length co19)) (RW HO_8).out (Kd.R_typed HO_6.out) (by decide) hg); replace HO_6 := Aside0.mk (hp_); replace HB := Aside0.mk ((by rw [hw]; exact below_set (HB.out) GB19.out : Below w.heap.size w w23)); clear hg hw hp_; have p21 : 0 ≤ (x29_1 : Int) := TD; have q21 : (x29_1 : Int) < ((x8_1.length : Int) : Int) := TD; obtain ⟨go21, co21, eo21, gb21, gl21, cl21, HG21⟩ := Kd.R_form HO_8.out (by omega); (first | cases eo21 | (injection eo21 with ea_ en_ ec_; (first | subst ea_ | (injection ea_ with ea_; subst ea_)); subst ec_; clear en_)); have GB21 := Aside0.mk gb21; have GG21 := Aside0.mk HG21; clear gb21 gl21 HG21; obtain ⟨ce21, hcl21, hM21, hcc21, hfr21⟩ := Kd.R_elem HO_8.out z_Column (x29_1 : Int) p21 q21; obtain rfl := k_Column_openM hM21; have hx21_0 : w23.cell? ⟨go21, (x29_1 : Int).toNat * 2, none⟩ = some (.int .i64 ((rd_TColumn x8_1 x29_1).f0)) := hcc21 0 _ rfl; have hx21_1 : w23.cell? ⟨go21, (x29_1 : Int).toNat * 2 + 1, none⟩ = some (.int .i64 ((rd_TColumn x8_1 x29_1).f1)) := hcc21 1 _ rfl; have hf21_0 : w23.frozen? ⟨go21, (x29_1 : Int).toNat * 2, none⟩ = false := hfr21 0; have hf21_1 : w23.frozen? ⟨go21, (x29_1 : Int).toNat * 2 + 1, none⟩ = false := hfr21 1; clear hcl21 hcc21 hfr21 hM21; replace p21 := eq_true p21; replace q21 := eq_true q21; have HX24 := Aside0.mk (show Kd.R k_Column 65 w23 w.heap.size (fun _ => True) (.slice (some ⟨go21, 0, none⟩) x8_1.length co21) x8_1 from (RW HO_8).out); obtain ⟨ce24, hcl24, hM24, hcc24, hfr24⟩ := Kd.R_elem HX24.out z_Column (x29_1 : Int) TD (by have h_ : (x29_1 : Int) < ((x8_1.length : Int) : Int) := TD; first | exact h_ | (have e_ := (Kd.R_reads' HO_8.out).1; omega) | simpa using h_); obtain rfl := k_Column_openM hM24; have HP24 := Kd.R_seg HX24.out (x29_1 : Int) TD (by have h_ : (x29_1 : Int) < ((x8_1.length : Int) : Int) := TD; first | exact h_ | (have e_ := (Kd.R_reads' HO_8.out).1; omega) | simpa using h_) (seg := [.int .i64 t205, .int .i64 x29_1]) (j := 0) hcl24 hcc24 (show 2 ≤ 2 from by decide) (x' := (⟨t205, x29_1⟩ : S_Column)) (k_Column_mkM _ _ _ (⟨t205, x29_1⟩ : S_Column) ) (fun _ hk => hk); have hx24_0 := hcc24 0 _ rfl; (try simp only [show (k_Column).sz = 2 from rfl, Nat.mul_one, Nat.add_zero] at hx24_0); have hf24_0 := hfr24 0; (try simp only [show (k_Column).sz = 2 from rfl, Nat.mul_one, Nat.add_zero] at hf24_0); have hx24_1 := hcc24 1 _ rfl; (try simp only [show (k_Column).sz = 2 from rfl, Nat.mul_one, Nat.add_zero] at hx24_1); have hf24_1 := hfr24 1; (try simp only [show (k_Column).sz = 2 from rfl, Nat.mul_one, Nat.add_zero] at hf24_1); clear hcl24 hcc24 hfr24 hM24) | ((with_reducible refine gate_store (t := 65) (p := 45) rfl ?_); refine store_event (t := 65) (p := 45) (v := ?vo_w25) (w1 := ((w23.setCell ⟨go21, (x29_1 : Int).toNat * 2, none⟩ (.int .i64 t205)).setCell ⟨go21, (x29_1 : Int).toNat * 2 + 1, none⟩ (.int .i64 x29_1))) ?hg ?ho ?hn ?hr ?_; (case ho => rfl); (case hg => rfl); (case hn => rfl); (case hr => first | (go_simp; done) | (go_simp; rfl)); intro w25 hw; have hg : w23.grownBy w25 (some go21) := (by rw [hw]; exact HP24.2); have hp_ : Kd.R k_Column 65 w25 w.heap.size (fun _ => True) (.slice (some ⟨go21, 0, none⟩) x8_1.length co21) y217 := (by rw [hw, Ny217.out]; exact HP24.1); clear HP24; replace HO_6 := Aside0.mk (Kd.R_over' (v := (.slice (some ⟨go21, 0, none⟩) x8_1.length co21)) (RW HO_6).out (Kd.R_typed HO_8.out) (by decide) hg); replace HO_7 := Aside0.mk (Kd.R_over' (v := (.slice (some ⟨go21, 0, none⟩) x8_1.length co21)) (RW HO_7).out (Kd.R_typed HO_8.out) (by decide) hg); replace HO_8 := Aside0.mk (hp_); replace HB := Aside0.mk ((by rw [hw]; exact below_set (below_set (HB.out) GB21.out) GB21.out : Below w.heap.size w w25)); clear hg hw hp_))
     go_roundg k1
     case measure => have := HK1.out; omega
     case rel => exact ⟨(y216), (y217), (wrap64 (x29_1 + 1)), TF, H', ⟨TM⟩, RW HO_6, RW HO_7, RW HO_8, ⟨TB⟩⟩
    ·rw [if_neg c15] at H
     have c15b0 : decide (x29_1 < (l0.length : Int)) = false := decide_eq_false c15
     clear c15
     have H' := Aside0.mk H
     clear H
     go_wp2
     go_loopg [] k1 (fun kq w' => ∃ (x6_2 : List Int) (x7_2 : List Bool) (x8_2 : List (S_Column)), Aside0 (spec_AliasOf.l1 kq t205 x6_2 x7_2 x8_2 = some (r1, r2)) ∧ Aside0 (kq ≤ k1) ∧ Aside0 (Kd.R (Kd.int .i64) 3 w' w.heap.size (fun _ => True) v207 x6_2) ∧ Aside0 (Kd.R Kd.bool 4 w' w.heap.size (fun _ => True) v210 x7_2) ∧ Aside0 (Kd.R k_Column 65 w' w.heap.size (fun _ => True) v213 x8_2) ∧ Aside0 (Below w.heap.size w w'))
     case atStart => exact ⟨(x6_1), (y209), (x8_1), H', ⟨Nat.le_refl _⟩, RW HO_6, RW HO_7, RW HO_8, ⟨TB⟩⟩
     case round =>
      clear H'
      obtain ⟨x6_2, x7_2, x8_2, HA, HK2, HO_6, HO_7, HO_8, HB⟩ := hrel
      cases gk with
      | zero => exact absurd HA.out (by simp [spec_AliasOf.l1])
      | succ k2 =>
       have H := HA.out
       clear HA
       simp only [spec_AliasOf.l1] at H
       have H' := Aside0.mk H
       clear H
       obtain ⟨Ao26, co26, eo26⟩ := Kd.R_slice HO_6.out
       subst eo26
       go_wp2
       go_loopg [11, 12, 49] k2 (fun kq v11 v12 v49 w' => ∃ (x11_3 : Int) (x12_3 : Int) (x49_3 : Int), v11 = .int .i64 x11_3 ∧ v12 = .int .i64 x12_3 ∧ v49 = .int .i64 x49_3 ∧ Aside0 (spec_AliasOf.l2 kq t205 x6_2 x7_2 x8_2 x11_3 x12_3 (x6_2.length : Int) x49_3 = some (r1, r2)) ∧ Aside0 (kq ≤ k2) ∧ Aside0 (Kd.R (Kd.int .i64) 3 w' w.heap.size (fun _ => True) (.slice Ao26 x6_2.length co26) x6_2) ∧ Aside0 (Kd.R Kd.bool 4 w' w.heap.size (fun _ => True) v210 x7_2) ∧ Aside0 (Kd.R k_Column 65 w' w.heap.size (fun _ => True) v213 x8_2) ∧ Aside0 (Below w.heap.size w w'))
       case atStart => exact ⟨((-1)), ((-1)), (0), TF, TF, TF, H', ⟨Nat.le_refl _⟩, RW HO_6, RW HO_7, RW HO_8, ⟨TB⟩⟩
       case round =>
        clear H'
        obtain ⟨x11_3, x12_3, x49_3, rfl, rfl, rfl, HA, HK3, HO_6, HO_7, HO_8, HB⟩ := hrel
        cases gk with
        | zero => exact absurd HA.out (by simp [spec_AliasOf.l2])
        | succ k3 =>
         have H := HA.out
         clear HA
         simp only [spec_AliasOf.l2] at H
         by_cases c27 : x49_3 < (x6_2.length : Int)
         ·rw [if_pos c27] at H
          have c27b0 : decide (x49_3 < (x6_2.length : Int)) = true := decide_eq_true c27
          clear c27
          obtain ⟨c28, H⟩ := ifn H
          have c28b0 : decide (0 ≤ x49_3) = true := decide_eq_true c28
          clear c28
          obtain ⟨c29, H⟩ := ifn H
          have c29b0 : decide (x49_3 < (x7_2.length : Int)) = true := decide_eq_true c29
          clear c29
          obtain ⟨bq30, hbq30⟩ : ∃ b_ : Bool, b_ = (rdOf false x7_2 x49_3) := ⟨_, rfl⟩
          replace H : (if bq30 = true then (spec_AliasOf.l2 k3 t205 x6_2 x7_2 x8_2 x11_3 x12_3 (x6_2.length : Int) (wrap64 (x49_3 + 1))) else (if x49_3 < (x6_2.length : Int) then (if (rd x6_2 x49_3) < t205 then (spec_AliasOf.j3 k3 t205 x6_2 x7_2 x8_2 x11_3 x12_3 x49_3 (x6_2.length : Int) x49_3 (decide (x11_3 < 0))) else (spec_AliasOf.j3 k3 t205 x6_2 x7_2 x8_2 x11_3 x12_3 x49_3 (x6_2.length : Int) x49_3 false)) else (none))) = some (r1, r2) := by rw [← hbq30] at H; exact H
          have Nbq30 := Aside0.mk hbq30
          clear hbq30
          by_cases c31 : bq30 = true
          ·subst c31
           replace H := ift H
           have H' := Aside0.mk H
           clear H
           obtain ⟨Ao32, co32, eo32⟩ := Kd.R_slice HO_7.out
           subst eo32
           have p224 : 0 ≤ (x49_3 : Int) := TD
           have q224 : x49_3 < (x7_2.length : Int) := TD
           obtain ⟨ad224, e224, hx224_0⟩ := Kd.at_bool (Kd.R_reads' HO_7.out).2.2 x49_3 p224 q224
           (try rw [← Nbq30.out] at hx224_0)
           cases e224
           replace p224 := eq_true p224
           replace q224 := eq_true q224
           go_wp2
           go_roundg k3
           case measure => have := HK1.out; have := HK2.out; have := HK3.out; omega
           case rel => exact ⟨(x11_3), (x12_3), (wrap64 (x49_3 + 1)), TF, TF, TF, H', ⟨by have := HK1.out; have := HK2.out; have := HK3.out; omega⟩, RW HO_6, RW HO_7, RW HO_8, ⟨TB⟩⟩
          ·replace c31 := Bool.eq_false_iff.mpr c31
           subst c31
           replace H := iff' H
           have HC33 := Aside0.mk H
           clear H
           obtain ⟨Ao34, co34, eo34⟩ := Kd.R_slice HO_7.out
           subst eo34
           have p224 : 0 ≤ (x49_3 : Int) := TD
           have q224 : x49_3 < (x7_2.length : Int) := TD
           obtain ⟨ad224, e224, hx224_0⟩ := Kd.at_bool (Kd.R_reads' HO_7.out).2.2 x49_3 p224 q224
           (try rw [← Nbq30.out] at hx224_0)
           cases e224
           replace p224 := eq_true p224
           replace q224 := eq_true q224
           go_upto_region 20 with (fail)
           go_cut [65] (fun v65 wc => ∃ (kq : Nat) (x65_32 : Bool), v65 = .bool x65_32 ∧ Aside0 (spec_AliasOf.j3 kq t205 x6_2 x7_2 x8_2 x11_3 x12_3 x49_3 (x6_2.length : Int) x49_3 x65_32 = some (r1, r2)) ∧ Aside0 (kq ≤ k3) ∧ Aside0 (Kd.R (Kd.int .i64) 3 wc w.heap.size (fun _ => True) (.slice Ao26 x6_2.length co26) x6_2) ∧ Aside0 (Kd.R Kd.bool 4 wc w.heap.size (fun _ => True) (.slice (some ad224) x7_2.length co34) x7_2) ∧ Aside0 (Kd.R k_Column 65 wc w.heap.size (fun _ => True) v213 x8_2) ∧ Aside0 (Below w.heap.size w wc))
           case first =>
            have H := HC33.out
            clear HC33
            obtain ⟨c35, H⟩ := ifn H
            have c35b0 : decide (x49_3 < (x6_2.length : Int)) = true := decide_eq_true c35
            clear c35
            (first | rw [c35b0] | (simp only [i64_w, i32_w]; rw [c35b0]) | skip)
            by_cases c36 : (rd x6_2 x49_3) < t205
            ·rw [if_pos c36] at H
             have c36b0 : decide ((rd x6_2 x49_3) < t205) = true := decide_eq_true c36
             clear c36
             have H' := Aside0.mk H
             clear H
             have p225 : 0 ≤ (x49_3 : Int) := TD
             have q225 : x49_3 < (x6_2.length : Int) := TD
             obtain ⟨ad225, e225, hx225_0⟩ := Kd.at_int (Kd.R_reads' HO_6.out).2.2 x49_3 p225 q225
             cases e225
             replace p225 := eq_true p225
             replace q225 := eq_true q225
             go_wp2
             go_meet
             case rel => exact ⟨_, (decide (x11_3 < 0)), TF, H', ⟨by have := HK1.out; have := HK2.out; have := HK3.out; first | omega | exact Nat.le_refl _⟩, RW HO_6, RW HO_7, RW HO_8, ⟨TB⟩⟩
            ·rw [if_neg c36] at H
             have c36b0 : decide ((rd x6_2 x49_3) < t205) = false := decide_eq_false c36
             clear c36
             have H' := Aside0.mk H
             clear H
             have p225 : 0 ≤ (x49_3 : Int) := TD
             have q225 : x49_3 < (x6_2.length : Int) := TD
             obtain ⟨ad225, e225, hx225_0⟩ := Kd.at_int (Kd.R_reads' HO_6.out).2.2 x49_3 p225 q225
             cases e225
             replace p225 := eq_true p225
             replace q225 := eq_true q225
             go_wp2
             go_meet
             case rel => exact ⟨_, (false), TF, H', ⟨by have := HK1.out; have := HK2.out; have := HK3.out; first | omega | exact Nat.le_refl _⟩, RW HO_6, RW HO_7, RW HO_8, ⟨TB⟩⟩
           case rest =>
            clear HC33
            obtain ⟨kq, x65_32, rfl, HA, HJ32, HO_6, HO_7, HO_8, HB⟩ := hcut
            cases kq with
            | zero => exact absurd HA.out (by simp [spec_AliasOf.j3])
            | succ kj32 =>
             have H := HA.out
             clear HA
             simp only [spec_AliasOf.j3] at H
             by_cases c37 : x65_32 = true
             ·subst c37
              replace H := ift H
              obtain ⟨c38, H⟩ := ifn H
              have c38b0 : decide (0 ≤ x49_3) = true := decide_eq_true c38
              clear c38
              obtain ⟨c39, H⟩ := ifn H
              have c39b0 : decide (x49_3 < (x6_2.length : Int)) = true := decide_eq_true c39
              clear c39
              by_cases c40 : (rd x6_2 x49_3) > t205
              ·rw [if_pos c40] at H
               have c40b0 : decide (t205 < (rd x6_2 x49_3)) = true := decide_eq_true c40
               clear c40
               by_cases c41 : x12_3 < 0
               ·rw [if_pos c41] at H
                have c41b0 : decide (x12_3 < 0) = true := decide_eq_true c41
                clear c41
                have H' := Aside0.mk H
                clear H
                have p226 : 0 ≤ (x49_3 : Int) := TD
                have q226 : x49_3 < (x6_2.length : Int) := TD
                obtain ⟨ad226, e226, hx226_0⟩ := Kd.at_int (Kd.R_reads' HO_6.out).2.2 x49_3 p226 q226
                cases e226
                replace p226 := eq_true p226
                replace q226 := eq_true q226
                go_wp2
                go_roundg kj32
                case measure => have := HK1.out; have := HK2.out; have := HK3.out; have := HJ32.out; omega
                case rel => exact ⟨(x49_3), (x49_3), (wrap64 (x49_3 + 1)), TF, TF, TF, H', ⟨by have := HK1.out; have := HK2.out; have := HK3.out; have := HJ32.out; omega⟩, RW HO_6, RW HO_7, RW HO_8, ⟨TB⟩⟩
               ·rw [if_neg c41] at H
                have c41b0 : decide (x12_3 < 0) = false := decide_eq_false c41
                clear c41
                have H' := Aside0.mk H
                clear H
                have p226 : 0 ≤ (x49_3 : Int) := TD
                have q226 : x49_3 < (x6_2.length : Int) := TD
                obtain ⟨ad226, e226, hx226_0⟩ := Kd.at_int (Kd.R_reads' HO_6.out).2.2 x49_3 p226 q226
                cases e226
                replace p226 := eq_true p226
                replace q226 := eq_true q226
                go_wp2
                go_roundg kj32
                case measure => have := HK1.out; have := HK2.out; have := HK3.out; have := HJ32.out; omega
                case rel => exact ⟨(x49_3), (x12_3), (wrap64 (x49_3 + 1)), TF, TF, TF, H', ⟨by have := HK1.out; have := HK2.out; have := HK3.out; have := HJ32.out; omega⟩, RW HO_6, RW HO_7, RW HO_8, ⟨TB⟩⟩
              ·rw [if_neg c40] at H
               have c40b0 : decide (t205 < (rd x6_2 x49_3)) = false := decide_eq_false c40
               clear c40
               have H' := Aside0.mk H
               clear H
               have p226 : 0 ≤ (x49_3 : Int) := TD
               have q226 : x49_3 < (x6_2.length : Int) := TD
               obtain ⟨ad226, e226, hx226_0⟩ := Kd.at_int (Kd.R_reads' HO_6.out).2.2 x49_3 p226 q226
               cases e226
               replace p226 := eq_true p226
               replace q226 := eq_true q226
               go_wp2
               go_roundg kj32
               case measure => have := HK1.out; have := HK2.out; have := HK3.out; have := HJ32.out; omega
               case rel => exact ⟨(x49_3), (x12_3), (wrap64 (x49_3 + 1)), TF, TF, TF, H', ⟨by have := HK1.out; have := HK2.out; have := HK3.out; have := HJ32.out; omega⟩, RW HO_6, RW HO_7, RW HO_8, ⟨TB⟩⟩
             ·replace c37 := Bool.eq_false_iff.mpr c37
              subst c37
              replace H := iff' H
              obtain ⟨c42, H⟩ := ifn H
              have c42b0 : decide (0 ≤ x49_3) = true := decide_eq_true c42
              clear c42
              obtain ⟨c43, H⟩ := ifn H
              have c43b0 : decide (x49_3 < (x6_2.length : Int)) = true := decide_eq_true c43
              clear c43
              by_cases c44 : (rd x6_2 x49_3) > t205
              ·rw [if_pos c44] at H
               have c44b0 : decide (t205 < (rd x6_2 x49_3)) = true := decide_eq_true c44
               clear c44
               by_cases c45 : x12_3 < 0
               ·rw [if_pos c45] at H
                have c45b0 : decide (x12_3 < 0) = true := decide_eq_true c45
                clear c45
                have H' := Aside0.mk H
                clear H
                have p227 : 0 ≤ (x49_3 : Int) := TD
                have q227 : x49_3 < (x6_2.length : Int) := TD
                obtain ⟨ad227, e227, hx227_0⟩ := Kd.at_int (Kd.R_reads' HO_6.out).2.2 x49_3 p227 q227
                cases e227
                replace p227 := eq_true p227
                replace q227 := eq_true q227
                go_wp2
                go_roundg kj32
                case measure => have := HK1.out; have := HK2.out; have := HK3.out; have := HJ32.out; omega
                case rel => exact ⟨(x11_3), (x49_3), (wrap64 (x49_3 + 1)), TF, TF, TF, H', ⟨by have := HK1.out; have := HK2.out; have := HK3.out; have := HJ32.out; omega⟩, RW HO_6, RW HO_7, RW HO_8, ⟨TB⟩⟩
               ·rw [if_neg c45] at H
                have c45b0 : decide (x12_3 < 0) = false := decide_eq_false c45
                clear c45
                have H' := Aside0.mk H
                clear H
                have p227 : 0 ≤ (x49_3 : Int) := TD
                have q227 : x49_3 < (x6_2.length : Int) := TD
                obtain ⟨ad227, e227, hx227_0⟩ := Kd.at_int (Kd.R_reads' HO_6.out).2.2 x49_3 p227 q227
                cases e227
                replace p227 := eq_true p227
                replace q227 := eq_true q227
                go_wp2
                go_roundg kj32
                case measure => have := HK1.out; have := HK2.out; have := HK3.out; have := HJ32.out; omega
                case rel => exact ⟨(x11_3), (x12_3), (wrap64 (x49_3 + 1)), TF, TF, TF, H', ⟨by have := HK1.out; have := HK2.out; have := HK3.out; have := HJ32.out; omega⟩, RW HO_6, RW HO_7, RW HO_8, ⟨TB⟩⟩
              ·rw [if_neg c44] at H
               have c44b0 : decide (t205 < (rd x6_2 x49_3)) = false := decide_eq_false c44
               clear c44
               have H' := Aside0.mk H
               clear H
               have p227 : 0 ≤ (x49_3 : Int) := TD
               have q227 : x49_3 < (x6_2.length : Int) := TD
               obtain ⟨ad227, e227, hx227_0⟩ := Kd.at_int (Kd.R_reads' HO_6.out).2.2 x49_3 p227 q227
               cases e227
               replace p227 := eq_true p227
               replace q227 := eq_true q227
               go_wp2
               go_roundg kj32
               case measure => have := HK1.out; have := HK2.out; have := HK3.out; have := HJ32.out; omega
               case rel => exact ⟨(x11_3), (x12_3), (wrap64 (x49_3 + 1)), TF, TF, TF, H', ⟨by have := HK1.out; have := HK2.out; have := HK3.out; have := HJ32.out; omega⟩, RW HO_6, RW HO_7, RW HO_8, ⟨TB⟩⟩
         ·rw [if_neg c27] at H
          have c27b0 : decide (x49_3 < (x6_2.length : Int)) = false := decide_eq_false c27
          clear c27
          by_cases c46 : x11_3 < 0
          ·rw [if_pos c46] at H
           have c46b0 : decide (x11_3 < 0) = true := decide_eq_true c46
           clear c46
           simp only [Option.some.injEq, Prod.mk.injEq] at H
           obtain ⟨rfl, rfl⟩ := H
           go_wp2
           go_ret2
           exact ⟨_, TE, (RW HO_8).out, TB⟩
          ·rw [if_neg c46] at H
           have c46b0 : decide (x11_3 < 0) = false := decide_eq_false c46
           clear c46
           by_cases c47 : x12_3 < 0
           ·rw [if_pos c47] at H
            have c47b0 : decide (x12_3 < 0) = true := decide_eq_true c47
            clear c47
            simp only [Option.some.injEq, Prod.mk.injEq] at H
            obtain ⟨rfl, rfl⟩ := H
            go_wp2
            go_ret2
            exact ⟨_, TE, (RW HO_8).out, TB⟩
           ·rw [if_neg c47] at H
            have c47b0 : decide (x12_3 < 0) = false := decide_eq_false c47
            clear c47
            obtain ⟨c48, H⟩ := ifn H
            have c48b0 : decide (0 ≤ x11_3) = true := decide_eq_true c48
            clear c48
            obtain ⟨c49, H⟩ := ifn H
            have c49b0 : decide (x11_3 < (x6_2.length : Int)) = true := decide_eq_true c49
            clear c49
            obtain ⟨c50, H⟩ := ifn H
            have c50b0 : decide (x11_3 < (x8_2.length : Int)) = true := decide_eq_true c50
            clear c50
            obtain ⟨y219, hy219⟩ : ∃ y_ : List (S_Column), y_ = (x8_2.set (x11_3 : Int).toNat (⟨rd x6_2 x11_3, x12_3⟩ : S_Column)) := ⟨_, rfl⟩
            replace H : (if 0 ≤ x12_3 then (if x12_3 < (x6_2.length : Int) then (if x11_3 < (x7_2.length : Int) then (spec_AliasOf.l1 k3 t205 (x6_2.set (x12_3 : Int).toNat (wrap64 ((rd x6_2 x12_3) - (wrap64 (t205 - (rd x6_2 x11_3)))))) (x7_2.set (x11_3 : Int).toNat true) y219) else (none)) else (none)) else (none)) = some (r1, r2) := by first | (rw [hy219]; with_reducible exact H) | (have H2_ := (Option.bind_some _ _).symm.trans H; rw [hy219]; with_reducible exact H2_) | (have H2_ := (Option.bind_some _ _).symm.trans H; with_reducible exact H2_) | with_reducible exact H | (rw [hy219]; exact H) | exact H
            have Ny219 := Aside0.mk hy219
            clear hy219
            obtain ⟨c52, H⟩ := ifn H
            have c52b0 : decide (0 ≤ x12_3) = true := decide_eq_true c52
            clear c52
            obtain ⟨c53, H⟩ := ifn H
            have c53b0 : decide (x12_3 < (x6_2.length : Int)) = true := decide_eq_true c53
            clear c53
            obtain ⟨y222, hy222⟩ : ∃ y_ : List Int, y_ = (x6_2.set (x12_3 : Int).toNat (wrap64 ((rd x6_2 x12_3) - (wrap64 (t205 - (rd x6_2 x11_3)))))) := ⟨_, rfl⟩
            replace H : (if x11_3 < (x7_2.length : Int) then (spec_AliasOf.l1 k3 t205 y222 (x7_2.set (x11_3 : Int).toNat true) y219) else (none)) = some (r1, r2) := by first | (rw [hy222]; with_reducible exact H) | (have H2_ := (Option.bind_some _ _).symm.trans H; rw [hy222]; with_reducible exact H2_) | (have H2_ := (Option.bind_some _ _).symm.trans H; with_reducible exact H2_) | with_reducible exact H | (rw [hy222]; exact H) | exact H
            have Ny222 := Aside0.mk hy222
            clear hy222
            obtain ⟨c55, H⟩ := ifn H
            have c55b0 : decide (x11_3 < (x7_2.length : Int)) = true := decide_eq_true c55
            clear c55
            obtain ⟨y223, hy223⟩ : ∃ y_ : List Bool, y_ = (x7_2.set (x11_3 : Int).toNat true) := ⟨_, rfl⟩
            replace H : (spec_AliasOf.l1 k3 t205 y222 y223 y219) = some (r1, r2) := by first | (rw [hy223]; with_reducible exact H) | (have H2_ := (Option.bind_some _ _).symm.trans H; rw [hy223]; with_reducible exact H2_) | (have H2_ := (Option.bind_some _ _).symm.trans H; with_reducible exact H2_) | with_reducible exact H | (rw [hy223]; exact H) | exact H
            have Ny223 := Aside0.mk hy223
            clear hy223
            have H' := Aside0.mk H
            clear H
            have p218 : 0 ≤ (x11_3 : Int) := TD
            have q218 : x11_3 < (x6_2.length : Int) := TD
            obtain ⟨ad218, e218, hx218_0⟩ := Kd.at_int (Kd.R_reads' HO_6.out).2.2 x11_3 p218 q218
            cases e218
            replace p218 := eq_true p218
            replace q218 := eq_true q218
            have p51 : 0 ≤ (x11_3 : Int) := TD
            have q51 : (x11_3 : Int) < ((x8_2.length : Int) : Int) := TD
            obtain ⟨go51, co51, eo51, gb51, gl51, cl51, HG51⟩ := Kd.R_form HO_8.out (by omega)
            (first | cases eo51 | (injection eo51 with ea_ en_ ec_; (first | subst ea_ | (injection ea_ with ea_; subst ea_)); subst ec_; clear en_))
            have GB51 := Aside0.mk gb51
            have GG51 := Aside0.mk HG51
            clear gb51 gl51 HG51
            obtain ⟨ce51, hcl51, hM51, hcc51, hfr51⟩ := Kd.R_elem HO_8.out z_Column (x11_3 : Int) p51 q51
            obtain rfl := k_Column_openM hM51
            have hx51_0 : wr.cell? ⟨go51, (x11_3 : Int).toNat * 2, none⟩ = some (.int .i64 ((rd_TColumn x8_2 x11_3).f0)) := hcc51 0 _ rfl
            have hx51_1 : wr.cell? ⟨go51, (x11_3 : Int).toNat * 2 + 1, none⟩ = some (.int .i64 ((rd_TColumn x8_2 x11_3).f1)) := hcc51 1 _ rfl
            have hf51_0 : wr.frozen? ⟨go51, (x11_3 : Int).toNat * 2, none⟩ = false := hfr51 0
            have hf51_1 : wr.frozen? ⟨go51, (x11_3 : Int).toNat * 2 + 1, none⟩ = false := hfr51 1
            clear hcl51 hcc51 hfr51 hM51
            replace p51 := eq_true p51
            replace q51 := eq_true q51
            have HX57 := Aside0.mk (show Kd.R k_Column 65 wr w.heap.size (fun _ => True) (.slice (some ⟨go51, 0, none⟩) x8_2.length co51) x8_2 from (RW HO_8).out)
            obtain ⟨ce57, hcl57, hM57, hcc57, hfr57⟩ := Kd.R_elem HX57.out z_Column (x11_3 : Int) TD (by have h_ : (x11_3 : Int) < ((x8_2.length : Int) : Int) := TD; first | exact h_ | (have e_ := (Kd.R_reads' HO_8.out).1; omega) | simpa using h_)
            obtain rfl := k_Column_openM hM57
            have HP57 := Kd.R_seg HX57.out (x11_3 : Int) TD (by have h_ : (x11_3 : Int) < ((x8_2.length : Int) : Int) := TD; first | exact h_ | (have e_ := (Kd.R_reads' HO_8.out).1; omega) | simpa using h_) (seg := [.int .i64 (rd x6_2 x11_3), .int .i64 x12_3]) (j := 0) hcl57 hcc57 (show 2 ≤ 2 from by decide) (x' := (⟨rd x6_2 x11_3, x12_3⟩ : S_Column)) (k_Column_mkM _ _ _ (⟨rd x6_2 x11_3, x12_3⟩ : S_Column) ) (fun _ hk => hk)
            have hx57_0 := hcc57 0 _ rfl
            (try simp only [show (k_Column).sz = 2 from rfl, Nat.mul_one, Nat.add_zero] at hx57_0)
            have hf57_0 := hfr57 0
            (try simp only [show (k_Column).sz = 2 from rfl, Nat.mul_one, Nat.add_zero] at hf57_0)
            have hx57_1 := hcc57 1 _ rfl
            (try simp only [show (k_Column).sz = 2 from rfl, Nat.mul_one, Nat.add_zero] at hx57_1)
            have hf57_1 := hfr57 1
            (try simp only [show (k_Column).sz = 2 from rfl, Nat.mul_one, Nat.add_zero] at hf57_1)
            clear hcl57 hcc57 hfr57 hM57
            try go_wp2_with (first | ((with_reducible refine gate_store (t := 65) (p := 94) rfl ?_); refine store_event (t := 65) (p := 94) (v := ?vo_w58) (w1 := ((wr.setCell ⟨go51, (x11_3 : Int).toNat * 2, none⟩ (.int .i64 (rd x6_2 x11_3))).setCell ⟨go51, (x11_3 : Int).toNat * 2 + 1, none⟩ (.int .i64 x12_3))) ?hg ?ho ?hn ?hr ?_; (case ho => rfl); (case hg => rfl); (case hn => rfl); (case hr => first | (go_simp; done) | (go_simp; rfl)); intro w58 hw; have hg : wr.grownBy w58 (some go51) := (by rw [hw]; exact HP57.2); have hp_ : Kd.R k_Column 65 w58 w.heap.size (fun _ => True) (.slice (some ⟨go51, 0, none⟩) x8_2.length co51) y219 := (by rw [hw, Ny219.out]; exact HP57.1); clear HP57; replace HO_6 := Aside0.mk (Kd.R_over' (v := (.slice (some ⟨go51, 0, none⟩) x8_2.length co51)) (RW HO_6).out (Kd.R_typed HO_8.out) (by decide) hg); replace HO_7 := Aside0.mk (Kd.R_over' (v := (.slice (some ⟨go51, 0, none⟩) x8_2.length co51)) (RW HO_7).out (Kd.R_typed HO_8.out) (by decide) hg); replace HO_8 := Aside0.mk (hp_); replace HB := Aside0.mk ((by rw [hw]; exact below_set (below_set (HB.out) GB51.out) GB51.out : Below w.heap.size w w58)); clear hg hw hp_))
            replace HO_6 := Aside0.mk (Kd.R_drew HO_6.out)
            replace HO_7 := Aside0.mk (Kd.R_drew HO_7.out)
            replace HO_8 := Aside0.mk (Kd.R_drew HO_8.out)
            replace HB := Aside0.mk (below_drew1 HB.out)
            have p220 : 0 ≤ (x12_3 : Int) := TD
            have q220 : x12_3 < (x6_2.length : Int) := TD
            obtain ⟨ad220, e220, hx220_0⟩ := Kd.at_int (Kd.R_reads' HO_6.out).2.2 x12_3 p220 q220
            obtain rfl : ad218 = ad220 := (by injection e220)
            replace p220 := eq_true p220
            replace q220 := eq_true q220
            have p221 : 0 ≤ (x11_3 : Int) := TD
            have q221 : x11_3 < (x6_2.length : Int) := TD
            obtain ⟨ad221, e221, hx221_0⟩ := Kd.at_int (Kd.R_reads' HO_6.out).2.2 x11_3 p221 q221
            obtain rfl : ad218 = ad221 := (by injection e221)
            replace p221 := eq_true p221
            replace q221 := eq_true q221
            have p54 : 0 ≤ (x12_3 : Int) := TD
            have q54 : (x12_3 : Int) < ((x6_2.length : Int) : Int) := TD
            obtain ⟨go54, co54, eo54, gb54, gl54, cl54, HG54⟩ := Kd.R_form HO_6.out (by omega)
            (first | cases eo54 | (injection eo54 with ea_ en_ ec_; (first | subst ea_ | (injection ea_ with ea_; subst ea_)); subst ec_; clear en_))
            have GB54 := Aside0.mk gb54
            have GG54 := Aside0.mk HG54
            clear gb54 gl54 HG54
            (first | simp only [add_plain] at hx218_0 | skip)
            (first | simp only [add_plain] at hx220_0 | skip)
            (first | simp only [add_plain] at hx221_0 | skip)
            obtain ⟨hx54_0, hf54_0⟩ := Kd.R_celln 0 HO_6.out (x12_3 : Int) p54 q54
            replace p54 := eq_true p54
            replace q54 := eq_true q54
            have HP60 := Kd.R_putn HO_6.out (x12_3 : Int) (wrap64 ((rd x6_2 x12_3) - (wrap64 (t205 - (rd x6_2 x11_3)))))
            rw [← Ny222.out] at HP60
            have HQ60 := Aside0.mk HP60
            clear HP60
            refine start_ (n := 13) (S := fun w' => w'.cell? ⟨go54, (x12_3).toNat, none⟩ = some (.int .i64 (rd x6_2 x12_3)) ∧ w'.cell? ⟨go54, (x11_3).toNat, none⟩ = some (.int .i64 (rd x6_2 x11_3))) (ds := [12]) #[false, false, false, false, false, false, false, false, false, false, false, false, false] KR rfl rfl ⟨hx220_0, hx221_0⟩ (fun hHeld => ?_); refine with_tabW spec_AliasOf.tab28 spec_AliasOf.bits28 (fun HT_ HW_ => ?_)
            generalize w58.drew = w59 at HO_6 HO_7 HO_8 HB GG54 HQ60 hf54_0 hx218_0 hx220_0 hx221_0 hx54_0 hHeld ⊢
            refine pA 0 95 (mL 13 1) HT_ rfl rfl ?_
            refine pA 1 96 (mL 13 3) HT_ rfl rfl ?_
            refine pA 2 97 (mL 13 7) HT_ rfl rfl ?_
            refine pA 4 99 (mL 13 23) HT_ rfl rfl ?_
            refine pA 5 100 (mL 13 55) HT_ rfl rfl ?_
            refine pA 6 101 (mL 13 119) HT_ rfl rfl ?_
            refine pA 7 102 (mL 13 247) HT_ rfl rfl ?_
            refine tA 3 98 (mL 13 255) HT_ HW_ hHeld rfl rfl (by rintro w' ⟨s0, s1⟩; go_simp; with_reducible rfl) ?_
            refine tA 8 103 (mL 13 511) HT_ HW_ hHeld rfl rfl (by rintro w' ⟨s0, s1⟩; go_simp; with_reducible rfl) ?_
            refine pA 9 104 (mL 13 1023) HT_ rfl rfl ?_
            refine pA 10 105 (mL 13 2047) HT_ rfl rfl ?_
            refine pA 11 106 (mL 13 4095) HT_ rfl rfl ?_
            refine last_ (i := 12) (N := none) (mL 13 8191) rfl rfl (one_of HT_.out KR) (by decide) (fun K hK => ?_)
            refine skip_ (w1 := ?_) (by rfl) rfl ?_ ?_
            rotate_left
            ·go_simp
             rfl
            refine hK.out _ _ ?_
            clear hK K
            refine done_ (done_of HT_.out KR) ?_
            have n0_ : Aside0 (Kd.R (Kd.int .i64) 3 (w59.setCell ⟨go54, (x12_3 : Int).toNat, none⟩ (.int .i64 (wrap64 ((rd x6_2 x12_3) - (wrap64 (t205 - (rd x6_2 x11_3))))))) w.heap.size (fun _ => True) (.slice (some ⟨go54, 0, none⟩) x6_2.length co26) y222) := RW HQ60
            have n1_ : Aside0 (Kd.R Kd.bool 4 (w59.setCell ⟨go54, (x12_3 : Int).toNat, none⟩ (.int .i64 (wrap64 ((rd x6_2 x12_3) - (wrap64 (t205 - (rd x6_2 x11_3))))))) w.heap.size (fun _ => True) v210 x7_2) := ⟨by (with_reducible repeat (first | apply Kd.R_alloc | apply Kd.R_drewN | apply Kd.R_drew)); exact Kd.R_mono (Kd.R_far (p := ⟨go54, (x12_3 : Int).toNat, none⟩) (Kd.R_types HO_7.out GG54.out (by decide)) (fun _ hk => hk.2) (.int .i64 (wrap64 ((rd x6_2 x12_3) - (wrap64 (t205 - (rd x6_2 x11_3))))))) (fun _ hk => trivial)⟩
            have n2_ : Aside0 (Kd.R k_Column 65 (w59.setCell ⟨go54, (x12_3 : Int).toNat, none⟩ (.int .i64 (wrap64 ((rd x6_2 x12_3) - (wrap64 (t205 - (rd x6_2 x11_3))))))) w.heap.size (fun _ => True) (.slice (some ⟨go51, 0, none⟩) x8_2.length co51) y219) := ⟨by (with_reducible repeat (first | apply Kd.R_alloc | apply Kd.R_drewN | apply Kd.R_drew)); exact Kd.R_mono (Kd.R_far (p := ⟨go54, (x12_3 : Int).toNat, none⟩) (Kd.R_types HO_8.out GG54.out (by decide)) (fun _ hk => hk.2) (.int .i64 (wrap64 ((rd x6_2 x12_3) - (wrap64 (t205 - (rd x6_2 x11_3))))))) (fun _ hk => trivial)⟩
            have n3_ : Aside0 (Below w.heap.size w (w59.setCell ⟨go54, (x12_3 : Int).toNat, none⟩ (.int .i64 (wrap64 ((rd x6_2 x12_3) - (wrap64 (t205 - (rd x6_2 x11_3)))))))) := ⟨TB⟩
            (try clear HO_6)
            (try clear HO_7)
            (try clear HO_8)
            (try clear HB)
            generalize (w59.setCell ⟨go54, (x12_3 : Int).toNat, none⟩ (.int .i64 (wrap64 ((rd x6_2 x12_3) - (wrap64 (t205 - (rd x6_2 x11_3))))))) = w61 at n0_ n1_ n2_ n3_ ⊢
            have HO_6 := n0_
            have HO_7 := n1_
            have HO_8 := n2_
            have HB := n3_
            clear n0_ n1_ n2_ n3_
            have p56 : 0 ≤ (x11_3 : Int) := TD
            have q56 : (x11_3 : Int) < ((x7_2.length : Int) : Int) := TD
            obtain ⟨go56, co56, eo56, gb56, gl56, cl56, HG56⟩ := Kd.R_form HO_7.out (by omega)
            (first | cases eo56 | (injection eo56 with ea_ en_ ec_; (first | subst ea_ | (injection ea_ with ea_; subst ea_)); subst ec_; clear en_))
            have GB56 := Aside0.mk gb56
            have GG56 := Aside0.mk HG56
            clear gb56 gl56 HG56
            obtain ⟨hx56_0, hf56_0⟩ := Kd.R_celln false HO_7.out (x11_3 : Int) p56 q56
            replace p56 := eq_true p56
            replace q56 := eq_true q56
            obtain ⟨hy62_, hz62_⟩ := Kd.R_celln false HO_7.out (x11_3 : Int) TD TD
            have HP62 := Kd.R_putg HO_7.out (x11_3 : Int) true
            try go_wp2_with (first | ((with_reducible refine gate_store (t := 4) (p := 109) rfl ?_); refine store_event (t := 4) (p := 109) (v := ?vo_w63) (w1 := (w61.setCell ⟨go56, (x11_3 : Int).toNat, none⟩ (.bool true))) ?hg ?ho ?hn ?hr ?_; (case ho => rfl); (case hg => rfl); (case hn => rfl); (case hr => first | (go_simp; done) | (go_simp; rfl)); intro w63 hw; have hg : w61.grownBy w63 (some go56) := (by rw [hw]; exact HP62.2); have hp_ : Kd.R Kd.bool 4 w63 w.heap.size (fun _ => True) (.slice (some ⟨go56, 0, none⟩) x7_2.length co56) y223 := (by rw [hw, Ny223.out]; exact HP62.1); clear HP62; replace HO_6 := Aside0.mk (Kd.R_over' (v := (.slice (some ⟨go56, 0, none⟩) x7_2.length co56)) (RW HO_6).out (Kd.R_typed HO_7.out) (by decide) hg); replace HO_8 := Aside0.mk (Kd.R_over' (v := (.slice (some ⟨go56, 0, none⟩) x7_2.length co56)) (RW HO_8).out (Kd.R_typed HO_7.out) (by decide) hg); replace HO_7 := Aside0.mk (hp_); replace HB := Aside0.mk ((by rw [hw]; exact below_set (HB.out) GB56.out : Below w.heap.size w w63)); clear hg hw hp_))
            go_roundg k3
            case measure => have := HK1.out; have := HK2.out; have := HK3.out; omega
            case rel => exact ⟨(y222), (y223), (y219), H', ⟨by have := HK1.out; have := HK2.out; have := HK3.out; omega⟩, RW HO_6, RW HO_7, RW HO_8, ⟨TB⟩⟩
 ·replace c3 := Bool.eq_false_iff.mpr c3
  subst c3
  replace H := iff' H
  simp only [Option.some.injEq, Prod.mk.injEq] at H
  obtain ⟨rfl, rfl⟩ := H
  go_enter Try.func42, Try.ntmps42
  go_wp2_with (first | ((with_reducible refine gate_callee (f := 15) rfl ?_); refine goesL_ (some 15) rfl rfl Try.func15 KR rfl #[.slice A0 l0.length c0] rfl TA ?_; (with_reducible refine (spec_GoodWeights.calls k _ _ l0 false _ ?side1 ?side2 A2.out).mono ?_); (case side1 => exact CW (HR0.out)); (case side2 => exact HC0.out); rintro e w' ⟨rfl, ⟨nd, rfl⟩⟩; refine ⟨_, rfl, ?_⟩))
  go_ret2
  exact ⟨_, TE, TZ, TB⟩
end
section
/-! ### impl_GoodAlias_1: function 65 -/
def impl_GoodAlias_1.f (a0_0 : Int) (a0_1 : Int) (l1_0 : List (S_Column)) : Option (Bool) := if a0_0 < 0 then (some true) else ((impl_within.f a0_1 0 (wrap64 ((l1_0.length : Int) - 1))).bind fun t229 => (some (!t229)))
theorem impl_GoodAlias_1.calls (a0_0 : Int) (a0_1 : Int) (g1_ : Nat) (A1_0 : Option Addr) (c1_0 : Nat) (l1_0 : List (S_Column)) (r : Bool) (w : World) (hr1_0 : Kd.C k_Column w A1_0 l1_0.length l1_0) (hc1_0 : l1_0.length ≤ c1_0) (hkg1_ : w.heap[g1_]? = some (.cells #[.slice A1_0 l1_0.length c1_0] 29 (0, 0))) (h : impl_GoodAlias_1.f a0_0 a0_1 l1_0 = some r) :
  Calls Try.prog 65 #[.agg #[.int .i64 a0_0, .int .i64 a0_1], .pointer (some ⟨g1_, 0, none⟩)] w fun e w' => e = .returned (.bool r) ∧ Below w.heap.size w w' := by
 have hu65 := Try.underlying65
 have HR1_0 := Aside0.mk hr1_0
 have HC1_0 := Aside0.mk hc1_0
 clear hr1_0 hc1_0
 have BKrg1_ := Aside0.mk hkg1_
 clear hkg1_
 have HB := Aside0.mk (Below.refl w.heap.size w)
 have H : (if a0_0 < 0 then (some true) else ((impl_within.f a0_1 0 (wrap64 ((l1_0.length : Int) - 1))).bind fun t229 => (some (!t229)))) = some r := h
 clear h
 by_cases c3 : a0_0 < 0
 ·rw [if_pos c3] at H
  have c3b0 : decide (a0_0 < 0) = true := decide_eq_true c3
  clear c3
  obtain rfl := Option.some.inj H
  go_enter Try.func65, Try.ntmps65
  go_wp2_with (first | ((with_reducible refine gate_dst (N := 2) rfl ?_); (try (refine gate_guard (by rfl) ?_; dsimp only)); refine bE 2 #[.int .i64 a0_0, .int .i64 a0_1] 65 ?_; intro gb228 hg w4 hbox hb; have BK228 := Aside0.mk (hbox); have GE228 := bG hg; replace HB := BS hb; have NB1_228 := bN BKrg1_ hg; have NB228_1 := bM BKrg1_ hg; replace BKrg1_ := KB BKrg1_ hb; clear hb hbox hg; obtain ⟨hnb5, hnc5⟩ := nn NB228_1; have hcz6 := cz2 BK228))
  go_ret
  exact ⟨TE, TB⟩
 ·rw [if_neg c3] at H
  have c3b0 : decide (a0_0 < 0) = false := decide_eq_false c3
  clear c3
  obtain ⟨t229, A7, H⟩ := bnd H
  obtain rfl := Option.some.inj H
  go_enter Try.func65, Try.ntmps65
  go_wp2_with (first | ((with_reducible refine gate_dst (N := 2) rfl ?_); (try (refine gate_guard (by rfl) ?_; dsimp only)); refine bE 2 #[.int .i64 a0_0, .int .i64 a0_1] 65 ?_; intro gb228 hg w8 hbox hb; have BK228 := Aside0.mk (hbox); have GE228 := bG hg; replace HB := BS hb; have NB1_228 := bN BKrg1_ hg; have NB228_1 := bM BKrg1_ hg; replace BKrg1_ := KB BKrg1_ hb; clear hb hbox hg; obtain ⟨hnb9, hnc9⟩ := nn NB228_1; have hcz10 := cz2 BK228; have hcz11 := cz1 BKrg1_) | (go_at_call 59; (with_reducible refine (impl_within.calls a0_1 0 (wrap64 ((l1_0.length : Int) - 1)) t229 _ A7.out).mono ?_); rintro e w' ⟨rfl, ⟨nd, rfl⟩⟩))
  go_ret
  exact ⟨TE, TB⟩
end
section
/-! ### slices_IndexFunc_impl_Column_impl_Column_GoodAlias_1: function 86 -/
def slices_IndexFunc_impl_Column_impl_Column_GoodAlias_1.l0 : Nat → List (S_Column) → Int → Int → List (S_Column) → Option (Int)
 | 0, _, _, _, _ => none
 | k + 1, x0, x7, x8, x59000 => if x8 < x7 then (if 0 ≤ x8 then (if x8 < (x0.length : Int) then ((impl_GoodAlias_1.f ((rd_TColumn x0 x8).f0) ((rd_TColumn x0 x8).f1) x59000).bind fun t231 => (if t231 = true then (some x8) else (slices_IndexFunc_impl_Column_impl_Column_GoodAlias_1.l0 k x0 x7 (wrap64 (x8 + 1)) x59000))) else (none)) else (none)) else (some (-1))
def slices_IndexFunc_impl_Column_impl_Column_GoodAlias_1.f (k : Nat) (l0 : List (S_Column)) (l1_0 : List (S_Column)) : Option (Int) := slices_IndexFunc_impl_Column_impl_Column_GoodAlias_1.l0 k l0 (l0.length : Int) 0 l1_0
theorem slices_IndexFunc_impl_Column_impl_Column_GoodAlias_1.calls (k : Nat) (A0 : Option Addr) (c0 : Nat) (l0 : List (S_Column)) (g1_0_ : Nat) (A1_0 : Option Addr) (c1_0 : Nat) (l1_0 : List (S_Column)) (r : Int) (w : World) (hr0 : Kd.C k_Column w A0 l0.length l0) (hc0 : l0.length ≤ c0) (hr1_0 : Kd.C k_Column w A1_0 l1_0.length l1_0) (hc1_0 : l1_0.length ≤ c1_0) (hkg1_0_ : w.heap[g1_0_]? = some (.cells #[.slice A1_0 l1_0.length c1_0] 29 (0, 0))) (h : slices_IndexFunc_impl_Column_impl_Column_GoodAlias_1.f k l0 l1_0 = some r) :
  Calls Try.prog 86 #[.slice A0 l0.length c0, .func (.func 65) #[] #[.pointer (some ⟨g1_0_, 0, none⟩)]] w fun e w' => e = .returned (.int .i64 r) ∧ Below w.heap.size w w' := by
 have hu65 := Try.underlying65
 have HR0 := Aside0.mk hr0
 have HC0 := Aside0.mk hc0
 clear hr0 hc0
 have HR1_0 := Aside0.mk hr1_0
 have HC1_0 := Aside0.mk hc1_0
 clear hr1_0 hc1_0
 have BKrg1_0_ := Aside0.mk hkg1_0_
 clear hkg1_0_
 have HB := Aside0.mk (Below.refl w.heap.size w)
 have H : (slices_IndexFunc_impl_Column_impl_Column_GoodAlias_1.l0 k l0 (l0.length : Int) 0 l1_0) = some r := h
 clear h
 have H' := Aside0.mk H
 clear H
 go_enter Try.func86, Try.ntmps86
 go_wp2
 go_loopg [8] k (fun kq v8 w' => ∃ (x8_1 : Int), v8 = .int .i64 x8_1 ∧ Aside0 (slices_IndexFunc_impl_Column_impl_Column_GoodAlias_1.l0 kq l0 (l0.length : Int) x8_1 l1_0 = some r) ∧ Aside0 (kq ≤ k) ∧ Aside0 (w'.heap[g1_0_]? = some (.cells #[(.slice A1_0 l1_0.length c1_0)] 29 (0, 0))) ∧ Aside0 (Below w.heap.size w w'))
 case atStart => exact ⟨(0), TF, H', ⟨Nat.le_refl _⟩, KW BKrg1_0_, ⟨TB⟩⟩
 case round =>
  clear H'
  obtain ⟨x8_1, rfl, HA, HK1, BKrg1_0_, HB⟩ := hrel
  cases gk with
  | zero => exact absurd HA.out (by simp [slices_IndexFunc_impl_Column_impl_Column_GoodAlias_1.l0])
  | succ k1 =>
   have H := HA.out
   clear HA
   simp only [slices_IndexFunc_impl_Column_impl_Column_GoodAlias_1.l0] at H
   by_cases c3 : x8_1 < (l0.length : Int)
   ·rw [if_pos c3] at H
    have c3b0 : decide (x8_1 < (l0.length : Int)) = true := decide_eq_true c3
    clear c3
    obtain ⟨c4, H⟩ := ifn H
    have c4b0 : decide (0 ≤ x8_1) = true := decide_eq_true c4
    clear c4
    obtain ⟨c5, H⟩ := ifn H
    have c5b0 : decide (x8_1 < (l0.length : Int)) = true := decide_eq_true c5
    clear c5
    obtain ⟨t231, A6, H⟩ := bnd H
    by_cases c7 : t231 = true
    ·subst c7
     replace H := ift H
     obtain rfl := Option.some.inj H
     have p230 : 0 ≤ (x8_1 : Int) := TD
     have q230 : x8_1 < (l0.length : Int) := TD
     obtain ⟨ad230, e230, hx230_0, hx230_1⟩ := at_TColumn (Kd.C_below HR0.out HB.out) x8_1 p230 q230
     cases e230
     replace p230 := eq_true p230
     replace q230 := eq_true q230
     go_wp2_with (first | (go_at_call 65; (with_reducible refine (impl_GoodAlias_1.calls ((rd_TColumn l0 x8_1).f0) ((rd_TColumn l0 x8_1).f1) g1_0_ A1_0 c1_0 l1_0 true _ ?side1 ?side2 ?side3 A6.out).mono ?_); (case side1 => exact CW ((Kd.C_below HR1_0.out HB.out))); (case side2 => exact HC1_0.out); (case side3 => exact (KW BKrg1_0_).out); rintro e w8 ⟨rfl, hb⟩; replace BKrg1_0_ := KB BKrg1_0_ hb; replace HB := BS hb; clear hb))
     go_ret
     exact ⟨TE, TB⟩
    ·replace c7 := Bool.eq_false_iff.mpr c7
     subst c7
     replace H := iff' H
     have H' := Aside0.mk H
     clear H
     have p230 : 0 ≤ (x8_1 : Int) := TD
     have q230 : x8_1 < (l0.length : Int) := TD
     obtain ⟨ad230, e230, hx230_0, hx230_1⟩ := at_TColumn (Kd.C_below HR0.out HB.out) x8_1 p230 q230
     cases e230
     replace p230 := eq_true p230
     replace q230 := eq_true q230
     go_wp2_with (first | (go_at_call 65; (with_reducible refine (impl_GoodAlias_1.calls ((rd_TColumn l0 x8_1).f0) ((rd_TColumn l0 x8_1).f1) g1_0_ A1_0 c1_0 l1_0 false _ ?side1 ?side2 ?side3 A6.out).mono ?_); (case side1 => exact CW ((Kd.C_below HR1_0.out HB.out))); (case side2 => exact HC1_0.out); (case side3 => exact (KW BKrg1_0_).out); rintro e w9 ⟨rfl, hb⟩; replace BKrg1_0_ := KB BKrg1_0_ hb; replace HB := BS hb; clear hb))
     go_roundg k1
     case measure => have := HK1.out; omega
     case rel => exact ⟨(wrap64 (x8_1 + 1)), TF, H', ⟨TM⟩, KW BKrg1_0_, ⟨TB⟩⟩
   ·rw [if_neg c3] at H
    have c3b0 : decide (x8_1 < (l0.length : Int)) = false := decide_eq_false c3
    clear c3
    obtain rfl := Option.some.inj H
    go_wp2
    go_ret
    exact ⟨TE, TB⟩
end
section
/-! ### slices_ContainsFunc_impl_Column_impl_Column_GoodAlias_1: function 64 -/
def slices_ContainsFunc_impl_Column_impl_Column_GoodAlias_1.f (k : Nat) (l0 : List (S_Column)) (l1_0 : List (S_Column)) : Option (Bool) := (slices_IndexFunc_impl_Column_impl_Column_GoodAlias_1.f k l0 l1_0).bind fun t232 => (some (decide (t232 ≥ 0)))
theorem slices_ContainsFunc_impl_Column_impl_Column_GoodAlias_1.calls (k : Nat) (A0 : Option Addr) (c0 : Nat) (l0 : List (S_Column)) (g1_0_ : Nat) (A1_0 : Option Addr) (c1_0 : Nat) (l1_0 : List (S_Column)) (r : Bool) (w : World) (hr0 : Kd.C k_Column w A0 l0.length l0) (hc0 : l0.length ≤ c0) (hr1_0 : Kd.C k_Column w A1_0 l1_0.length l1_0) (hc1_0 : l1_0.length ≤ c1_0) (hkg1_0_ : w.heap[g1_0_]? = some (.cells #[.slice A1_0 l1_0.length c1_0] 29 (0, 0))) (h : slices_ContainsFunc_impl_Column_impl_Column_GoodAlias_1.f k l0 l1_0 = some r) :
  Calls Try.prog 64 #[.slice A0 l0.length c0, .func (.func 65) #[] #[.pointer (some ⟨g1_0_, 0, none⟩)]] w fun e w' => e = .returned (.bool r) ∧ Below w.heap.size w w' := by
 have HR0 := Aside0.mk hr0
 have HC0 := Aside0.mk hc0
 clear hr0 hc0
 have HR1_0 := Aside0.mk hr1_0
 have HC1_0 := Aside0.mk hc1_0
 clear hr1_0 hc1_0
 have BKrg1_0_ := Aside0.mk hkg1_0_
 clear hkg1_0_
 have HB := Aside0.mk (Below.refl w.heap.size w)
 have H : ((slices_IndexFunc_impl_Column_impl_Column_GoodAlias_1.f k l0 l1_0).bind fun t232 => (some (decide (t232 ≥ 0)))) = some r := h
 clear h
 obtain ⟨t232, A3, H⟩ := bnd H
 obtain rfl := Option.some.inj H
 go_enter Try.func64, Try.ntmps64
 go_wp2_with (first | ((with_reducible refine gate_callee (f := 86) rfl ?_); refine goesL_ (some 7) rfl rfl Try.func86 KR rfl #[.slice A0 l0.length c0, .func (.func 65) #[] #[.pointer (some ⟨g1_0_, 0, none⟩)]] rfl TA ?_; (with_reducible refine (slices_IndexFunc_impl_Column_impl_Column_GoodAlias_1.calls k _ _ l0 g1_0_ A1_0 c1_0 l1_0 t232 _ ?side1 ?side2 ?side3 ?side4 ?side5 A3.out).mono ?_); (case side1 => exact CW (HR0.out)); (case side2 => exact HC0.out); (case side3 => exact CW (HR1_0.out)); (case side4 => exact HC1_0.out); (case side5 => exact (KW BKrg1_0_).out); rintro e w4 ⟨rfl, hb⟩; refine ⟨_, rfl, ?_⟩; replace BKrg1_0_ := KB BKrg1_0_ hb; replace HB := BS hb; clear hb))
 go_ret
 exact ⟨TE, TB⟩
end
section
/-! ### impl_GoodAlias: function 22 -/
def impl_GoodAlias.f (k : Nat) (l0 : List (S_Column)) : Option (Bool) := (impl_within.f (l0.length : Int) 1 12).bind fun t234 => (if t234 = true then ((slices_ContainsFunc_impl_Column_impl_Column_GoodAlias_1.f k l0 l0).bind fun t235 => (some (!t235))) else (some false))
theorem impl_GoodAlias.calls (k : Nat) (A0 : Option Addr) (c0 : Nat) (l0 : List (S_Column)) (r : Bool) (w : World) (hr0 : Kd.C k_Column w A0 l0.length l0) (hc0 : l0.length ≤ c0) (h : impl_GoodAlias.f k l0 = some r) :
  Calls Try.prog 22 #[.slice A0 l0.length c0] w fun e w' => e = .returned (.bool r) ∧ Below w.heap.size w w' := by
 have HR0 := Aside0.mk hr0
 have HC0 := Aside0.mk hc0
 clear hr0 hc0
 have HB := Aside0.mk (Below.refl w.heap.size w)
 have H : ((impl_within.f (l0.length : Int) 1 12).bind fun t234 => (if t234 = true then ((slices_ContainsFunc_impl_Column_impl_Column_GoodAlias_1.f k l0 l0).bind fun t235 => (some (!t235))) else (some false))) = some r := h
 clear h
 obtain ⟨t234, A2, H⟩ := bnd H
 by_cases c3 : t234 = true
 ·subst c3
  replace H := ift H
  obtain ⟨t235, A4, H⟩ := bnd H
  obtain rfl := Option.some.inj H
  go_enter Try.func22, Try.ntmps22
  go_wp2_with (first | ((with_reducible refine gate_dst (N := 1) rfl ?_); refine bE 1 #[.slice A0 l0.length c0] 29 ?_; intro gb233 hg w5 hbox hb; have BK233 := Aside0.mk (hbox); have GE233 := bG hg; replace HB := BS hb; clear hb hbox hg; have hcz6 := cz1 BK233) | ((with_reducible refine gate_callee (f := 59) rfl ?_); refine goesL_ (some 5) rfl rfl Try.func59 KR rfl #[.int .i64 (l0.length : Int), .int .i64 1, .int .i64 12] rfl TA ?_; (with_reducible refine (impl_within.calls (l0.length : Int) 1 12 true _ A2.out).mono ?_); rintro e w' ⟨rfl, ⟨nd, rfl⟩⟩; refine ⟨_, rfl, ?_⟩) | (go_at_call 64; (with_reducible refine (slices_ContainsFunc_impl_Column_impl_Column_GoodAlias_1.calls k _ _ l0 gb233 A0 c0 l0 t235 _ ?side1 ?side2 ?side3 ?side4 ?side5 A4.out).mono ?_); (case side1 => exact CW ((Kd.C_below HR0.out TB))); (case side2 => exact HC0.out); (case side3 => exact CW ((Kd.C_below HR0.out TB))); (case side4 => exact HC0.out); (case side5 => exact (KW BK233).out); rintro e w7 ⟨rfl, hb⟩; replace BK233 := KB BK233 hb; replace HB := BS hb; clear hb))
  go_ret
  exact ⟨TE, TB⟩
 ·replace c3 := Bool.eq_false_iff.mpr c3
  subst c3
  replace H := iff' H
  obtain rfl := Option.some.inj H
  go_enter Try.func22, Try.ntmps22
  go_wp2_with (first | ((with_reducible refine gate_dst (N := 1) rfl ?_); refine bE 1 #[.slice A0 l0.length c0] 29 ?_; intro gb233 hg w8 hbox hb; have BK233 := Aside0.mk (hbox); have GE233 := bG hg; replace HB := BS hb; clear hb hbox hg; have hcz9 := cz1 BK233) | ((with_reducible refine gate_callee (f := 59) rfl ?_); refine goesL_ (some 5) rfl rfl Try.func59 KR rfl #[.int .i64 (l0.length : Int), .int .i64 1, .int .i64 12] rfl TA ?_; (with_reducible refine (impl_within.calls (l0.length : Int) 1 12 false _ A2.out).mono ?_); rintro e w' ⟨rfl, ⟨nd, rfl⟩⟩; refine ⟨_, rfl, ?_⟩))
  go_ret
  exact ⟨TE, TB⟩
end
section
/-! ### impl_areColumns_1: function 87 -/
def impl_areColumns_1.f (a0_0 : Int) (a0_1 : Int) (a1_0 : Int) : Option (Bool) := some (decide (a0_0 > a1_0))
theorem impl_areColumns_1.calls (a0_0 : Int) (a0_1 : Int) (g1_ : Nat) (a1_0 : Int) (r : Bool) (w : World) (hkg1_ : w.heap[g1_]? = some (.cells #[.int .i64 a1_0] 3 (0, 0))) (h : impl_areColumns_1.f a0_0 a0_1 a1_0 = some r) :
  Calls Try.prog 87 #[.agg #[.int .i64 a0_0, .int .i64 a0_1], .pointer (some ⟨g1_, 0, none⟩)] w fun e w' => e = .returned (.bool r) ∧ Below w.heap.size w w' := by
 have hu65 := Try.underlying65
 have BKrg1_ := Aside0.mk hkg1_
 clear hkg1_
 have HB := Aside0.mk (Below.refl w.heap.size w)
 have H : (some (decide (a0_0 > a1_0))) = some r := h
 clear h
 obtain rfl := Option.some.inj H
 go_enter Try.func87, Try.ntmps87
 go_wp2_with (first | ((with_reducible refine gate_dst (N := 2) rfl ?_); refine bE 2 #[.int .i64 a0_0, .int .i64 a0_1] 65 ?_; intro gb236 hg w3 hbox hb; have BK236 := Aside0.mk (hbox); have GE236 := bG hg; replace HB := BS hb; have NB1_236 := bN BKrg1_ hg; have NB236_1 := bM BKrg1_ hg; replace BKrg1_ := KB BKrg1_ hb; clear hb hbox hg; obtain ⟨hnb4, hnc4⟩ := nn NB236_1; have hcz5 := cz2 BK236; have hcz6 := cz1 BKrg1_))
 go_ret
 exact ⟨TE, TB⟩
end
section
/-! ### slices_IndexFunc_impl_Column_impl_Column_areColumns_1: function 86 -/
def slices_IndexFunc_impl_Column_impl_Column_areColumns_1.l0 : Nat → List (S_Column) → Int → Int → Int → Option (Int)
 | 0, _, _, _, _ => none
 | k + 1, x0, x7, x8, x59000 => if x8 < x7 then (if 0 ≤ x8 then (if x8 < (x0.length : Int) then ((impl_areColumns_1.f ((rd_TColumn x0 x8).f0) ((rd_TColumn x0 x8).f1) x59000).bind fun t238 => (if t238 = true then (some x8) else (slices_IndexFunc_impl_Column_impl_Column_areColumns_1.l0 k x0 x7 (wrap64 (x8 + 1)) x59000))) else (none)) else (none)) else (some (-1))
def slices_IndexFunc_impl_Column_impl_Column_areColumns_1.f (k : Nat) (l0 : List (S_Column)) (a1_0 : Int) : Option (Int) := slices_IndexFunc_impl_Column_impl_Column_areColumns_1.l0 k l0 (l0.length : Int) 0 a1_0
theorem slices_IndexFunc_impl_Column_impl_Column_areColumns_1.calls (k : Nat) (A0 : Option Addr) (c0 : Nat) (l0 : List (S_Column)) (g1_0_ : Nat) (a1_0 : Int) (r : Int) (w : World) (hr0 : Kd.C k_Column w A0 l0.length l0) (hc0 : l0.length ≤ c0) (hkg1_0_ : w.heap[g1_0_]? = some (.cells #[.int .i64 a1_0] 3 (0, 0))) (h : slices_IndexFunc_impl_Column_impl_Column_areColumns_1.f k l0 a1_0 = some r) :
  Calls Try.prog 86 #[.slice A0 l0.length c0, .func (.func 87) #[] #[.pointer (some ⟨g1_0_, 0, none⟩)]] w fun e w' => e = .returned (.int .i64 r) ∧ Below w.heap.size w w' := by
 have hu65 := Try.underlying65
 have HR0 := Aside0.mk hr0
 have HC0 := Aside0.mk hc0
 clear hr0 hc0
 have BKrg1_0_ := Aside0.mk hkg1_0_
 clear hkg1_0_
 have HB := Aside0.mk (Below.refl w.heap.size w)
 have H : (slices_IndexFunc_impl_Column_impl_Column_areColumns_1.l0 k l0 (l0.length : Int) 0 a1_0) = some r := h
 clear h
 have H' := Aside0.mk H
 clear H
 go_enter Try.func86, Try.ntmps86
 go_wp2
 go_loopg [8] k (fun kq v8 w' => ∃ (x8_1 : Int), v8 = .int .i64 x8_1 ∧ Aside0 (slices_IndexFunc_impl_Column_impl_Column_areColumns_1.l0 kq l0 (l0.length : Int) x8_1 a1_0 = some r) ∧ Aside0 (kq ≤ k) ∧ Aside0 (w'.heap[g1_0_]? = some (.cells #[.int .i64 a1_0] 3 (0, 0))) ∧ Aside0 (Below w.heap.size w w'))
 case atStart => exact ⟨(0), TF, H', ⟨Nat.le_refl _⟩, KW BKrg1_0_, ⟨TB⟩⟩
 case round =>
  clear H'
  obtain ⟨x8_1, rfl, HA, HK1, BKrg1_0_, HB⟩ := hrel
  cases gk with
  | zero => exact absurd HA.out (by simp [slices_IndexFunc_impl_Column_impl_Column_areColumns_1.l0])
  | succ k1 =>
   have H := HA.out
   clear HA
   simp only [slices_IndexFunc_impl_Column_impl_Column_areColumns_1.l0] at H
   by_cases c3 : x8_1 < (l0.length : Int)
   ·rw [if_pos c3] at H
    have c3b0 : decide (x8_1 < (l0.length : Int)) = true := decide_eq_true c3
    clear c3
    obtain ⟨c4, H⟩ := ifn H
    have c4b0 : decide (0 ≤ x8_1) = true := decide_eq_true c4
    clear c4
    obtain ⟨c5, H⟩ := ifn H
    have c5b0 : decide (x8_1 < (l0.length : Int)) = true := decide_eq_true c5
    clear c5
    obtain ⟨t238, A6, H⟩ := bnd H
    by_cases c7 : t238 = true
    ·subst c7
     replace H := ift H
     obtain rfl := Option.some.inj H
     have p237 : 0 ≤ (x8_1 : Int) := TD
     have q237 : x8_1 < (l0.length : Int) := TD
     obtain ⟨ad237, e237, hx237_0, hx237_1⟩ := at_TColumn (Kd.C_below HR0.out HB.out) x8_1 p237 q237
     cases e237
     replace p237 := eq_true p237
     replace q237 := eq_true q237
     go_wp2_with (first | (go_at_call 87; (with_reducible refine (impl_areColumns_1.calls ((rd_TColumn l0 x8_1).f0) ((rd_TColumn l0 x8_1).f1) g1_0_ a1_0 true _ ?side1 A6.out).mono ?_); (case side1 => exact (KW BKrg1_0_).out); rintro e w8 ⟨rfl, hb⟩; replace BKrg1_0_ := KB BKrg1_0_ hb; replace HB := BS hb; clear hb))
     go_ret
     exact ⟨TE, TB⟩
    ·replace c7 := Bool.eq_false_iff.mpr c7
     subst c7
     replace H := iff' H
     have H' := Aside0.mk H
     clear H
     have p237 : 0 ≤ (x8_1 : Int) := TD
     have q237 : x8_1 < (l0.length : Int) := TD
     obtain ⟨ad237, e237, hx237_0, hx237_1⟩ := at_TColumn (Kd.C_below HR0.out HB.out) x8_1 p237 q237
     cases e237
     replace p237 := eq_true p237
     replace q237 := eq_true q237
     go_wp2_with (first | (go_at_call 87; (with_reducible refine (impl_areColumns_1.calls ((rd_TColumn l0 x8_1).f0) ((rd_TColumn l0 x8_1).f1) g1_0_ a1_0 false _ ?side1 A6.out).mono ?_); (case side1 => exact (KW BKrg1_0_).out); rintro e w9 ⟨rfl, hb⟩; replace BKrg1_0_ := KB BKrg1_0_ hb; replace HB := BS hb; clear hb))
     go_roundg k1
     case measure => have := HK1.out; omega
     case rel => exact ⟨(wrap64 (x8_1 + 1)), TF, H', ⟨TM⟩, KW BKrg1_0_, ⟨TB⟩⟩
   ·rw [if_neg c3] at H
    have c3b0 : decide (x8_1 < (l0.length : Int)) = false := decide_eq_false c3
    clear c3
    obtain rfl := Option.some.inj H
    go_wp2
    go_ret
    exact ⟨TE, TB⟩
end
section
/-! ### slices_ContainsFunc_impl_Column_impl_Column_areColumns_1: function 64 -/
def slices_ContainsFunc_impl_Column_impl_Column_areColumns_1.f (k : Nat) (l0 : List (S_Column)) (a1_0 : Int) : Option (Bool) := (slices_IndexFunc_impl_Column_impl_Column_areColumns_1.f k l0 a1_0).bind fun t239 => (some (decide (t239 ≥ 0)))
theorem slices_ContainsFunc_impl_Column_impl_Column_areColumns_1.calls (k : Nat) (A0 : Option Addr) (c0 : Nat) (l0 : List (S_Column)) (g1_0_ : Nat) (a1_0 : Int) (r : Bool) (w : World) (hr0 : Kd.C k_Column w A0 l0.length l0) (hc0 : l0.length ≤ c0) (hkg1_0_ : w.heap[g1_0_]? = some (.cells #[.int .i64 a1_0] 3 (0, 0))) (h : slices_ContainsFunc_impl_Column_impl_Column_areColumns_1.f k l0 a1_0 = some r) :
  Calls Try.prog 64 #[.slice A0 l0.length c0, .func (.func 87) #[] #[.pointer (some ⟨g1_0_, 0, none⟩)]] w fun e w' => e = .returned (.bool r) ∧ Below w.heap.size w w' := by
 have HR0 := Aside0.mk hr0
 have HC0 := Aside0.mk hc0
 clear hr0 hc0
 have BKrg1_0_ := Aside0.mk hkg1_0_
 clear hkg1_0_
 have HB := Aside0.mk (Below.refl w.heap.size w)
 have H : ((slices_IndexFunc_impl_Column_impl_Column_areColumns_1.f k l0 a1_0).bind fun t239 => (some (decide (t239 ≥ 0)))) = some r := h
 clear h
 obtain ⟨t239, A3, H⟩ := bnd H
 obtain rfl := Option.some.inj H
 go_enter Try.func64, Try.ntmps64
 go_wp2_with (first | ((with_reducible refine gate_callee (f := 86) rfl ?_); refine goesL_ (some 7) rfl rfl Try.func86 KR rfl #[.slice A0 l0.length c0, .func (.func 87) #[] #[.pointer (some ⟨g1_0_, 0, none⟩)]] rfl TA ?_; (with_reducible refine (slices_IndexFunc_impl_Column_impl_Column_areColumns_1.calls k _ _ l0 g1_0_ a1_0 t239 _ ?side1 ?side2 ?side3 A3.out).mono ?_); (case side1 => exact CW (HR0.out)); (case side2 => exact HC0.out); (case side3 => exact (KW BKrg1_0_).out); rintro e w4 ⟨rfl, hb⟩; refine ⟨_, rfl, ?_⟩; replace BKrg1_0_ := KB BKrg1_0_ hb; replace HB := BS hb; clear hb))
 go_ret
 exact ⟨TE, TB⟩
end
section
/-! ### impl_areColumns: function 68 -/
def impl_areColumns.f (k : Nat) (l0 : List (S_Column)) (a1 : Int) : Option (Bool) := (impl_GoodAlias.f k l0).bind fun t241 => (if t241 = true then ((impl_within.f a1 1 600).bind fun t242 => (if t242 = true then ((slices_ContainsFunc_impl_Column_impl_Column_areColumns_1.f k l0 a1).bind fun t243 => (some (!t243))) else (some false))) else (some false))
theorem impl_areColumns.calls (k : Nat) (A0 : Option Addr) (c0 : Nat) (l0 : List (S_Column)) (a1 : Int) (r : Bool) (w : World) (hr0 : Kd.C k_Column w A0 l0.length l0) (hc0 : l0.length ≤ c0) (h : impl_areColumns.f k l0 a1 = some r) :
  Calls Try.prog 68 #[.slice A0 l0.length c0, .int .i64 a1] w fun e w' => e = .returned (.bool r) ∧ Below w.heap.size w w' := by
 have HR0 := Aside0.mk hr0
 have HC0 := Aside0.mk hc0
 clear hr0 hc0
 have HB := Aside0.mk (Below.refl w.heap.size w)
 have H : ((impl_GoodAlias.f k l0).bind fun t241 => (if t241 = true then ((impl_within.f a1 1 600).bind fun t242 => (if t242 = true then ((slices_ContainsFunc_impl_Column_impl_Column_areColumns_1.f k l0 a1).bind fun t243 => (some (!t243))) else (some false))) else (some false))) = some r := h
 clear h
 obtain ⟨t241, A3, H⟩ := bnd H
 by_cases c4 : t241 = true
 ·subst c4
  replace H := ift H
  obtain ⟨t242, A5, H⟩ := bnd H
  by_cases c6 : t242 = true
  ·subst c6
   replace H := ift H
   obtain ⟨t243, A7, H⟩ := bnd H
   obtain rfl := Option.some.inj H
   go_enter Try.func68, Try.ntmps68
   go_wp2_with (first | ((with_reducible refine gate_dst (N := 3) rfl ?_); refine bE 3 #[.int .i64 a1] 3 ?_; intro gb240 hg w8 hbox hb; have BK240 := Aside0.mk (hbox); have GE240 := bG hg; replace HB := BS hb; clear hb hbox hg) | ((with_reducible refine gate_callee (f := 22) rfl ?_); refine goesL_ (some 6) rfl rfl Try.func22 KR rfl #[.slice A0 l0.length c0] rfl TA ?_; (with_reducible refine (impl_GoodAlias.calls k _ _ l0 true _ ?side1 ?side2 A3.out).mono ?_); (case side1 => exact CW ((Kd.C_below HR0.out HB.out))); (case side2 => exact HC0.out); rintro e w9 ⟨rfl, hb⟩; refine ⟨_, rfl, ?_⟩; replace BK240 := KB BK240 hb; replace HB := BS hb; clear hb; have hcz10 := cz1 BK240) | (go_at_call 59; (with_reducible refine (impl_within.calls a1 1 600 true _ A5.out).mono ?_); rintro e w' ⟨rfl, ⟨nd, rfl⟩⟩) | (go_at_call 64; (with_reducible refine (slices_ContainsFunc_impl_Column_impl_Column_areColumns_1.calls k _ _ l0 gb240 a1 t243 _ ?side1 ?side2 ?side3 A7.out).mono ?_); (case side1 => exact CW ((Kd.C_below HR0.out TB))); (case side2 => exact HC0.out); (case side3 => exact (KW BK240).out); rintro e w11 ⟨rfl, hb⟩; replace BK240 := KB BK240 hb; replace HB := BS hb; clear hb))
   go_ret
   exact ⟨TE, TB⟩
  ·replace c6 := Bool.eq_false_iff.mpr c6
   subst c6
   replace H := iff' H
   obtain rfl := Option.some.inj H
   go_enter Try.func68, Try.ntmps68
   go_wp2_with (first | ((with_reducible refine gate_dst (N := 3) rfl ?_); refine bE 3 #[.int .i64 a1] 3 ?_; intro gb240 hg w12 hbox hb; have BK240 := Aside0.mk (hbox); have GE240 := bG hg; replace HB := BS hb; clear hb hbox hg) | ((with_reducible refine gate_callee (f := 22) rfl ?_); refine goesL_ (some 6) rfl rfl Try.func22 KR rfl #[.slice A0 l0.length c0] rfl TA ?_; (with_reducible refine (impl_GoodAlias.calls k _ _ l0 true _ ?side1 ?side2 A3.out).mono ?_); (case side1 => exact CW ((Kd.C_below HR0.out HB.out))); (case side2 => exact HC0.out); rintro e w13 ⟨rfl, hb⟩; refine ⟨_, rfl, ?_⟩; replace BK240 := KB BK240 hb; replace HB := BS hb; clear hb; have hcz14 := cz1 BK240) | (go_at_call 59; (with_reducible refine (impl_within.calls a1 1 600 false _ A5.out).mono ?_); rintro e w' ⟨rfl, ⟨nd, rfl⟩⟩))
   go_ret
   exact ⟨TE, TB⟩
 ·replace c4 := Bool.eq_false_iff.mpr c4
  subst c4
  replace H := iff' H
  obtain rfl := Option.some.inj H
  go_enter Try.func68, Try.ntmps68
  go_wp2_with (first | ((with_reducible refine gate_dst (N := 3) rfl ?_); refine bE 3 #[.int .i64 a1] 3 ?_; intro gb240 hg w15 hbox hb; have BK240 := Aside0.mk (hbox); have GE240 := bG hg; replace HB := BS hb; clear hb hbox hg) | ((with_reducible refine gate_callee (f := 22) rfl ?_); refine goesL_ (some 6) rfl rfl Try.func22 KR rfl #[.slice A0 l0.length c0] rfl TA ?_; (with_reducible refine (impl_GoodAlias.calls k _ _ l0 false _ ?side1 ?side2 A3.out).mono ?_); (case side1 => exact CW ((Kd.C_below HR0.out HB.out))); (case side2 => exact HC0.out); rintro e w16 ⟨rfl, hb⟩; refine ⟨_, rfl, ?_⟩; replace BK240 := KB BK240 hb; replace HB := BS hb; clear hb))
  go_ret
  exact ⟨TE, TB⟩
end
section
/-! ### impl_pickBy: function 69 -/
def impl_pickBy.f (l0 : List (S_Column)) (a1 : Int) (a2 : Int) : Option (Int) := if a1 = 0 then (none) else (if 0 ≤ (wrap64 (Int.tdiv a2 a1)) then (if (wrap64 (Int.tdiv a2 a1)) < (l0.length : Int) then (if (Int.tmod a2 a1) < ((rd_TColumn l0 (wrap64 (Int.tdiv a2 a1))).f0) then (some (wrap64 (Int.tdiv a2 a1))) else (some ((rd_TColumn l0 (wrap64 (Int.tdiv a2 a1))).f1))) else (none)) else (none))
theorem impl_pickBy.calls (A0 : Option Addr) (c0 : Nat) (l0 : List (S_Column)) (a1 : Int) (a2 : Int) (r : Int) (w : World) (hr0 : Kd.C k_Column w A0 l0.length l0) (hc0 : l0.length ≤ c0) (h : impl_pickBy.f l0 a1 a2 = some r) :
  Calls Try.prog 69 #[.slice A0 l0.length c0, .int .i64 a1, .int .i64 a2] w fun e w' => e = .returned (.int .i64 r) ∧ Drawn0 w w' := by
 have HR0 := Aside0.mk hr0
 have HC0 := Aside0.mk hc0
 clear hr0 hc0
 have H : (if a1 = 0 then (none) else (if 0 ≤ (wrap64 (Int.tdiv a2 a1)) then (if (wrap64 (Int.tdiv a2 a1)) < (l0.length : Int) then (if (Int.tmod a2 a1) < ((rd_TColumn l0 (wrap64 (Int.tdiv a2 a1))).f0) then (some (wrap64 (Int.tdiv a2 a1))) else (some ((rd_TColumn l0 (wrap64 (Int.tdiv a2 a1))).f1))) else (none)) else (none))) = some r := h
 clear h
 obtain ⟨c4, H⟩ := ifm H
 have c4b0 : (a1 == 0) = false := beq_eq_false_iff_ne.mpr c4
 have c4b1 : (a1 != 0) = true := bne_iff_ne.mpr c4
 obtain ⟨ji5, hji5⟩ : ∃ j_ : Int, (wrap64 (Int.tdiv a2 a1)) = j_ := ⟨_, rfl⟩
 replace H : (if 0 ≤ (ji5) then (if (ji5) < (l0.length : Int) then (if (Int.tmod a2 a1) < ((rd_TColumn l0 (ji5)).f0) then (some ji5) else (some ((rd_TColumn l0 (ji5)).f1))) else (none)) else (none)) = some r := by first | (rw [hji5] at H; exact H) | (simp only [hji5] at H ⊢; exact H)
 have hji5w : (IntKind.i64.wrap (Int.tdiv a2 a1)) = ji5 := (i64_w _).trans hji5
 obtain ⟨c6, H⟩ := ifn H
 have c6b0 : decide (0 ≤ (ji5)) = true := decide_eq_true c6
 clear c6
 obtain ⟨c7, H⟩ := ifn H
 have c7b0 : decide ((ji5) < (l0.length : Int)) = true := decide_eq_true c7
 clear c7
 by_cases c8 : (Int.tmod a2 a1) < ((rd_TColumn l0 (ji5)).f0)
 ·rw [if_pos c8] at H
  have c8b0 : decide ((Int.tmod a2 a1) < ((rd_TColumn l0 (ji5)).f0)) = true := decide_eq_true c8
  clear c8
  obtain rfl := Option.some.inj H
  have p244 : 0 ≤ ((ji5) : Int) := TD
  have q244 : (ji5) < (l0.length : Int) := TD
  obtain ⟨ad244, e244, hx244_0, hx244_1⟩ := at_TColumn HR0.out (ji5) p244 q244
  cases e244
  replace p244 := eq_true p244
  replace q244 := eq_true q244
  go_enter Try.func69, Try.ntmps69
  go_wp2
  repeat (go_quiet (fail); try go_wp2)
  go_ret
  exact ⟨by first | rfl | (simp; done) | (simp only [← hji5] <;> (first | rfl | simp)) | (simp [*]; done), TN⟩
 ·rw [if_neg c8] at H
  have c8b0 : decide ((Int.tmod a2 a1) < ((rd_TColumn l0 (ji5)).f0)) = false := decide_eq_false c8
  clear c8
  obtain rfl := Option.some.inj H
  have p244 : 0 ≤ ((ji5) : Int) := TD
  have q244 : (ji5) < (l0.length : Int) := TD
  obtain ⟨ad244, e244, hx244_0, hx244_1⟩ := at_TColumn HR0.out (ji5) p244 q244
  cases e244
  replace p244 := eq_true p244
  replace q244 := eq_true q244
  have p245 : 0 ≤ ((ji5) : Int) := TD
  have q245 : (ji5) < (l0.length : Int) := TD
  obtain ⟨ad245, e245, hx245_0, hx245_1⟩ := at_TColumn HR0.out (ji5) p245 q245
  obtain rfl : ad244 = ad245 := (by injection e245)
  replace p245 := eq_true p245
  replace q245 := eq_true q245
  go_enter Try.func69, Try.ntmps69
  go_wp2
  repeat (go_quiet (fail); try go_wp2)
  go_ret
  exact ⟨by first | rfl | (simp; done) | (simp only [← hji5] <;> (first | rfl | simp)) | (simp [*]; done), TN⟩
end
section
/-! ### impl_OftenIn: function 37 -/
def impl_OftenIn.l0 : Nat → List (S_Column) → Int → List Int → Int → Int → Option (List Int × Bool)
 | 0, _, _, _, _, _ => none
 | k + 1, x0, x1, x6, x18, x19 => if x19 < x18 then ((impl_pickBy.f x0 x1 x19).bind fun t250 => (if 0 ≤ t250 then (if t250 < (x6.length : Int) then (impl_OftenIn.l0 k x0 x1 (x6.set (t250 : Int).toNat (wrap64 ((rd x6 t250) + 1))) x18 (wrap64 (x19 + 1))) else (none)) else (none))) else (some (x6, true))
def impl_OftenIn.f (k : Nat) (l0 : List (S_Column)) (a1 : Int) : Option (List Int × Bool) := (impl_areColumns.f k l0 a1).bind fun t246 => (if t246 = true then (if 0 ≤ (l0.length : Int) then (if ((l0.length : Int) : Int).toNat ≤ 35184372088832 then (impl_OftenIn.l0 k l0 a1 (List.replicate ((l0.length : Int) : Int).toNat 0) (wrap64 ((l0.length : Int) * a1)) 0) else (none)) else (none)) else (some (([] : List Int), false)))
theorem impl_OftenIn.calls (k : Nat) (A0 : Option Addr) (c0 : Nat) (l0 : List (S_Column)) (a1 : Int) (r1 : List Int) (r2 : Bool) (w : World) (hr0 : Kd.C k_Column w A0 l0.length l0) (hc0 : l0.length ≤ c0) (h : impl_OftenIn.f k l0 a1 = some (r1, r2)) :
  Calls Try.prog 37 #[.slice A0 l0.length c0, .int .i64 a1] w fun e w' => ∃ v0_ : Value, e = .returned (.tuple #[v0_, .bool r2]) ∧ Kd.R (Kd.int .i64) 3 w' w.heap.size (fun _ => True) v0_ r1 ∧ Below w.heap.size w w' := by
 have HR0 := Aside0.mk hr0
 have HC0 := Aside0.mk hc0
 clear hr0 hc0
 have HB := Aside0.mk (Below.refl w.heap.size w)
 have H : ((impl_areColumns.f k l0 a1).bind fun t246 => (if t246 = true then (if 0 ≤ (l0.length : Int) then (if ((l0.length : Int) : Int).toNat ≤ 35184372088832 then (impl_OftenIn.l0 k l0 a1 (List.replicate ((l0.length : Int) : Int).toNat 0) (wrap64 ((l0.length : Int) * a1)) 0) else (none)) else (none)) else (some (([] : List Int), false)))) = some (r1, r2) := h
 clear h
 obtain ⟨t246, A3, H⟩ := bnd H
 by_cases c4 : t246 = true
 ·subst c4
  replace H := ift H
  obtain ⟨c5, H⟩ := ifn H
  have c5b0 := eq_true c5
  have c5b1 : decide (0 ≤ (l0.length : Int)) = true := decide_eq_true c5
  clear c5
  obtain ⟨c6, H⟩ := ifn H
  have c6b0 := eq_true c6
  have c6b1 : decide (((l0.length : Int) : Int).toNat ≤ 35184372088832) = true := decide_eq_true c6
  clear c6
  obtain ⟨y247, hy247⟩ : ∃ y_ : List Int, y_ = (List.replicate ((l0.length : Int) : Int).toNat 0) := ⟨_, rfl⟩
  replace H : (impl_OftenIn.l0 k l0 a1 y247 (wrap64 ((l0.length : Int) * a1)) 0) = some (r1, r2) := by first | (rw [hy247]; with_reducible exact H) | (have H2_ := (Option.bind_some _ _).symm.trans H; rw [hy247]; with_reducible exact H2_) | (have H2_ := (Option.bind_some _ _).symm.trans H; with_reducible exact H2_) | with_reducible exact H | (rw [hy247]; exact H) | exact H
  have Ny247 := Aside0.mk hy247
  clear hy247
  have H' := Aside0.mk H
  clear H
  go_enter Try.func37, Try.ntmps37
  go_wp2_with (first | ((with_reducible refine gate_callee (f := 68) rfl ?_); refine goesL_ (some 10) rfl rfl Try.func68 KR rfl #[.slice A0 l0.length c0, .int .i64 a1] rfl TA ?_; (with_reducible refine (impl_areColumns.calls k _ _ l0 a1 true _ ?side1 ?side2 A3.out).mono ?_); (case side1 => exact CW (HR0.out)); (case side2 => exact HC0.out); rintro e w7 ⟨rfl, hb⟩; refine ⟨_, rfl, ?_⟩; replace HB := BS hb; clear hb) | ((with_reducible refine gate_dst (N := 14) rfl ?_); refine Kd.R_make (Kd.int .i64) _ 3 rfl (N := 14) rfl 22 _ _ rfl (l0.length : Int) rfl rfl Try.underlying22 (.int .i64 0) 8 info3 rfl (by decide) (by omega) 0 (ok := fun _ => True) (okp := fun _ => True) rfl (fun _ hk => hk) trivial TD (Nat.le_trans (Nat.mul_le_mul_right _ (TD : (l0.length : Int).toNat ≤ 35184372088832)) (by omega)) (Below.refl _ _) (Nat.le_refl _) ?_; intro v248 w8 ho9 hb hg_ hnew_; clear hg_ hnew_; (first | rw [← Ny247.out] at ho9 | (simp only [Int.reduceToNat] at ho9; rw [← Ny247.out] at ho9)); have HO249 := RL ho9; replace HB := BS hb; clear hb ho9))
  go_loopg [19] k (fun kq v19 w' => ∃ (x6_1 : List Int) (x19_1 : Int), v19 = .int .i64 x19_1 ∧ Aside0 (impl_OftenIn.l0 kq l0 a1 x6_1 (wrap64 ((l0.length : Int) * a1)) x19_1 = some (r1, r2)) ∧ Aside0 (kq ≤ k) ∧ Aside0 (Kd.R (Kd.int .i64) 3 w' w.heap.size (fun _ => True) v248 x6_1) ∧ Aside0 (Below w.heap.size w w'))
  case atStart => exact ⟨(y247), (0), TF, H', ⟨Nat.le_refl _⟩, RW HO249, ⟨TB⟩⟩
  case round =>
   clear H'
   obtain ⟨x6_1, x19_1, rfl, HA, HK1, HO_6, HB⟩ := hrel
   cases gk with
   | zero => exact absurd HA.out (by simp [impl_OftenIn.l0])
   | succ k1 =>
    have H := HA.out
    clear HA
    simp only [impl_OftenIn.l0] at H
    by_cases c10 : x19_1 < (wrap64 ((l0.length : Int) * a1))
    ·rw [if_pos c10] at H
     have c10b0 : decide (x19_1 < (wrap64 ((l0.length : Int) * a1))) = true := decide_eq_true c10
     clear c10
     obtain ⟨t250, A11, H⟩ := bnd H
     obtain ⟨c12, H⟩ := ifn H
     have c12b0 : decide (0 ≤ t250) = true := decide_eq_true c12
     clear c12
     obtain ⟨c13, H⟩ := ifn H
     have c13b0 : decide (t250 < (x6_1.length : Int)) = true := decide_eq_true c13
     clear c13
     obtain ⟨y252, hy252⟩ : ∃ y_ : List Int, y_ = (x6_1.set (t250 : Int).toNat (wrap64 ((rd x6_1 t250) + 1))) := ⟨_, rfl⟩
     replace H : (impl_OftenIn.l0 k1 l0 a1 y252 (wrap64 ((l0.length : Int) * a1)) (wrap64 (x19_1 + 1))) = some (r1, r2) := by first | (rw [hy252]; with_reducible exact H) | (have H2_ := (Option.bind_some _ _).symm.trans H; rw [hy252]; with_reducible exact H2_) | (have H2_ := (Option.bind_some _ _).symm.trans H; with_reducible exact H2_) | with_reducible exact H | (rw [hy252]; exact H) | exact H
     have Ny252 := Aside0.mk hy252
     clear hy252
     have H' := Aside0.mk H
     clear H
     go_wp2_with (first | ((with_reducible refine gate_callee (f := 69) rfl ?_); refine goesL_ (some 26) rfl rfl Try.func69 KR rfl #[.slice A0 l0.length c0, .int .i64 a1, .int .i64 x19_1] rfl TA ?_; (with_reducible refine (impl_pickBy.calls _ _ l0 a1 x19_1 t250 _ ?side1 ?side2 A11.out).mono ?_); (case side1 => exact CW ((Kd.C_below HR0.out HB.out))); (case side2 => exact HC0.out); rintro e w' ⟨rfl, ⟨nd, rfl⟩⟩; refine ⟨_, rfl, ?_⟩; (try (rw [drewN_self wr]; generalize hq_ : World.drewN wr _ = wr; have n0_ : Aside0 (Kd.R (Kd.int .i64) 3 wr w.heap.size (fun _ => True) v248 x6_1) := ⟨by rw [← hq_]; exact (RW HO_6).out⟩; have n1_ : Aside0 (Below w.heap.size w wr) := ⟨by rw [← hq_]; exact TB⟩; clear HO_6 HB hq_; have HO_6 := n0_; have HB := n1_; clear n0_ n1_)); obtain ⟨Ao15, co15, eo15⟩ := Kd.R_slice HO_6.out; subst eo15; have p251 : 0 ≤ (t250 : Int) := TD; have q251 : t250 < (x6_1.length : Int) := TD; obtain ⟨ad251, e251, hx251_0⟩ := Kd.at_int (Kd.R_reads' HO_6.out).2.2 t250 p251 q251; cases e251; replace p251 := eq_true p251; replace q251 := eq_true q251; have p14 : 0 ≤ (t250 : Int) := TD; have q14 : (t250 : Int) < ((x6_1.length : Int) : Int) := TD; obtain ⟨go14, co14, eo14, gb14, gl14, cl14, HG14⟩ := Kd.R_form HO_6.out (by omega); (first | cases eo14 | (injection eo14 with ea_ en_ ec_; (first | subst ea_ | (injection ea_ with ea_; subst ea_)); subst ec_; clear en_)); have GB14 := Aside0.mk gb14; have GG14 := Aside0.mk HG14; clear gb14 gl14 HG14; (first | simp only [add_plain] at hx251_0 | skip); obtain ⟨hx14_0, hf14_0⟩ := Kd.R_celln 0 HO_6.out (t250 : Int) p14 q14; replace p14 := eq_true p14; replace q14 := eq_true q14; obtain ⟨hy16_, hz16_⟩ := Kd.R_celln 0 HO_6.out (t250 : Int) TD TD; have HP16 := Kd.R_putg HO_6.out (t250 : Int) (wrap64 ((rd x6_1 t250) + 1))) | ((with_reducible refine gate_store (t := 3) (p := 30) rfl ?_); refine store_event (t := 3) (p := 30) (v := ?vo_w17) (w1 := (wr.setCell ⟨go14, (t250 : Int).toNat, none⟩ (.int .i64 (wrap64 ((rd x6_1 t250) + 1))))) ?hg ?ho ?hn ?hr ?_; (case ho => rfl); (case hg => rfl); (case hn => rfl); (case hr => first | (go_simp; done) | (go_simp; rfl)); intro w17 hw; have hg : wr.grownBy w17 (some go14) := (by rw [hw]; exact HP16.2); have hp_ : Kd.R (Kd.int .i64) 3 w17 w.heap.size (fun _ => True) (.slice (some ⟨go14, 0, none⟩) x6_1.length co15) y252 := (by rw [hw, Ny252.out]; exact HP16.1); clear HP16; replace HO_6 := Aside0.mk (hp_); replace HB := Aside0.mk ((by rw [hw]; exact below_set (HB.out) GB14.out : Below w.heap.size w w17)); clear hg hw hp_))
     go_roundg k1
     case measure => have := HK1.out; omega
     case rel => exact ⟨(y252), (wrap64 (x19_1 + 1)), TF, H', ⟨TM⟩, RW HO_6, ⟨TB⟩⟩
    ·rw [if_neg c10] at H
     have c10b0 : decide (x19_1 < (wrap64 ((l0.length : Int) * a1))) = false := decide_eq_false c10
     clear c10
     simp only [Option.some.injEq, Prod.mk.injEq] at H
     obtain ⟨rfl, rfl⟩ := H
     go_wp2
     go_ret2
     exact ⟨_, TE, (RW HO_6).out, TB⟩
 ·replace c4 := Bool.eq_false_iff.mpr c4
  subst c4
  replace H := iff' H
  simp only [Option.some.injEq, Prod.mk.injEq] at H
  obtain ⟨rfl, rfl⟩ := H
  go_enter Try.func37, Try.ntmps37
  go_wp2_with (first | ((with_reducible refine gate_callee (f := 68) rfl ?_); refine goesL_ (some 10) rfl rfl Try.func68 KR rfl #[.slice A0 l0.length c0, .int .i64 a1] rfl TA ?_; (with_reducible refine (impl_areColumns.calls k _ _ l0 a1 false _ ?side1 ?side2 A3.out).mono ?_); (case side1 => exact CW (HR0.out)); (case side2 => exact HC0.out); rintro e w18 ⟨rfl, hb⟩; refine ⟨_, rfl, ?_⟩; replace HB := BS hb; clear hb))
  go_ret2
  exact ⟨_, TE, TZ, TB⟩
end
section
/-! ### impl_PickBy: function 25 -/
def impl_PickBy.f (k : Nat) (l0 : List (S_Column)) (a1 : Int) (a2 : Int) : Option (Int × Bool) := (impl_areColumns.f k l0 a1).bind fun t253 => (if t253 = true then ((impl_within.f a2 0 (wrap64 ((wrap64 ((l0.length : Int) * a1)) - 1))).bind fun t254 => (if t254 = true then ((impl_pickBy.f l0 a1 a2).bind fun t255 => (some (t255, true))) else (some (0, false)))) else (some (0, false)))
theorem impl_PickBy.calls (k : Nat) (A0 : Option Addr) (c0 : Nat) (l0 : List (S_Column)) (a1 : Int) (a2 : Int) (r1 : Int) (r2 : Bool) (w : World) (hr0 : Kd.C k_Column w A0 l0.length l0) (hc0 : l0.length ≤ c0) (h : impl_PickBy.f k l0 a1 a2 = some (r1, r2)) :
  Calls Try.prog 25 #[.slice A0 l0.length c0, .int .i64 a1, .int .i64 a2] w fun e w' => e = .returned (.tuple #[.int .i64 r1, .bool r2]) ∧ Below w.heap.size w w' := by
 have HR0 := Aside0.mk hr0
 have HC0 := Aside0.mk hc0
 clear hr0 hc0
 have HB := Aside0.mk (Below.refl w.heap.size w)
 have H : ((impl_areColumns.f k l0 a1).bind fun t253 => (if t253 = true then ((impl_within.f a2 0 (wrap64 ((wrap64 ((l0.length : Int) * a1)) - 1))).bind fun t254 => (if t254 = true then ((impl_pickBy.f l0 a1 a2).bind fun t255 => (some (t255, true))) else (some (0, false)))) else (some (0, false)))) = some (r1, r2) := h
 clear h
 obtain ⟨t253, A4, H⟩ := bnd H
 by_cases c5 : t253 = true
 ·subst c5
  replace H := ift H
  obtain ⟨t254, A6, H⟩ := bnd H
  by_cases c7 : t254 = true
  ·subst c7
   replace H := ift H
   obtain ⟨t255, A8, H⟩ := bnd H
   simp only [Option.some.injEq, Prod.mk.injEq] at H
   obtain ⟨rfl, rfl⟩ := H
   go_enter Try.func25, Try.ntmps25
   go_wp2_with (first | ((with_reducible refine gate_callee (f := 68) rfl ?_); refine goesL_ (some 10) rfl rfl Try.func68 KR rfl #[.slice A0 l0.length c0, .int .i64 a1] rfl TA ?_; (with_reducible refine (impl_areColumns.calls k _ _ l0 a1 true _ ?side1 ?side2 A4.out).mono ?_); (case side1 => exact CW (HR0.out)); (case side2 => exact HC0.out); rintro e w9 ⟨rfl, hb⟩; refine ⟨_, rfl, ?_⟩; replace HB := BS hb; clear hb) | (go_at_call 59; (with_reducible refine (impl_within.calls a2 0 (wrap64 ((wrap64 ((l0.length : Int) * a1)) - 1)) true _ A6.out).mono ?_); rintro e w' ⟨rfl, ⟨nd, rfl⟩⟩) | ((with_reducible refine gate_callee (f := 69) rfl ?_); refine goesL_ (some 25) rfl rfl Try.func69 KR rfl #[.slice A0 l0.length c0, .int .i64 a1, .int .i64 a2] rfl TA ?_; (with_reducible refine (impl_pickBy.calls _ _ l0 a1 a2 t255 _ ?side1 ?side2 A8.out).mono ?_); (case side1 => exact CW ((Kd.C_below HR0.out TB))); (case side2 => exact HC0.out); rintro e w' ⟨rfl, ⟨nd, rfl⟩⟩; refine ⟨_, rfl, ?_⟩))
   go_ret2
   exact ⟨TE, TB⟩
  ·replace c7 := Bool.eq_false_iff.mpr c7
   subst c7
   replace H := iff' H
   simp only [Option.some.injEq, Prod.mk.injEq] at H
   obtain ⟨rfl, rfl⟩ := H
   go_enter Try.func25, Try.ntmps25
   go_wp2_with (first | ((with_reducible refine gate_callee (f := 68) rfl ?_); refine goesL_ (some 10) rfl rfl Try.func68 KR rfl #[.slice A0 l0.length c0, .int .i64 a1] rfl TA ?_; (with_reducible refine (impl_areColumns.calls k _ _ l0 a1 true _ ?side1 ?side2 A4.out).mono ?_); (case side1 => exact CW (HR0.out)); (case side2 => exact HC0.out); rintro e w10 ⟨rfl, hb⟩; refine ⟨_, rfl, ?_⟩; replace HB := BS hb; clear hb) | (go_at_call 59; (with_reducible refine (impl_within.calls a2 0 (wrap64 ((wrap64 ((l0.length : Int) * a1)) - 1)) false _ A6.out).mono ?_); rintro e w' ⟨rfl, ⟨nd, rfl⟩⟩))
   go_ret2
   exact ⟨TE, TB⟩
 ·replace c5 := Bool.eq_false_iff.mpr c5
  subst c5
  replace H := iff' H
  simp only [Option.some.injEq, Prod.mk.injEq] at H
  obtain ⟨rfl, rfl⟩ := H
  go_enter Try.func25, Try.ntmps25
  go_wp2_with (first | ((with_reducible refine gate_callee (f := 68) rfl ?_); refine goesL_ (some 10) rfl rfl Try.func68 KR rfl #[.slice A0 l0.length c0, .int .i64 a1] rfl TA ?_; (with_reducible refine (impl_areColumns.calls k _ _ l0 a1 false _ ?side1 ?side2 A4.out).mono ?_); (case side1 => exact CW (HR0.out)); (case side2 => exact HC0.out); rintro e w11 ⟨rfl, hb⟩; refine ⟨_, rfl, ?_⟩; replace HB := BS hb; clear hb))
  go_ret2
  exact ⟨TE, TB⟩
end
section
/-! ### laws_sameInts: function 48 -/
def laws_sameInts.l0 : Nat → List Int → List Int → Int → Int → Option (Bool)
 | 0, _, _, _, _ => none
 | k + 1, x0, x1, x12, x13 => if x13 < x12 then (if 0 ≤ x13 then (if x13 < (x0.length : Int) then (if x13 < (x1.length : Int) then (if (rd x0 x13) = (rd x1 x13) then (laws_sameInts.l0 k x0 x1 x12 (wrap64 (x13 + 1))) else (some false)) else (none)) else (none)) else (none)) else (some true)
def laws_sameInts.f (k : Nat) (l0 : List Int) (l1 : List Int) : Option (Bool) := if (l0.length : Int) = (l1.length : Int) then (laws_sameInts.l0 k l0 l1 (l0.length : Int) 0) else (some false)
theorem laws_sameInts.calls (k : Nat) (A0 : Option Addr) (c0 : Nat) (l0 : List Int) (A1 : Option Addr) (c1 : Nat) (l1 : List Int) (r : Bool) (w : World) (hr0 : Kd.C (Kd.int .i64) w A0 l0.length l0) (hc0 : l0.length ≤ c0) (hr1 : Kd.C (Kd.int .i64) w A1 l1.length l1) (hc1 : l1.length ≤ c1) (h : laws_sameInts.f k l0 l1 = some r) :
  Calls Try.prog 48 #[.slice A0 l0.length c0, .slice A1 l1.length c1] w fun e w' => e = .returned (.bool r) ∧ Drawn0 w w' := by
 have HR0 := Aside0.mk hr0
 have HC0 := Aside0.mk hc0
 clear hr0 hc0
 have HR1 := Aside0.mk hr1
 have HC1 := Aside0.mk hc1
 clear hr1 hc1
 have H : (if (l0.length : Int) = (l1.length : Int) then (laws_sameInts.l0 k l0 l1 (l0.length : Int) 0) else (some false)) = some r := h
 clear h
 by_cases c3 : (l0.length : Int) = (l1.length : Int)
 ·rw [if_pos c3] at H
  have c3b0 : ((l0.length : Int) == (l1.length : Int)) = true := beq_iff_eq.mpr c3
  have c3b1 : ((l0.length : Int) != (l1.length : Int)) = false := bne_eq_false_iff_eq.mpr c3
  have c3b2 : (l0.length == l1.length) = true := by first | simpa using c3 | (simp at c3 ⊢; omega)
  clear c3
  have H' := Aside0.mk H
  clear H
  go_enter Try.func48, Try.ntmps48
  go_wp2
  repeat (go_quiet (fail); try go_wp2)
  go_loopg [13] k (fun kq v13 w' => ∃ (x13_1 : Int), v13 = .int .i64 x13_1 ∧ Aside0 (laws_sameInts.l0 kq l0 l1 (l0.length : Int) x13_1 = some r) ∧ Aside0 (kq ≤ k) ∧ Drawn0 w w')
  case atStart => exact ⟨(0), TF, H', ⟨Nat.le_refl _⟩, TN⟩
  case round =>
   clear H'
   obtain ⟨x13_1, rfl, HA, HK1, ⟨m1, rfl⟩⟩ := hrel
   cases gk with
   | zero => exact absurd HA.out (by simp [laws_sameInts.l0])
   | succ k1 =>
    have H := HA.out
    clear HA
    simp only [laws_sameInts.l0] at H
    by_cases c4 : x13_1 < (l0.length : Int)
    ·rw [if_pos c4] at H
     have c4b0 : decide (x13_1 < (l0.length : Int)) = true := decide_eq_true c4
     clear c4
     obtain ⟨c5, H⟩ := ifn H
     have c5b0 : decide (0 ≤ x13_1) = true := decide_eq_true c5
     clear c5
     obtain ⟨c6, H⟩ := ifn H
     have c6b0 : decide (x13_1 < (l0.length : Int)) = true := decide_eq_true c6
     clear c6
     obtain ⟨c7, H⟩ := ifn H
     have c7b0 : decide (x13_1 < (l1.length : Int)) = true := decide_eq_true c7
     clear c7
     by_cases c8 : (rd l0 x13_1) = (rd l1 x13_1)
     ·rw [if_pos c8] at H
      have c8b0 : ((rd l0 x13_1) == (rd l1 x13_1)) = true := beq_iff_eq.mpr c8
      have c8b1 : ((rd l0 x13_1) != (rd l1 x13_1)) = false := bne_eq_false_iff_eq.mpr c8
      clear c8
      have H' := Aside0.mk H
      clear H
      have p256 : 0 ≤ (x13_1 : Int) := TD
      have q256 : x13_1 < (l0.length : Int) := TD
      obtain ⟨ad256, e256, hx256_0⟩ := Kd.at_int HR0.out x13_1 p256 q256
      cases e256
      replace p256 := eq_true p256
      replace q256 := eq_true q256
      have p257 : 0 ≤ (x13_1 : Int) := TD
      have q257 : x13_1 < (l1.length : Int) := TD
      obtain ⟨ad257, e257, hx257_0⟩ := Kd.at_int HR1.out x13_1 p257 q257
      cases e257
      replace p257 := eq_true p257
      replace q257 := eq_true q257
      go_wp2
      repeat (go_quiet (fail); try go_wp2)
      go_roundg k1
      case measure => have := HK1.out; omega
      case rel => exact ⟨(wrap64 (x13_1 + 1)), TF, H', ⟨TM⟩, TN⟩
     ·rw [if_neg c8] at H
      have c8b0 : ((rd l0 x13_1) == (rd l1 x13_1)) = false := beq_eq_false_iff_ne.mpr c8
      have c8b1 : ((rd l0 x13_1) != (rd l1 x13_1)) = true := bne_iff_ne.mpr c8
      obtain rfl := Option.some.inj H
      have p256 : 0 ≤ (x13_1 : Int) := TD
      have q256 : x13_1 < (l0.length : Int) := TD
      obtain ⟨ad256, e256, hx256_0⟩ := Kd.at_int HR0.out x13_1 p256 q256
      cases e256
      replace p256 := eq_true p256
      replace q256 := eq_true q256
      have p257 : 0 ≤ (x13_1 : Int) := TD
      have q257 : x13_1 < (l1.length : Int) := TD
      obtain ⟨ad257, e257, hx257_0⟩ := Kd.at_int HR1.out x13_1 p257 q257
      cases e257
      replace p257 := eq_true p257
      replace q257 := eq_true q257
      go_wp2
      repeat (go_quiet (fail); try go_wp2)
      go_ret
      exact ⟨TF, TN⟩
    ·rw [if_neg c4] at H
     have c4b0 : decide (x13_1 < (l0.length : Int)) = false := decide_eq_false c4
     clear c4
     obtain rfl := Option.some.inj H
     go_wp2
     repeat (go_quiet (fail); try go_wp2)
     go_ret
     exact ⟨TF, TN⟩
 ·rw [if_neg c3] at H
  have c3b0 : ((l0.length : Int) == (l1.length : Int)) = false := beq_eq_false_iff_ne.mpr c3
  have c3b1 : ((l0.length : Int) != (l1.length : Int)) = true := bne_iff_ne.mpr c3
  have c3b2 : (l0.length == l1.length) = false := by first | simpa using c3 | (simp at c3 ⊢; omega)
  obtain rfl := Option.some.inj H
  go_enter Try.func48, Try.ntmps48
  go_wp2
  repeat (go_quiet (fail); try go_wp2)
  go_ret
  exact ⟨TF, TN⟩
end
end Go.Proofs.Ytioeomjjfajldaa.Pp
