/- The functions that the law reaches, one Lean function and its proof for each; written by wip/pp of this workplace, joined by claimit.py. -/
import Derived.Test.YtioeomjjfajldaaProg
import Derived.Below
import Derived.Deep.Draws
import Derived.Deep.AppendLies
import Derived.Maps.AppendAt
import Derived.OwnWalk
import Derived.Laws.BytesArg
import Derived.Laws.MakeOwn
import Derived.Laws.OwnMore
import Derived.Deep.OwnRows
import Derived.Tactics
import Derived.Lib.ConvBytes
import Derived.Laws.Slices
import Derived.WalkKit
import Derived.KernelRfl
import Derived.RowKit3
import Derived.Deep.LoopGhost
import Derived.Deep.QuietTactic
import Derived.BigQuiet
import Derived.WideLaws
import Derived.Deep.DeepCutAuto
import Derived.Deep.CutBlock
import Derived.Deep.RegionHeld3
import Derived.Laws.Rows
import Derived.Lib.AppendStr
import Derived.ArgAppend
import Derived.Laws.IdiomCopy
import Derived.OrdersHeld
import Derived.Laws.BitsLemmas
import Derived.RowKit
import Derived.Test.YtioeomjjfajldaaXWords
import Derived.Test.YtioeomjjfajldaaXSq
import Derived.Test.YtioeomjjfajldaaWWords
import Derived.Test.YtioeomjjfajldaaWLast
import Derived.Test.YtioeomjjfajldaaWTab
import Derived.Test.YtioeomjjfajldaaWFour
import Derived.Test.YtioeomjjfajldaaWQPut
import Derived.Test.YtioeomjjfajldaaWApart
import Derived.Test.YtioeomjjfajldaaWArr
import Derived.Test.YtioeomjjfajldaaWZeros
import Derived.Test.YtioeomjjfajldaaWFoot
import Derived.Test.YtioeomjjfajldaaWKept
import Derived.Test.YtioeomjjfajldaaWShare
import Derived.Test.YtioeomjjfajldaaWN
import Derived.Test.YtioeomjjfajldaaWFootNe
import Derived.Test.YtioeomjjfajldaaWAt
import Derived.Test.YtioeomjjfajldaaWEqStruct
import Derived.Test.YtioeomjjfajldaaWRepsOne
import Derived.Test.YtioeomjjfajldaaWInv
import Derived.Test.YtioeomjjfajldaaWInvWords
import Derived.Test.YtioeomjjfajldaaWGuard
import Derived.Test.YtioeomjjfajldaaWNEv
import Derived.Test.YtioeomjjfajldaaWMore
namespace Go.Proofs.Ytioeomjjfajldaa.Pp
open Go.RowKit Go.Proofs.YtioeomjjfajldaaW.PrintWords Go.Proofs.YtioeomjjfajldaaW.PrintLast Go.Proofs.YtioeomjjfajldaaW.PrintMore
attribute [local go_sem] max2_int min2_int max_two min_two max_three min_three max_four min_four   -- for this text's walks alone
set_option linter.unusedVariables false
set_option linter.unusedSimpArgs false



set_option maxHeartbeats 8000000
set_option maxRecDepth 100000
section
def errW : Option Int → Value
 | none => .nilIface
 | some c => .iface 0 (.int .i64 c)
theorem errW_none : errW none = .nilIface := rfl
theorem errW_some (c : Int) : errW (some c) = .iface 0 (.int .i64 c) := rfl

theorem info3 : (Try.prog.info? 3).map (fun i => (i.zero, i.size, i.bytes)) = some (some (.int .i64 0), 1, 8) := by kernel_rfl
theorem info4 : (Try.prog.info? 4).map (fun i => (i.zero, i.size, i.bytes)) = some (some (.bool false), 1, 1) := by kernel_rfl
theorem info5 : (Try.prog.info? 5).map (fun i => (i.zero, i.size, i.bytes)) = some (some (.int .u8 0), 1, 1) := by kernel_rfl
theorem info65 : (Try.prog.info? 65).map (fun i => (i.zero, i.size, i.bytes)) = some (some (.agg #[(.int .i64 0), (.int .i64 0)]), 2, 16) := by kernel_rfl
-- the values' own types
/-! #### struct type 65 -/
structure S_Column where
 f0 : Int
 f1 : Int
def z_Column : S_Column := ⟨(0 : Int), (0 : Int)⟩
def k_Column : Kd S_Column := Kd.iso (Kd.pair (Kd.int .i64) (Kd.int .i64)) (fun x : S_Column => (x.f0, x.f1))
theorem k_Column_open {w : World} {x : S_Column} {cs : List Value} (h : k_Column.K w x cs) : cs = [.int .i64 x.f0, .int .i64 x.f1] := by
 obtain ⟨_, _, rfl, rfl, rfl⟩ := h
 exact rfl
theorem k_Column_openM {w : World} {base : Nat} {ok : Nat → Prop} {x : S_Column} {cs : List Value} (h : k_Column.M w base ok x cs) : cs = [.int .i64 x.f0, .int .i64 x.f1] := by
 obtain ⟨_, _, rfl, rfl, rfl⟩ := h
 exact rfl
theorem k_Column_mk (w : World) (x : S_Column)  : k_Column.K w x [.int .i64 x.f0, .int .i64 x.f1] := ⟨[.int .i64 x.f0], [.int .i64 x.f1], rfl, rfl, rfl⟩
theorem k_Column_mkM (w : World) (base : Nat) (ok : Nat → Prop) (x : S_Column)  : k_Column.M w base ok x [.int .i64 x.f0, .int .i64 x.f1] := ⟨[.int .i64 x.f0], [.int .i64 x.f1], rfl, rfl, rfl⟩
def rd_TColumn (xs : List S_Column) (i : Int) : S_Column := xs.getD i.toNat z_Column
theorem at_TColumn {w : World} {A : Option Addr} {n : Nat} {xs : List S_Column} (h : Kd.C k_Column w A n xs) (i : Int) (h0 : 0 ≤ i) (h1 : i < n) : ∃ ad , A = some ad ∧ w.cell? (ad.add (i.toNat * 2)) = some (.int .i64 (rd_TColumn xs i).f0) ∧ w.cell? ⟨(ad.add (i.toNat * 2)).block, (ad.add (i.toNat * 2)).off + 1, none⟩ = some (.int .i64 (rd_TColumn xs i).f1) := by
 obtain ⟨ad, c, e, _, hK, hc0⟩ := Kd.C_get h z_Column i h0 h1
 have hc : ∀ j u, c[j]? = some u → w.cell? (ad.add (i.toNat * 2 + j)) = some u := hc0
 obtain rfl := k_Column_open hK
 exact ⟨ad, e, hc 0 _ rfl, by rw [← add_field _ _ 1 (by omega)]; exact hc 1 _ rfl⟩

/-! #### struct type 80 -/
structure S_LColumn where
 f0 : Int
 f1 : Int
def z_LColumn : S_LColumn := ⟨(0 : Int), (0 : Int)⟩
def k_LColumn : Kd S_LColumn := Kd.iso (Kd.pair (Kd.int .i64) (Kd.int .i64)) (fun x : S_LColumn => (x.f0, x.f1))
theorem k_LColumn_open {w : World} {x : S_LColumn} {cs : List Value} (h : k_LColumn.K w x cs) : cs = [.int .i64 x.f0, .int .i64 x.f1] := by
 obtain ⟨_, _, rfl, rfl, rfl⟩ := h
 exact rfl
theorem k_LColumn_openM {w : World} {base : Nat} {ok : Nat → Prop} {x : S_LColumn} {cs : List Value} (h : k_LColumn.M w base ok x cs) : cs = [.int .i64 x.f0, .int .i64 x.f1] := by
 obtain ⟨_, _, rfl, rfl, rfl⟩ := h
 exact rfl
theorem k_LColumn_mk (w : World) (x : S_LColumn)  : k_LColumn.K w x [.int .i64 x.f0, .int .i64 x.f1] := ⟨[.int .i64 x.f0], [.int .i64 x.f1], rfl, rfl, rfl⟩
theorem k_LColumn_mkM (w : World) (base : Nat) (ok : Nat → Prop) (x : S_LColumn)  : k_LColumn.M w base ok x [.int .i64 x.f0, .int .i64 x.f1] := ⟨[.int .i64 x.f0], [.int .i64 x.f1], rfl, rfl, rfl⟩
def rd_TLColumn (xs : List S_LColumn) (i : Int) : S_LColumn := xs.getD i.toNat z_LColumn
theorem at_TLColumn {w : World} {A : Option Addr} {n : Nat} {xs : List S_LColumn} (h : Kd.C k_LColumn w A n xs) (i : Int) (h0 : 0 ≤ i) (h1 : i < n) : ∃ ad , A = some ad ∧ w.cell? (ad.add (i.toNat * 2)) = some (.int .i64 (rd_TLColumn xs i).f0) ∧ w.cell? ⟨(ad.add (i.toNat * 2)).block, (ad.add (i.toNat * 2)).off + 1, none⟩ = some (.int .i64 (rd_TLColumn xs i).f1) := by
 obtain ⟨ad, c, e, _, hK, hc0⟩ := Kd.C_get h z_LColumn i h0 h1
 have hc : ∀ j u, c[j]? = some u → w.cell? (ad.add (i.toNat * 2 + j)) = some u := hc0
 obtain rfl := k_LColumn_open hK
 exact ⟨ad, e, hc 0 _ rfl, by rw [← add_field _ _ 1 (by omega)]; exact hc 1 _ rfl⟩

/-! #### struct type 113 -/
structure S_Record where
 f0 : ByteArray
 f1 : Int
 f2 : Int
 f3 : ByteArray
def z_Record : S_Record := ⟨(⟨#[]⟩ : ByteArray), (0 : Int), (0 : Int), (⟨#[]⟩ : ByteArray)⟩
def k_Record : Kd S_Record := Kd.iso (Kd.pair Kd.string (Kd.pair (Kd.int .i64) (Kd.pair (Kd.int .i64) Kd.string))) (fun x : S_Record => (x.f0, x.f1, x.f2, x.f3))
theorem k_Record_open {w : World} {x : S_Record} {cs : List Value} (h : k_Record.K w x cs) : cs = [.string x.f0, .int .i64 x.f1, .int .i64 x.f2, .string x.f3] := by
 obtain ⟨_, _, rfl, rfl, ⟨_, _, rfl, rfl, ⟨_, _, rfl, rfl, rfl⟩⟩⟩ := h
 exact rfl
theorem k_Record_openM {w : World} {base : Nat} {ok : Nat → Prop} {x : S_Record} {cs : List Value} (h : k_Record.M w base ok x cs) : cs = [.string x.f0, .int .i64 x.f1, .int .i64 x.f2, .string x.f3] := by
 obtain ⟨_, _, rfl, rfl, ⟨_, _, rfl, rfl, ⟨_, _, rfl, rfl, rfl⟩⟩⟩ := h
 exact rfl
theorem k_Record_mk (w : World) (x : S_Record)  : k_Record.K w x [.string x.f0, .int .i64 x.f1, .int .i64 x.f2, .string x.f3] := ⟨[.string x.f0], [.int .i64 x.f1, .int .i64 x.f2, .string x.f3], rfl, rfl, ⟨[.int .i64 x.f1], [.int .i64 x.f2, .string x.f3], rfl, rfl, ⟨[.int .i64 x.f2], [.string x.f3], rfl, rfl, rfl⟩⟩⟩
theorem k_Record_mkM (w : World) (base : Nat) (ok : Nat → Prop) (x : S_Record)  : k_Record.M w base ok x [.string x.f0, .int .i64 x.f1, .int .i64 x.f2, .string x.f3] := ⟨[.string x.f0], [.int .i64 x.f1, .int .i64 x.f2, .string x.f3], rfl, rfl, ⟨[.int .i64 x.f1], [.int .i64 x.f2, .string x.f3], rfl, rfl, ⟨[.int .i64 x.f2], [.string x.f3], rfl, rfl, rfl⟩⟩⟩
def rd_TRecord (xs : List S_Record) (i : Int) : S_Record := xs.getD i.toNat z_Record
theorem at_TRecord {w : World} {A : Option Addr} {n : Nat} {xs : List S_Record} (h : Kd.C k_Record w A n xs) (i : Int) (h0 : 0 ≤ i) (h1 : i < n) : ∃ ad , A = some ad ∧ w.cell? (ad.add (i.toNat * 4)) = some (.string (rd_TRecord xs i).f0) ∧ w.cell? ⟨(ad.add (i.toNat * 4)).block, (ad.add (i.toNat * 4)).off + 1, none⟩ = some (.int .i64 (rd_TRecord xs i).f1) ∧ w.cell? ⟨(ad.add (i.toNat * 4)).block, (ad.add (i.toNat * 4)).off + 2, none⟩ = some (.int .i64 (rd_TRecord xs i).f2) ∧ w.cell? ⟨(ad.add (i.toNat * 4)).block, (ad.add (i.toNat * 4)).off + 3, none⟩ = some (.string (rd_TRecord xs i).f3) := by
 obtain ⟨ad, c, e, _, hK, hc0⟩ := Kd.C_get h z_Record i h0 h1
 have hc : ∀ j u, c[j]? = some u → w.cell? (ad.add (i.toNat * 4 + j)) = some u := hc0
 obtain rfl := k_Record_open hK
 exact ⟨ad, e, hc 0 _ rfl, by rw [← add_field _ _ 1 (by omega)]; exact hc 1 _ rfl, by rw [← add_field _ _ 2 (by omega)]; exact hc 2 _ rfl, by rw [← add_field _ _ 3 (by omega)]; exact hc 3 _ rfl⟩

def rd_L7 (xs : List (List S_Record)) (i : Int) : (List S_Record) := xs.getD i.toNat ([] : List S_Record)
theorem at_L7 {w : World} {A : Option Addr} {n : Nat} {xs : List (List S_Record)} (h : Kd.C (Kd.slice 113 k_Record) w A n xs) (i : Int) (h0 : 0 ≤ i) (h1 : i < n) : ∃ ad A0 c0, A = some ad ∧ w.cell? (ad.add i.toNat) = some (.slice A0 (rd_L7 xs i).length c0) ∧ (rd_L7 xs i).length ≤ c0 ∧ k_Record.C w A0 (rd_L7 xs i).length (rd_L7 xs i) := by
 obtain ⟨ad, c, e, _, hK, hc0⟩ := Kd.C_get h ([] : List S_Record) i h0 h1
 have hc : ∀ j u, c[j]? = some u → w.cell? (ad.add (i.toNat * 1 + j)) = some u := hc0
 obtain ⟨A0, c0, rfl, l0, g0⟩ := hK
 exact ⟨ad, A0, c0, e, by have hq := hc 0 _ rfl; rwa [Nat.mul_one, Nat.add_zero] at hq, l0, g0⟩

/-! #### struct type 107 -/
structure S_Entry where
 f0 : ByteArray
 f1 : Int
 f2 : Bool
 f3 : (List S_Record)
 f4 : Int
 f5 : Int
def z_Entry : S_Entry := ⟨(⟨#[]⟩ : ByteArray), (0 : Int), false, ([] : List S_Record), (0 : Int), (0 : Int)⟩
def k_Entry : Kd S_Entry := Kd.iso (Kd.pair Kd.string (Kd.pair (Kd.int .i64) (Kd.pair Kd.bool (Kd.pair (Kd.slice 113 k_Record) (Kd.pair (Kd.int .i64) (Kd.int .i64)))))) (fun x : S_Entry => (x.f0, x.f1, x.f2, x.f3, x.f4, x.f5))
theorem k_Entry_open {w : World} {x : S_Entry} {cs : List Value} (h : k_Entry.K w x cs) : ∃ A3 c3, cs = [.string x.f0, .int .i64 x.f1, .bool x.f2, .slice A3 x.f3.length c3, .int .i64 x.f4, .int .i64 x.f5] ∧ x.f3.length ≤ c3 ∧ k_Record.C w A3 x.f3.length x.f3 := by
 obtain ⟨_, _, rfl, rfl, ⟨_, _, rfl, rfl, ⟨_, _, rfl, rfl, ⟨_, _, rfl, ⟨A3, c3, rfl, l3, g3⟩, ⟨_, _, rfl, rfl, rfl⟩⟩⟩⟩⟩ := h
 exact ⟨A3, c3, rfl, l3, g3⟩
theorem k_Entry_openM {w : World} {base : Nat} {ok : Nat → Prop} {x : S_Entry} {cs : List Value} (h : k_Entry.M w base ok x cs) : ∃ v3, cs = [.string x.f0, .int .i64 x.f1, .bool x.f2, v3, .int .i64 x.f4, .int .i64 x.f5] ∧ k_Record.R 113 w base ok v3 x.f3 := by
 obtain ⟨_, _, rfl, rfl, ⟨_, _, rfl, rfl, ⟨_, _, rfl, rfl, ⟨_, _, rfl, ⟨v3, rfl, g3⟩, ⟨_, _, rfl, rfl, rfl⟩⟩⟩⟩⟩ := h
 exact ⟨v3, rfl, g3⟩
theorem k_Entry_mk (w : World) (x : S_Entry) {A3 : Option Addr} {c3 : Nat} (l3 : x.f3.length ≤ c3) (g3 : k_Record.C w A3 x.f3.length x.f3) : k_Entry.K w x [.string x.f0, .int .i64 x.f1, .bool x.f2, .slice A3 x.f3.length c3, .int .i64 x.f4, .int .i64 x.f5] := ⟨[.string x.f0], [.int .i64 x.f1, .bool x.f2, .slice A3 x.f3.length c3, .int .i64 x.f4, .int .i64 x.f5], rfl, rfl, ⟨[.int .i64 x.f1], [.bool x.f2, .slice A3 x.f3.length c3, .int .i64 x.f4, .int .i64 x.f5], rfl, rfl, ⟨[.bool x.f2], [.slice A3 x.f3.length c3, .int .i64 x.f4, .int .i64 x.f5], rfl, rfl, ⟨[.slice A3 x.f3.length c3], [.int .i64 x.f4, .int .i64 x.f5], rfl, ⟨A3, c3, rfl, l3, g3⟩, ⟨[.int .i64 x.f4], [.int .i64 x.f5], rfl, rfl, rfl⟩⟩⟩⟩⟩
theorem k_Entry_mkM (w : World) (base : Nat) (ok : Nat → Prop) (x : S_Entry) {v3 : Value} (g3 : k_Record.R 113 w base ok v3 x.f3) : k_Entry.M w base ok x [.string x.f0, .int .i64 x.f1, .bool x.f2, v3, .int .i64 x.f4, .int .i64 x.f5] := ⟨[.string x.f0], [.int .i64 x.f1, .bool x.f2, v3, .int .i64 x.f4, .int .i64 x.f5], rfl, rfl, ⟨[.int .i64 x.f1], [.bool x.f2, v3, .int .i64 x.f4, .int .i64 x.f5], rfl, rfl, ⟨[.bool x.f2], [v3, .int .i64 x.f4, .int .i64 x.f5], rfl, rfl, ⟨[v3], [.int .i64 x.f4, .int .i64 x.f5], rfl, ⟨v3, rfl, g3⟩, ⟨[.int .i64 x.f4], [.int .i64 x.f5], rfl, rfl, rfl⟩⟩⟩⟩⟩
def rd_TEntry (xs : List S_Entry) (i : Int) : S_Entry := xs.getD i.toNat z_Entry
theorem at_TEntry {w : World} {A : Option Addr} {n : Nat} {xs : List S_Entry} (h : Kd.C k_Entry w A n xs) (i : Int) (h0 : 0 ≤ i) (h1 : i < n) : ∃ ad A3 c3, A = some ad ∧ w.cell? (ad.add (i.toNat * 6)) = some (.string (rd_TEntry xs i).f0) ∧ w.cell? ⟨(ad.add (i.toNat * 6)).block, (ad.add (i.toNat * 6)).off + 1, none⟩ = some (.int .i64 (rd_TEntry xs i).f1) ∧ w.cell? ⟨(ad.add (i.toNat * 6)).block, (ad.add (i.toNat * 6)).off + 2, none⟩ = some (.bool (rd_TEntry xs i).f2) ∧ w.cell? ⟨(ad.add (i.toNat * 6)).block, (ad.add (i.toNat * 6)).off + 3, none⟩ = some (.slice A3 (rd_TEntry xs i).f3.length c3) ∧ w.cell? ⟨(ad.add (i.toNat * 6)).block, (ad.add (i.toNat * 6)).off + 4, none⟩ = some (.int .i64 (rd_TEntry xs i).f4) ∧ w.cell? ⟨(ad.add (i.toNat * 6)).block, (ad.add (i.toNat * 6)).off + 5, none⟩ = some (.int .i64 (rd_TEntry xs i).f5) ∧ (rd_TEntry xs i).f3.length ≤ c3 ∧ k_Record.C w A3 (rd_TEntry xs i).f3.length (rd_TEntry xs i).f3 := by
 obtain ⟨ad, c, e, _, hK, hc0⟩ := Kd.C_get h z_Entry i h0 h1
 have hc : ∀ j u, c[j]? = some u → w.cell? (ad.add (i.toNat * 6 + j)) = some u := hc0
 obtain ⟨A3, c3, rfl, l3, g3⟩ := k_Entry_open hK
 exact ⟨ad, A3, c3, e, hc 0 _ rfl, by rw [← add_field _ _ 1 (by omega)]; exact hc 1 _ rfl, by rw [← add_field _ _ 2 (by omega)]; exact hc 2 _ rfl, by rw [← add_field _ _ 3 (by omega)]; exact hc 3 _ rfl, by rw [← add_field _ _ 4 (by omega)]; exact hc 4 _ rfl, by rw [← add_field _ _ 5 (by omega)]; exact hc 5 _ rfl, l3, g3⟩

def rd_L9 (xs : List (List Int)) (i : Int) : (List Int) := xs.getD i.toNat ([] : List Int)
theorem at_L9 {w : World} {A : Option Addr} {n : Nat} {xs : List (List Int)} (h : Kd.C (Kd.slice 3 (Kd.int .i64)) w A n xs) (i : Int) (h0 : 0 ≤ i) (h1 : i < n) : ∃ ad A0 c0, A = some ad ∧ w.cell? (ad.add i.toNat) = some (.slice A0 (rd_L9 xs i).length c0) ∧ (rd_L9 xs i).length ≤ c0 ∧ (Kd.int .i64).C w A0 (rd_L9 xs i).length (rd_L9 xs i) := by
 obtain ⟨ad, c, e, _, hK, hc0⟩ := Kd.C_get h ([] : List Int) i h0 h1
 have hc : ∀ j u, c[j]? = some u → w.cell? (ad.add (i.toNat * 1 + j)) = some u := hc0
 obtain ⟨A0, c0, rfl, l0, g0⟩ := hK
 exact ⟨ad, A0, c0, e, by have hq := hc 0 _ rfl; rwa [Nat.mul_one, Nat.add_zero] at hq, l0, g0⟩

/-! #### struct type 37 -/
structure S_LTurn where
 f0 : (List Int)
 f1 : (List Int)
def z_LTurn : S_LTurn := ⟨([] : List Int), ([] : List Int)⟩
def k_LTurn : Kd S_LTurn := Kd.iso (Kd.pair (Kd.slice 3 (Kd.int .i64)) (Kd.slice 3 (Kd.int .i64))) (fun x : S_LTurn => (x.f0, x.f1))
theorem k_LTurn_open {w : World} {x : S_LTurn} {cs : List Value} (h : k_LTurn.K w x cs) : ∃ A0 c0 A1 c1, cs = [.slice A0 x.f0.length c0, .slice A1 x.f1.length c1] ∧ x.f0.length ≤ c0 ∧ (Kd.int .i64).C w A0 x.f0.length x.f0 ∧ x.f1.length ≤ c1 ∧ (Kd.int .i64).C w A1 x.f1.length x.f1 := by
 obtain ⟨_, _, rfl, ⟨A0, c0, rfl, l0, g0⟩, ⟨A1, c1, rfl, l1, g1⟩⟩ := h
 exact ⟨A0, c0, A1, c1, rfl, l0, g0, l1, g1⟩
theorem k_LTurn_openM {w : World} {base : Nat} {ok : Nat → Prop} {x : S_LTurn} {cs : List Value} (h : k_LTurn.M w base ok x cs) : ∃ v0 v1, cs = [v0, v1] ∧ (Kd.int .i64).R 3 w base ok v0 x.f0 ∧ (Kd.int .i64).R 3 w base ok v1 x.f1 := by
 obtain ⟨_, _, rfl, ⟨v0, rfl, g0⟩, ⟨v1, rfl, g1⟩⟩ := h
 exact ⟨v0, v1, rfl, g0, g1⟩
theorem k_LTurn_mk (w : World) (x : S_LTurn) {A0 : Option Addr} {c0 : Nat} (l0 : x.f0.length ≤ c0) (g0 : (Kd.int .i64).C w A0 x.f0.length x.f0) {A1 : Option Addr} {c1 : Nat} (l1 : x.f1.length ≤ c1) (g1 : (Kd.int .i64).C w A1 x.f1.length x.f1) : k_LTurn.K w x [.slice A0 x.f0.length c0, .slice A1 x.f1.length c1] := ⟨[.slice A0 x.f0.length c0], [.slice A1 x.f1.length c1], rfl, ⟨A0, c0, rfl, l0, g0⟩, ⟨A1, c1, rfl, l1, g1⟩⟩
theorem k_LTurn_mkM (w : World) (base : Nat) (ok : Nat → Prop) (x : S_LTurn) {v0 : Value} (g0 : (Kd.int .i64).R 3 w base ok v0 x.f0) {v1 : Value} (g1 : (Kd.int .i64).R 3 w base ok v1 x.f1) : k_LTurn.M w base ok x [v0, v1] := ⟨[v0], [v1], rfl, ⟨v0, rfl, g0⟩, ⟨v1, rfl, g1⟩⟩
def rd_TLTurn (xs : List S_LTurn) (i : Int) : S_LTurn := xs.getD i.toNat z_LTurn
theorem at_TLTurn {w : World} {A : Option Addr} {n : Nat} {xs : List S_LTurn} (h : Kd.C k_LTurn w A n xs) (i : Int) (h0 : 0 ≤ i) (h1 : i < n) : ∃ ad A0 c0 A1 c1, A = some ad ∧ w.cell? (ad.add (i.toNat * 2)) = some (.slice A0 (rd_TLTurn xs i).f0.length c0) ∧ w.cell? ⟨(ad.add (i.toNat * 2)).block, (ad.add (i.toNat * 2)).off + 1, none⟩ = some (.slice A1 (rd_TLTurn xs i).f1.length c1) ∧ (rd_TLTurn xs i).f0.length ≤ c0 ∧ (Kd.int .i64).C w A0 (rd_TLTurn xs i).f0.length (rd_TLTurn xs i).f0 ∧ (rd_TLTurn xs i).f1.length ≤ c1 ∧ (Kd.int .i64).C w A1 (rd_TLTurn xs i).f1.length (rd_TLTurn xs i).f1 := by
 obtain ⟨ad, c, e, _, hK, hc0⟩ := Kd.C_get h z_LTurn i h0 h1
 have hc : ∀ j u, c[j]? = some u → w.cell? (ad.add (i.toNat * 2 + j)) = some u := hc0
 obtain ⟨A0, c0, A1, c1, rfl, l0, g0, l1, g1⟩ := k_LTurn_open hK
 exact ⟨ad, A0, c0, A1, c1, e, hc 0 _ rfl, by rw [← add_field _ _ 1 (by omega)]; exact hc 1 _ rfl, l0, g0, l1, g1⟩

def WF_LColumn (x : S_LColumn) : Prop := ((Lit.int .i64 x.f0).wf = true) ∧ (Lit.int .i64 x.f1).wf = true
def WF_LTurn (x : S_LTurn) : Prop := (x.f0.length ≤ maxLen ∧ ∀ x_ ∈ x.f0, (Lit.int .i64 x_).wf = true) ∧ x.f1.length ≤ maxLen ∧ ∀ x_ ∈ x.f1, (Lit.int .i64 x_).wf = true
end
section
/-! ### impl_within: function 59 -/
def impl_within.f (a0 : Int) (a1 : Int) (a2 : Int) : Option (Bool) := if a0 ≥ a1 then (some (decide (a0 ≤ a2))) else (some false)
theorem impl_within.calls (a0 : Int) (a1 : Int) (a2 : Int) (r : Bool) (w : World) (h : impl_within.f a0 a1 a2 = some r) :
  Calls Try.prog 59 #[.int .i64 a0, .int .i64 a1, .int .i64 a2] w fun e w' => e = .returned (.bool r) ∧ Drawn0 w w' := by
 have H : (if a0 ≥ a1 then (some (decide (a0 ≤ a2))) else (some false)) = some r := h
 clear h
 by_cases c4 : a0 ≥ a1
 ·rw [if_pos c4] at H
  have c4b0 : decide (a1 ≤ a0) = true := decide_eq_true c4
  clear c4
  obtain rfl := Option.some.inj H
  go_enter Try.func59, Try.ntmps59
  go_wp2
  go_ret
  exact ⟨TF, TN⟩
 ·rw [if_neg c4] at H
  have c4b0 : decide (a1 ≤ a0) = false := decide_eq_false c4
  clear c4
  obtain rfl := Option.some.inj H
  go_enter Try.func59, Try.ntmps59
  go_wp2
  go_ret
  exact ⟨TF, TN⟩
end
section
/-! ### impl_GoodWeights_1: function 61 -/
def impl_GoodWeights_1.f (a0 : Int) : Option (Bool) := (impl_within.f a0 0 50).bind fun t152 => (some (!t152))
theorem impl_GoodWeights_1.calls (a0 : Int) (r : Bool) (w : World) (h : impl_GoodWeights_1.f a0 = some r) :
  Calls Try.prog 61 #[.int .i64 a0] w fun e w' => e = .returned (.bool r) ∧ Drawn0 w w' := by
 have H : ((impl_within.f a0 0 50).bind fun t152 => (some (!t152))) = some r := h
 clear h
 obtain ⟨t152, A2, H⟩ := bnd H
 obtain rfl := Option.some.inj H
 go_enter Try.func61, Try.ntmps61
 go_wp2_with (first | ((with_reducible refine gate_callee (f := 59) rfl ?_); refine goesL_ (some 4) rfl rfl Try.func59 KR rfl #[.int .i64 a0, .int .i64 0, .int .i64 50] rfl TA ?_; (with_reducible refine (impl_within.calls a0 0 50 t152 _ A2.out).mono ?_); rintro e w' ⟨rfl, ⟨nd, rfl⟩⟩; refine ⟨_, rfl, ?_⟩))
 go_ret
 exact ⟨TF, TN⟩
end
section
/-! ### slices_IndexFunc_int_int_GoodWeights_1: function 85 -/
def slices_IndexFunc_int_int_GoodWeights_1.l0 : Nat → List Int → Int → Int → Option (Int)
 | 0, _, _, _ => none
 | k + 1, x0, x7, x8 => if x8 < x7 then (if 0 ≤ x8 then (if x8 < (x0.length : Int) then ((impl_GoodWeights_1.f (rd x0 x8)).bind fun t154 => (if t154 = true then (some x8) else (slices_IndexFunc_int_int_GoodWeights_1.l0 k x0 x7 (wrap64 (x8 + 1))))) else (none)) else (none)) else (some (-1))
def slices_IndexFunc_int_int_GoodWeights_1.f (k : Nat) (l0 : List Int)  : Option (Int) := slices_IndexFunc_int_int_GoodWeights_1.l0 k l0 (l0.length : Int) 0
theorem slices_IndexFunc_int_int_GoodWeights_1.calls (k : Nat) (A0 : Option Addr) (c0 : Nat) (l0 : List Int)  (r : Int) (w : World) (hr0 : Kd.C (Kd.int .i64) w A0 l0.length l0) (hc0 : l0.length ≤ c0) (h : slices_IndexFunc_int_int_GoodWeights_1.f k l0 = some r) :
  Calls Try.prog 85 #[.slice A0 l0.length c0, .func (.func 61) #[] #[]] w fun e w' => e = .returned (.int .i64 r) ∧ Drawn0 w w' := by
 have HR0 := Aside0.mk hr0
 have HC0 := Aside0.mk hc0
 clear hr0 hc0
 have H : (slices_IndexFunc_int_int_GoodWeights_1.l0 k l0 (l0.length : Int) 0) = some r := h
 clear h
 have H' := Aside0.mk H
 clear H
 go_enter Try.func85, Try.ntmps85
 go_wp2
 go_loopg [8] k (fun kq v8 w' => ∃ (x8_1 : Int), v8 = .int .i64 x8_1 ∧ Aside0 (slices_IndexFunc_int_int_GoodWeights_1.l0 kq l0 (l0.length : Int) x8_1 = some r) ∧ Aside0 (kq ≤ k) ∧ Drawn0 w w')
 case atStart => exact ⟨(0), TF, H', ⟨Nat.le_refl _⟩, TN⟩
 case round =>
  clear H'
  obtain ⟨x8_1, rfl, HA, HK1, ⟨m1, rfl⟩⟩ := hrel
  cases gk with
  | zero => exact absurd HA.out (by simp [slices_IndexFunc_int_int_GoodWeights_1.l0])
  | succ k1 =>
   have H := HA.out
   clear HA
   simp only [slices_IndexFunc_int_int_GoodWeights_1.l0] at H
   by_cases c3 : x8_1 < (l0.length : Int)
   ·rw [if_pos c3] at H
    have c3b0 : decide (x8_1 < (l0.length : Int)) = true := decide_eq_true c3
    clear c3
    obtain ⟨c4, H⟩ := ifn H
    have c4b0 : decide (0 ≤ x8_1) = true := decide_eq_true c4
    clear c4
    obtain ⟨c5, H⟩ := ifn H
    have c5b0 : decide (x8_1 < (l0.length : Int)) = true := decide_eq_true c5
    clear c5
    obtain ⟨t154, A6, H⟩ := bnd H
    by_cases c7 : t154 = true
    ·subst c7
     replace H := ift H
     obtain rfl := Option.some.inj H
     have p153 : 0 ≤ (x8_1 : Int) := TD
     have q153 : x8_1 < (l0.length : Int) := TD
     obtain ⟨ad153, e153, hx153_0⟩ := Kd.at_int HR0.out x8_1 p153 q153
     cases e153
     replace p153 := eq_true p153
     replace q153 := eq_true q153
     go_wp2_with (first | (go_at_call 61; (with_reducible refine (impl_GoodWeights_1.calls (rd l0 x8_1) true _ A6.out).mono ?_); rintro e w' ⟨rfl, ⟨nd, rfl⟩⟩))
     go_ret
     exact ⟨TF, TN⟩
    ·replace c7 := Bool.eq_false_iff.mpr c7
     subst c7
     replace H := iff' H
     have H' := Aside0.mk H
     clear H
     have p153 : 0 ≤ (x8_1 : Int) := TD
     have q153 : x8_1 < (l0.length : Int) := TD
     obtain ⟨ad153, e153, hx153_0⟩ := Kd.at_int HR0.out x8_1 p153 q153
     cases e153
     replace p153 := eq_true p153
     replace q153 := eq_true q153
     go_wp2_with (first | (go_at_call 61; (with_reducible refine (impl_GoodWeights_1.calls (rd l0 x8_1) false _ A6.out).mono ?_); rintro e w' ⟨rfl, ⟨nd, rfl⟩⟩))
     go_roundg k1
     case measure => have := HK1.out; omega
     case rel => exact ⟨(wrap64 (x8_1 + 1)), TF, H', ⟨TM⟩, TN⟩
   ·rw [if_neg c3] at H
    have c3b0 : decide (x8_1 < (l0.length : Int)) = false := decide_eq_false c3
    clear c3
    obtain rfl := Option.some.inj H
    go_wp2
    go_ret
    exact ⟨TF, TN⟩
end
section
/-! ### slices_ContainsFunc_int_int_GoodWeights_1: function 60 -/
def slices_ContainsFunc_int_int_GoodWeights_1.f (k : Nat) (l0 : List Int)  : Option (Bool) := (slices_IndexFunc_int_int_GoodWeights_1.f k l0).bind fun t155 => (some (decide (t155 ≥ 0)))
theorem slices_ContainsFunc_int_int_GoodWeights_1.calls (k : Nat) (A0 : Option Addr) (c0 : Nat) (l0 : List Int)  (r : Bool) (w : World) (hr0 : Kd.C (Kd.int .i64) w A0 l0.length l0) (hc0 : l0.length ≤ c0) (h : slices_ContainsFunc_int_int_GoodWeights_1.f k l0 = some r) :
  Calls Try.prog 60 #[.slice A0 l0.length c0, .func (.func 61) #[] #[]] w fun e w' => e = .returned (.bool r) ∧ Drawn0 w w' := by
 have HR0 := Aside0.mk hr0
 have HC0 := Aside0.mk hc0
 clear hr0 hc0
 have H : ((slices_IndexFunc_int_int_GoodWeights_1.f k l0).bind fun t155 => (some (decide (t155 ≥ 0)))) = some r := h
 clear h
 obtain ⟨t155, A3, H⟩ := bnd H
 obtain rfl := Option.some.inj H
 go_enter Try.func60, Try.ntmps60
 go_wp2_with (first | ((with_reducible refine gate_callee (f := 85) rfl ?_); refine goesL_ (some 7) rfl rfl Try.func85 KR rfl #[.slice A0 l0.length c0, .func (.func 61) #[] #[]] rfl TA ?_; (with_reducible refine (slices_IndexFunc_int_int_GoodWeights_1.calls k _ _ l0  t155 _ ?side1 ?side2 A3.out).mono ?_); (case side1 => exact CW (HR0.out)); (case side2 => exact HC0.out); rintro e w' ⟨rfl, ⟨nd, rfl⟩⟩; refine ⟨_, rfl, ?_⟩))
 go_ret
 exact ⟨TF, TN⟩
end
section
/-! ### impl_totalOf: function 62 -/
def impl_totalOf.l0 : Nat → Int → List Int → Int → Int → Option (Int)
 | 0, _, _, _, _ => none
 | k + 1, x3, x6, x7, x8 => if x8 < x7 then (if 0 ≤ x8 then (if x8 < (x6.length : Int) then (impl_totalOf.l0 k (wrap64 (x3 + (rd x6 x8))) x6 x7 (wrap64 (x8 + 1))) else (none)) else (none)) else (some x3)
def impl_totalOf.f (k : Nat) (l0 : List Int) : Option (Int) := impl_totalOf.l0 k 0 l0 (l0.length : Int) 0
theorem impl_totalOf.calls (k : Nat) (A0 : Option Addr) (c0 : Nat) (l0 : List Int) (r : Int) (w : World) (hr0 : Kd.C (Kd.int .i64) w A0 l0.length l0) (hc0 : l0.length ≤ c0) (h : impl_totalOf.f k l0 = some r) :
  Calls Try.prog 62 #[.slice A0 l0.length c0] w fun e w' => e = .returned (.int .i64 r) ∧ Drawn0 w w' := by
 have HR0 := Aside0.mk hr0
 have HC0 := Aside0.mk hc0
 clear hr0 hc0
 have H : (impl_totalOf.l0 k 0 l0 (l0.length : Int) 0) = some r := h
 clear h
 have H' := Aside0.mk H
 clear H
 go_enter Try.func62, Try.ntmps62
 go_wp2
 go_loopg [3, 8] k (fun kq v3 v8 w' => ∃ (x3_1 : Int) (x8_1 : Int), v3 = .int .i64 x3_1 ∧ v8 = .int .i64 x8_1 ∧ Aside0 (impl_totalOf.l0 kq x3_1 l0 (l0.length : Int) x8_1 = some r) ∧ Aside0 (kq ≤ k) ∧ Drawn0 w w')
 case atStart => exact ⟨(0), (0), TF, TF, H', ⟨Nat.le_refl _⟩, TN⟩
 case round =>
  clear H'
  obtain ⟨x3_1, x8_1, rfl, rfl, HA, HK1, ⟨m1, rfl⟩⟩ := hrel
  cases gk with
  | zero => exact absurd HA.out (by simp [impl_totalOf.l0])
  | succ k1 =>
   have H := HA.out
   clear HA
   simp only [impl_totalOf.l0] at H
   by_cases c2 : x8_1 < (l0.length : Int)
   ·rw [if_pos c2] at H
    have c2b0 : decide (x8_1 < (l0.length : Int)) = true := decide_eq_true c2
    clear c2
    obtain ⟨c3, H⟩ := ifn H
    have c3b0 : decide (0 ≤ x8_1) = true := decide_eq_true c3
    clear c3
    obtain ⟨c4, H⟩ := ifn H
    have c4b0 : decide (x8_1 < (l0.length : Int)) = true := decide_eq_true c4
    clear c4
    have H' := Aside0.mk H
    clear H
    have p156 : 0 ≤ (x8_1 : Int) := TD
    have q156 : x8_1 < (l0.length : Int) := TD
    obtain ⟨ad156, e156, hx156_0⟩ := Kd.at_int HR0.out x8_1 p156 q156
    cases e156
    replace p156 := eq_true p156
    replace q156 := eq_true q156
    go_wp2
    go_roundg k1
    case measure => have := HK1.out; omega
    case rel => exact ⟨(wrap64 (x3_1 + (rd l0 x8_1))), (wrap64 (x8_1 + 1)), TF, TF, H', ⟨TM⟩, TN⟩
   ·rw [if_neg c2] at H
    have c2b0 : decide (x8_1 < (l0.length : Int)) = false := decide_eq_false c2
    clear c2
    obtain rfl := Option.some.inj H
    go_wp2
    go_ret
    exact ⟨TF, TN⟩
end
section
/-! ### impl_GoodWeights: function 17 -/
def impl_GoodWeights.f (k : Nat) (l0 : List Int) : Option (Bool) := (impl_within.f (l0.length : Int) 1 12).bind fun t157 => (if t157 = true then ((slices_ContainsFunc_int_int_GoodWeights_1.f k l0).bind fun t158 => (if t158 = true then (some false) else ((impl_totalOf.f k l0).bind fun t159 => (some (decide (t159 > 0)))))) else (some false))
theorem impl_GoodWeights.calls (k : Nat) (A0 : Option Addr) (c0 : Nat) (l0 : List Int) (r : Bool) (w : World) (hr0 : Kd.C (Kd.int .i64) w A0 l0.length l0) (hc0 : l0.length ≤ c0) (h : impl_GoodWeights.f k l0 = some r) :
  Calls Try.prog 17 #[.slice A0 l0.length c0] w fun e w' => e = .returned (.bool r) ∧ Drawn0 w w' := by
 have HR0 := Aside0.mk hr0
 have HC0 := Aside0.mk hc0
 clear hr0 hc0
 have H : ((impl_within.f (l0.length : Int) 1 12).bind fun t157 => (if t157 = true then ((slices_ContainsFunc_int_int_GoodWeights_1.f k l0).bind fun t158 => (if t158 = true then (some false) else ((impl_totalOf.f k l0).bind fun t159 => (some (decide (t159 > 0)))))) else (some false))) = some r := h
 clear h
 obtain ⟨t157, A2, H⟩ := bnd H
 by_cases c3 : t157 = true
 ·subst c3
  replace H := ift H
  obtain ⟨t158, A4, H⟩ := bnd H
  by_cases c5 : t158 = true
  ·subst c5
   replace H := ift H
   obtain rfl := Option.some.inj H
   go_enter Try.func17, Try.ntmps17
   go_wp2_with (first | ((with_reducible refine gate_callee (f := 59) rfl ?_); refine goesL_ (some 5) rfl rfl Try.func59 KR rfl #[.int .i64 (l0.length : Int), .int .i64 1, .int .i64 12] rfl TA ?_; (with_reducible refine (impl_within.calls (l0.length : Int) 1 12 true _ A2.out).mono ?_); rintro e w' ⟨rfl, ⟨nd, rfl⟩⟩; refine ⟨_, rfl, ?_⟩) | (go_at_call 60; (with_reducible refine (slices_ContainsFunc_int_int_GoodWeights_1.calls k _ _ l0  true _ ?side1 ?side2 A4.out).mono ?_); (case side1 => exact CW (HR0.out)); (case side2 => exact HC0.out); rintro e w' ⟨rfl, ⟨nd, rfl⟩⟩))
   go_ret
   exact ⟨TF, TN⟩
  ·replace c5 := Bool.eq_false_iff.mpr c5
   subst c5
   replace H := iff' H
   obtain ⟨t159, A6, H⟩ := bnd H
   obtain rfl := Option.some.inj H
   go_enter Try.func17, Try.ntmps17
   go_wp2_with (first | ((with_reducible refine gate_callee (f := 59) rfl ?_); refine goesL_ (some 5) rfl rfl Try.func59 KR rfl #[.int .i64 (l0.length : Int), .int .i64 1, .int .i64 12] rfl TA ?_; (with_reducible refine (impl_within.calls (l0.length : Int) 1 12 true _ A2.out).mono ?_); rintro e w' ⟨rfl, ⟨nd, rfl⟩⟩; refine ⟨_, rfl, ?_⟩) | (go_at_call 60; (with_reducible refine (slices_ContainsFunc_int_int_GoodWeights_1.calls k _ _ l0  false _ ?side1 ?side2 A4.out).mono ?_); (case side1 => exact CW (HR0.out)); (case side2 => exact HC0.out); rintro e w' ⟨rfl, ⟨nd, rfl⟩⟩) | (go_at_call 62; (with_reducible refine (impl_totalOf.calls k _ _ l0 t159 _ ?side1 ?side2 A6.out).mono ?_); (case side1 => exact CW (HR0.out)); (case side2 => exact HC0.out); rintro e w' ⟨rfl, ⟨nd, rfl⟩⟩))
   go_ret
   exact ⟨TF, TN⟩
 ·replace c3 := Bool.eq_false_iff.mpr c3
  subst c3
  replace H := iff' H
  obtain rfl := Option.some.inj H
  go_enter Try.func17, Try.ntmps17
  go_wp2_with (first | ((with_reducible refine gate_callee (f := 59) rfl ?_); refine goesL_ (some 5) rfl rfl Try.func59 KR rfl #[.int .i64 (l0.length : Int), .int .i64 1, .int .i64 12] rfl TA ?_; (with_reducible refine (impl_within.calls (l0.length : Int) 1 12 false _ A2.out).mono ?_); rintro e w' ⟨rfl, ⟨nd, rfl⟩⟩; refine ⟨_, rfl, ?_⟩))
  go_ret
  exact ⟨TF, TN⟩
end
section
/-! ### impl_aliasOf_1: function 88 -/
def impl_aliasOf_1.f (a0 : Int) (a1_0 : Int) : Option (Bool) := some (decide (a0 > a1_0))
theorem impl_aliasOf_1.calls (a0 : Int) (g1_ : Nat) (a1_0 : Int) (r : Bool) (w : World) (hkg1_ : w.heap[g1_]? = some (.cells #[.int .i64 a1_0] 3 (0, 0))) (h : impl_aliasOf_1.f a0 a1_0 = some r) :
  Calls Try.prog 88 #[.int .i64 a0, .pointer (some ⟨g1_, 0, none⟩)] w fun e w' => e = .returned (.bool r) ∧ Drawn0 w w' := by
 have BKrg1_ := Aside0.mk hkg1_
 clear hkg1_
 have H : (some (decide (a0 > a1_0))) = some r := h
 clear h
 obtain rfl := Option.some.inj H
 have hcz3 := cz1 BKrg1_
 go_enter Try.func88, Try.ntmps88
 go_wp2
 go_ret
 exact ⟨TF, TN⟩
end
section
/-! ### slices_IndexFunc_int_int_aliasOf_1: function 85 -/
def slices_IndexFunc_int_int_aliasOf_1.l0 : Nat → List Int → Int → Int → Int → Option (Int)
 | 0, _, _, _, _ => none
 | k + 1, x0, x7, x8, x59000 => if x8 < x7 then (if 0 ≤ x8 then (if x8 < (x0.length : Int) then ((impl_aliasOf_1.f (rd x0 x8) x59000).bind fun t161 => (if t161 = true then (some x8) else (slices_IndexFunc_int_int_aliasOf_1.l0 k x0 x7 (wrap64 (x8 + 1)) x59000))) else (none)) else (none)) else (some (-1))
def slices_IndexFunc_int_int_aliasOf_1.f (k : Nat) (l0 : List Int) (a1_0 : Int) : Option (Int) := slices_IndexFunc_int_int_aliasOf_1.l0 k l0 (l0.length : Int) 0 a1_0
theorem slices_IndexFunc_int_int_aliasOf_1.calls (k : Nat) (A0 : Option Addr) (c0 : Nat) (l0 : List Int) (g1_0_ : Nat) (a1_0 : Int) (r : Int) (w : World) (hr0 : Kd.C (Kd.int .i64) w A0 l0.length l0) (hc0 : l0.length ≤ c0) (hkg1_0_ : w.heap[g1_0_]? = some (.cells #[.int .i64 a1_0] 3 (0, 0))) (h : slices_IndexFunc_int_int_aliasOf_1.f k l0 a1_0 = some r) :
  Calls Try.prog 85 #[.slice A0 l0.length c0, .func (.func 88) #[] #[.pointer (some ⟨g1_0_, 0, none⟩)]] w fun e w' => e = .returned (.int .i64 r) ∧ Drawn0 w w' := by
 have HR0 := Aside0.mk hr0
 have HC0 := Aside0.mk hc0
 clear hr0 hc0
 have BKrg1_0_ := Aside0.mk hkg1_0_
 clear hkg1_0_
 have H : (slices_IndexFunc_int_int_aliasOf_1.l0 k l0 (l0.length : Int) 0 a1_0) = some r := h
 clear h
 have H' := Aside0.mk H
 clear H
 go_enter Try.func85, Try.ntmps85
 go_wp2
 go_loopg [8] k (fun kq v8 w' => ∃ (x8_1 : Int), v8 = .int .i64 x8_1 ∧ Aside0 (slices_IndexFunc_int_int_aliasOf_1.l0 kq l0 (l0.length : Int) x8_1 a1_0 = some r) ∧ Aside0 (kq ≤ k) ∧ Aside0 (w'.heap[g1_0_]? = some (.cells #[.int .i64 a1_0] 3 (0, 0))) ∧ Drawn0 w w')
 case atStart => exact ⟨(0), TF, H', ⟨Nat.le_refl _⟩, ⟨BKrg1_0_.out⟩, TN⟩
 case round =>
  clear H'
  obtain ⟨x8_1, rfl, HA, HK1, BKrg1_0_, ⟨m1, rfl⟩⟩ := hrel
  cases gk with
  | zero => exact absurd HA.out (by simp [slices_IndexFunc_int_int_aliasOf_1.l0])
  | succ k1 =>
   have H := HA.out
   clear HA
   simp only [slices_IndexFunc_int_int_aliasOf_1.l0] at H
   by_cases c3 : x8_1 < (l0.length : Int)
   ·rw [if_pos c3] at H
    have c3b0 : decide (x8_1 < (l0.length : Int)) = true := decide_eq_true c3
    clear c3
    obtain ⟨c4, H⟩ := ifn H
    have c4b0 : decide (0 ≤ x8_1) = true := decide_eq_true c4
    clear c4
    obtain ⟨c5, H⟩ := ifn H
    have c5b0 : decide (x8_1 < (l0.length : Int)) = true := decide_eq_true c5
    clear c5
    obtain ⟨t161, A6, H⟩ := bnd H
    by_cases c7 : t161 = true
    ·subst c7
     replace H := ift H
     obtain rfl := Option.some.inj H
     have p160 : 0 ≤ (x8_1 : Int) := TD
     have q160 : x8_1 < (l0.length : Int) := TD
     obtain ⟨ad160, e160, hx160_0⟩ := Kd.at_int HR0.out x8_1 p160 q160
     cases e160
     replace p160 := eq_true p160
     replace q160 := eq_true q160
     go_wp2_with (first | (go_at_call 88; (with_reducible refine (impl_aliasOf_1.calls (rd l0 x8_1) g1_0_ a1_0 true _ ?side1 A6.out).mono ?_); (case side1 => exact (KW BKrg1_0_).out); rintro e w' ⟨rfl, ⟨nd, rfl⟩⟩))
     go_ret
     exact ⟨TF, TN⟩
    ·replace c7 := Bool.eq_false_iff.mpr c7
     subst c7
     replace H := iff' H
     have H' := Aside0.mk H
     clear H
     have p160 : 0 ≤ (x8_1 : Int) := TD
     have q160 : x8_1 < (l0.length : Int) := TD
     obtain ⟨ad160, e160, hx160_0⟩ := Kd.at_int HR0.out x8_1 p160 q160
     cases e160
     replace p160 := eq_true p160
     replace q160 := eq_true q160
     go_wp2_with (first | (go_at_call 88; (with_reducible refine (impl_aliasOf_1.calls (rd l0 x8_1) g1_0_ a1_0 false _ ?side1 A6.out).mono ?_); (case side1 => exact (KW BKrg1_0_).out); rintro e w' ⟨rfl, ⟨nd, rfl⟩⟩))
     go_roundg k1
     case measure => have := HK1.out; omega
     case rel => exact ⟨(wrap64 (x8_1 + 1)), TF, H', ⟨TM⟩, ⟨BKrg1_0_.out⟩, TN⟩
   ·rw [if_neg c3] at H
    have c3b0 : decide (x8_1 < (l0.length : Int)) = false := decide_eq_false c3
    clear c3
    obtain rfl := Option.some.inj H
    go_wp2
    go_ret
    exact ⟨TF, TN⟩
end
section
/-! ### impl_aliasOf: function 75 -/
mutual
def impl_aliasOf.l0 : Nat → List Int → List Int → List (S_Column) → List Int → Int → Int → Int → Option ((List (S_Column)))
 | 0, _, _, _, _, _, _, _ => none
 | k + 1, x0, x4, x5, x17, x18, x19, x164000 => if x19 < x18 then (if 0 ≤ x19 then (if x19 < (x17.length : Int) then (if x4.length < 17592186044416 then (if x5.length < 8796093022208 then (impl_aliasOf.l0 k x0 (x4 ++ [wrap64 ((rd x17 x19) * (x0.length : Int))]) (x5 ++ [(⟨x164000, x19⟩ : S_Column)]) x17 x18 (wrap64 (x19 + 1)) x164000) else (none)) else (none)) else (none)) else (none)) else (if 0 ≤ (x0.length : Int) then (if ((x0.length : Int) : Int).toNat ≤ 281474976710656 then (impl_aliasOf.l1 k x4 x5 (List.replicate ((x0.length : Int) : Int).toNat false) x164000) else (none)) else (none))
def impl_aliasOf.l1 : Nat → List Int → List (S_Column) → List Bool → Int → Option ((List (S_Column)))
 | 0, _, _, _, _ => none
 | k + 1, x4, x5, x8, x164000 => impl_aliasOf.l2 k x4 x5 x8 (-1) x4 (x4.length : Int) 0 x164000
def impl_aliasOf.l2 : Nat → List Int → List (S_Column) → List Bool → Int → List Int → Int → Int → Int → Option ((List (S_Column)))
 | 0, _, _, _, _, _, _, _, _ => none
 | k + 1, x4, x5, x8, x9, x41, x42, x43, x164000 => if x43 < x42 then (if 0 ≤ x43 then (if x43 < (x41.length : Int) then (if x43 < (x8.length : Int) then (if rdOf false x8 x43 = true then (impl_aliasOf.l2 k x4 x5 x8 x9 x41 x42 (wrap64 (x43 + 1)) x164000) else (if (rd x41 x43) < x164000 then (if x43 < 0 then (some x5) else ((slices_IndexFunc_int_int_aliasOf_1.f k x4 x164000).bind fun t182 => (if x43 < (x4.length : Int) then (if x43 < (x5.length : Int) then (if 0 ≤ t182 then (if t182 < (x4.length : Int) then (impl_aliasOf.l1 k (x4.set (t182 : Int).toNat (wrap64 ((rd x4 t182) - (wrap64 (x164000 - (rd x4 x43)))))) (x5.set (x43 : Int).toNat (⟨rd x4 x43, t182⟩ : S_Column)) (x8.set (x43 : Int).toNat true) x164000) else (none)) else (none)) else (none)) else (none)))) else (impl_aliasOf.l2 k x4 x5 x8 x9 x41 x42 (wrap64 (x43 + 1)) x164000))) else (none)) else (none)) else (none)) else (if x9 < 0 then (some x5) else ((slices_IndexFunc_int_int_aliasOf_1.f k x4 x164000).bind fun t189 => (if 0 ≤ x9 then (if x9 < (x4.length : Int) then (if x9 < (x5.length : Int) then (if 0 ≤ t189 then (if t189 < (x4.length : Int) then (if x9 < (x8.length : Int) then (impl_aliasOf.l1 k (x4.set (t189 : Int).toNat (wrap64 ((rd x4 t189) - (wrap64 (x164000 - (rd x4 x9)))))) (x5.set (x9 : Int).toNat (⟨rd x4 x9, t189⟩ : S_Column)) (x8.set (x9 : Int).toNat true) x164000) else (none)) else (none)) else (none)) else (none)) else (none)) else (none))))
end
def impl_aliasOf.f (k : Nat) (l0 : List Int) : Option ((List (S_Column))) := (impl_totalOf.f k l0).bind fun t162 => (impl_aliasOf.l0 k l0 (([] : List Int)) (([] : List (S_Column))) l0 (l0.length : Int) 0 t162)
def impl_aliasOf.T22 : Bool × List (List Nat × List Nat) := (true, [([], []), ([], []), ([0, 1], [0, 1]), ([2], [2]), ([], []), ([], []), ([], []), ([5, 6], [5, 6]), ([7], [7]), ([4, 8], [4, 8]), ([3, 9], [3, 9]), ([0, 1, 0, 1, 2, 3, 4, 5, 6, 7, 8, 9, 10], [0, 1]), ([11, 10, 0, 1, 2, 3, 4, 5, 6, 7, 8, 9, 10], [10, 11])])
def impl_aliasOf.B22 : List Nat := [0, 0, 3, 7, 0, 0, 0, 96, 224, 496, 1023, 2047, 4095]
theorem impl_aliasOf.tab22 : rtab .any (opsOf Try.f75 22) = impl_aliasOf.T22 := by kernel_rfl
theorem impl_aliasOf.bits22 : waitsOk impl_aliasOf.T22.2 impl_aliasOf.B22 = true := by kernel_rfl
theorem impl_aliasOf.calls (k : Nat) (A0 : Option Addr) (c0 : Nat) (l0 : List Int) (r : List (S_Column)) (w : World) (hr0 : Kd.C (Kd.int .i64) w A0 l0.length l0) (hc0 : l0.length ≤ c0) (h : impl_aliasOf.f k l0 = some r) :
  Calls Try.prog 75 #[.slice A0 l0.length c0] w fun e w' => ∃ v0_ : Value, e = .returned (v0_) ∧ Kd.R k_Column 65 w' w.heap.size (fun _ => True) v0_ r ∧ Below w.heap.size w w' := by
 have hu65 := Try.underlying65
 have HR0 := Aside0.mk hr0
 have HC0 := Aside0.mk hc0
 clear hr0 hc0
 have HB := Aside0.mk (Below.refl w.heap.size w)
 have H : ((impl_totalOf.f k l0).bind fun t162 => (impl_aliasOf.l0 k l0 (([] : List Int)) (([] : List (S_Column))) l0 (l0.length : Int) 0 t162)) = some r := h
 clear h
 obtain ⟨t162, A2, H⟩ := bnd H
 obtain ⟨y164, hy164⟩ : ∃ y_ : List Int, y_ = (([] : List Int)) := ⟨_, rfl⟩
 replace H : (impl_aliasOf.l0 k l0 y164 (([] : List (S_Column))) l0 (l0.length : Int) 0 t162) = some r := by first | (rw [hy164]; with_reducible exact H) | (have H2_ := (Option.bind_some _ _).symm.trans H; rw [hy164]; with_reducible exact H2_) | (have H2_ := (Option.bind_some _ _).symm.trans H; with_reducible exact H2_) | with_reducible exact H | (rw [hy164]; exact H) | exact H
 have Ny164 := Aside0.mk hy164
 clear hy164
 obtain ⟨y167, hy167⟩ : ∃ y_ : List (S_Column), y_ = (([] : List (S_Column))) := ⟨_, rfl⟩
 replace H : (impl_aliasOf.l0 k l0 y164 y167 l0 (l0.length : Int) 0 t162) = some r := by first | (rw [hy167]; with_reducible exact H) | (have H2_ := (Option.bind_some _ _).symm.trans H; rw [hy167]; with_reducible exact H2_) | (have H2_ := (Option.bind_some _ _).symm.trans H; with_reducible exact H2_) | with_reducible exact H | (rw [hy167]; exact H) | exact H
 have Ny167 := Aside0.mk hy167
 clear hy167
 have H' := Aside0.mk H
 clear H
 go_enter Try.func75, Try.ntmps75
 go_wp2_with (first | ((with_reducible refine gate_callee (f := 62) rfl ?_); refine goesL_ (some 14) rfl rfl Try.func62 KR rfl #[.slice A0 l0.length c0] rfl TA ?_; (with_reducible refine (impl_totalOf.calls k _ _ l0 t162 _ ?side1 ?side2 A2.out).mono ?_); (case side1 => exact CW (HR0.out)); (case side2 => exact HC0.out); rintro e w' ⟨rfl, ⟨nd, rfl⟩⟩; refine ⟨_, rfl, ?_⟩) | ((with_reducible refine gate_dst (N := 3) rfl ?_); refine bE 3 #[.int .i64 0] 3 ?_; intro gb163 hg w3 hbox hb; have BK163 := Aside0.mk (hbox); have GE163 := bG hg; replace HB := BS hb; clear hb hbox hg; have hcz4 := cz1 BK163) | ((with_reducible refine gate_dst (N := 15) rfl ?_); refine Kd.R_lit (Kd.int .i64) _ 3 ?hg (N := 15) ?hd (xs := ([] : List Int)) (inner := []) (ok := fun _ => True) (okp := fun _ => True) ?hr ?hp (fun _ hk => hk) trivial (Below.refl _ _) (Nat.le_refl _) (by simp) ?_; (case hd => rfl); (case hg => rfl); (case hr => first | (go_simp; done) | (go_simp; rfl)); (case hp => exact (Reps.none _ _)); intro v165 w5 ho6 hb hg_ hnew_; clear hg_ hnew_; (first | rw [← Ny164.out] at ho6 | (simp only [Int.reduceToNat] at ho6; rw [← Ny164.out] at ho6)); have HO166 := Aside0.mk (Kd.R_lower (Kd.R_newB ho6 (g := gb163) (o := .cells #[.int .i64 t162] 3 (0, 0)) (by (with_reducible repeat (first | refine blk_drewN ?_ _ | refine blk_drew ?_ | refine blk_alloc ?_ _)); refine blk_put (cs := #[.int .i64 0]) ?_ 0 _ rfl; (with_reducible repeat (first | refine blk_drewN ?_ _ | refine blk_drew ?_ | refine blk_alloc ?_ _)); exact BK163.out)) (below_size TB)); replace BK163 := KP BK163 #[.int .i64 t162] hb; replace HB := BS hb; clear hb ho6) | ((with_reducible refine gate_dst (N := 16) rfl ?_); refine Kd.R_lit k_Column _ 65 ?hg (N := 16) ?hd (xs := ([] : List (S_Column))) (inner := []) (ok := fun _ => True) (okp := fun _ => True) ?hr ?hp (fun _ hk => hk) trivial (Below.refl _ _) (Nat.le_refl _) (by simp) ?_; (case hd => rfl); (case hg => rfl); (case hr => first | (go_simp; done) | (go_simp; rfl)); (case hp => exact (Reps.none _ _)); intro v168 w7 ho8 hb hg_ hnew_; clear hg_ hnew_; (first | rw [← Ny167.out] at ho8 | (simp only [Int.reduceToNat] at ho8; rw [← Ny167.out] at ho8)); replace HO166 := RB HO166 hb; have HO169 := RL ho8; replace BK163 := KB BK163 hb; replace HB := BS hb; clear hb ho8))
 go_loopg [4, 5, 19] k (fun kq v4 v5 v19 w' => ∃ (x4_1 : List Int) (x5_1 : List (S_Column)) (x19_1 : Int), v19 = .int .i64 x19_1 ∧ Aside0 (impl_aliasOf.l0 kq l0 x4_1 x5_1 l0 (l0.length : Int) x19_1 t162 = some r) ∧ Aside0 (kq ≤ k) ∧ Aside0 (Kd.R (Kd.int .i64) 3 w' w.heap.size (fun k_ => k_ ≠ gb163) v4 x4_1) ∧ Aside0 (Kd.R k_Column 65 w' w.heap.size (fun _ => True) v5 x5_1) ∧ Aside0 (w'.heap[gb163]? = some (.cells #[.int .i64 t162] 3 (0, 0))) ∧ Aside0 (Below w.heap.size w w'))
 case atStart => exact ⟨(y164), (y167), (0), TF, H', ⟨Nat.le_refl _⟩, MO HO166, RW HO169, KW BK163, ⟨TB⟩⟩
 case round =>
  clear H'
  obtain ⟨x4_1, x5_1, x19_1, rfl, HA, HK1, HO_4, HO_5, BK163, HB⟩ := hrel
  cases gk with
  | zero => exact absurd HA.out (by simp [impl_aliasOf.l0])
  | succ k1 =>
   have H := HA.out
   clear HA
   simp only [impl_aliasOf.l0] at H
   by_cases c9 : x19_1 < (l0.length : Int)
   ·rw [if_pos c9] at H
    have c9b0 : decide (x19_1 < (l0.length : Int)) = true := decide_eq_true c9
    clear c9
    obtain ⟨c10, H⟩ := ifn H
    have c10b0 : decide (0 ≤ x19_1) = true := decide_eq_true c10
    clear c10
    obtain ⟨c11, H⟩ := ifn H
    have c11b0 : decide (x19_1 < (l0.length : Int)) = true := decide_eq_true c11
    clear c11
    obtain ⟨c12, H⟩ := ifn H
    have LMc12 := Aside0.mk c12
    clear c12
    obtain ⟨y171, hy171⟩ : ∃ y_ : List Int, y_ = (x4_1 ++ [wrap64 ((rd l0 x19_1) * (l0.length : Int))]) := ⟨_, rfl⟩
    replace H : (if x5_1.length < 8796093022208 then (impl_aliasOf.l0 k1 l0 y171 (x5_1 ++ [(⟨t162, x19_1⟩ : S_Column)]) l0 (l0.length : Int) (wrap64 (x19_1 + 1)) t162) else (none)) = some r := by first | (rw [hy171]; with_reducible exact H) | (have H2_ := (Option.bind_some _ _).symm.trans H; rw [hy171]; with_reducible exact H2_) | (have H2_ := (Option.bind_some _ _).symm.trans H; with_reducible exact H2_) | with_reducible exact H | (rw [hy171]; exact H) | exact H
    have Ny171 := Aside0.mk hy171
    clear hy171
    obtain ⟨c13, H⟩ := ifn H
    have LMc13 := Aside0.mk c13
    clear c13
    obtain ⟨y174, hy174⟩ : ∃ y_ : List (S_Column), y_ = (x5_1 ++ [(⟨t162, x19_1⟩ : S_Column)]) := ⟨_, rfl⟩
    replace H : (impl_aliasOf.l0 k1 l0 y171 y174 l0 (l0.length : Int) (wrap64 (x19_1 + 1)) t162) = some r := by first | (rw [hy174]; with_reducible exact H) | (have H2_ := (Option.bind_some _ _).symm.trans H; rw [hy174]; with_reducible exact H2_) | (have H2_ := (Option.bind_some _ _).symm.trans H; with_reducible exact H2_) | with_reducible exact H | (rw [hy174]; exact H) | exact H
    have Ny174 := Aside0.mk hy174
    clear hy174
    have H' := Aside0.mk H
    clear H
    have p170 : 0 ≤ (x19_1 : Int) := TD
    have q170 : x19_1 < (l0.length : Int) := TD
    obtain ⟨ad170, e170, hx170_0⟩ := Kd.at_int (Kd.C_below HR0.out HB.out) x19_1 p170 q170
    cases e170
    replace p170 := eq_true p170
    replace q170 := eq_true q170
    go_wp2_with (first | ((with_reducible refine gate_builtin (b := .append) (xs := #[.tmp 24, .tmp 29]) rfl ?_); at_builtin; refine Kd.R_append (Kd.int .i64) (w0 := w) w.heap.size rfl (.tmp 24) (.tmp 29) 22 3 (.int .i64 0) 8 rfl Try.underlying22 info3 rfl (by decide) (by omega) u4 x4_1 (wrap64 ((rd l0 x19_1) * (l0.length : Int))) [.int .i64 (wrap64 ((rd l0 x19_1) * (l0.length : Int)))] (fun k_ => k_ ≠ gb163) (fun _ => False) rfl rfl ?aP (fun _ hk => hk.elim) ?aF ?aO ?aB ?aS ?aL ?_; (case aP => exact rfl); (case aB => exact TB); (case aF => exact (fun k_ hk => Kd.freshB (g := gb163) (o := .cells #[.int .i64 t162] 3 (0, 0)) (KW BK163).out k_ hk)); (case aO => exact (RW HO_4).out); (case aS => exact (below_size TB)); (case aL => have := LMc12.out; omega); intro v172 w14 ho hb hg hat; rw [← Ny171.out] at ho; have n0_ := Aside0.mk (Kd.R_over' (RW HO_5).out (Kd.R_typed (RW HO_4).out) (by decide) hg); have n1_ := Aside0.mk (blk_grown (g := gb163) (o := .cells #[.int .i64 t162] 3 (0, 0)) (KW BK163).out hg (Kd.R_away HO_4.out (fun _ hk => hk))); have n2_ := Aside0.mk (hb); have n3_ := Aside0.mk (ho); clear HO_5; clear BK163; clear HB; clear HO_4; have HO_5 := n0_; have BK163 := n1_; have HB := n2_; have HO173 := n3_; clear n0_ n1_ n2_ n3_; clear ho hb hg hat; have hcz15 := cz1 BK163) | ((with_reducible refine gate_builtin (b := .append) (xs := #[.tmp 31, .tmp 35]) rfl ?_); at_builtin; refine Kd.R_append k_Column (w0 := w) w.heap.size rfl (.tmp 31) (.tmp 35) 29 65 (.agg #[(.int .i64 0), (.int .i64 0)]) 16 rfl Try.underlying29 info65 rfl (by decide) (by omega) u5 x5_1 (⟨t162, x19_1⟩ : S_Column) [.int .i64 t162, .int .i64 x19_1] (fun _ => True) (fun _ => False) rfl rfl ?aP (fun _ hk => hk.elim) ?aF ?aO ?aB ?aS ?aL ?_; (case aP => exact k_Column_mkM _ _ _ (⟨t162, x19_1⟩ : S_Column)); (case aB => exact TB); (case aF => exact (fun _ _ => trivial)); (case aO => exact (RW HO_5).out); (case aS => exact (below_size TB)); (case aL => have := LMc13.out; omega); intro v175 w16 ho hb hg hat; rw [← Ny174.out] at ho; have n0_ := Aside0.mk (blk_grown (g := gb163) (o := .cells #[.int .i64 t162] 3 (0, 0)) (KW BK163).out hg (Kd.R_ne HO_5.out BK163.out (by decide))); have n1_ := Aside0.mk (Kd.R_over' (RW HO173).out (Kd.R_typed (RW HO_5).out) (by decide) hg); have n2_ := Aside0.mk (hb); have n3_ := Aside0.mk (ho); clear BK163; clear HO173; clear HB; clear HO_5; have BK163 := n0_; have HO173 := n1_; have HB := n2_; have HO176 := n3_; clear n0_ n1_ n2_ n3_; clear ho hb hg hat))
    go_roundg k1
    case measure => have := HK1.out; omega
    case rel => exact ⟨(y171), (y174), (wrap64 (x19_1 + 1)), TF, H', ⟨TM⟩, RW HO173, RW HO176, KW BK163, ⟨TB⟩⟩
   ·rw [if_neg c9] at H
    have c9b0 : decide (x19_1 < (l0.length : Int)) = false := decide_eq_false c9
    clear c9
    obtain ⟨c17, H⟩ := ifn H
    have c17b0 := eq_true c17
    have c17b1 : decide (0 ≤ (l0.length : Int)) = true := decide_eq_true c17
    clear c17
    obtain ⟨c18, H⟩ := ifn H
    have c18b0 := eq_true c18
    have c18b1 : decide (((l0.length : Int) : Int).toNat ≤ 281474976710656) = true := decide_eq_true c18
    clear c18
    obtain ⟨y177, hy177⟩ : ∃ y_ : List Bool, y_ = (List.replicate ((l0.length : Int) : Int).toNat false) := ⟨_, rfl⟩
    replace H : (impl_aliasOf.l1 k1 x4_1 x5_1 y177 t162) = some r := by first | (rw [hy177]; with_reducible exact H) | (have H2_ := (Option.bind_some _ _).symm.trans H; rw [hy177]; with_reducible exact H2_) | (have H2_ := (Option.bind_some _ _).symm.trans H; with_reducible exact H2_) | with_reducible exact H | (rw [hy177]; exact H) | exact H
    have Ny177 := Aside0.mk hy177
    clear hy177
    have H' := Aside0.mk H
    clear H
    go_wp2_with (first | ((with_reducible refine gate_dst (N := 40) rfl ?_); refine Kd.R_make Kd.bool _ 4 rfl (N := 40) rfl 88 _ _ rfl (l0.length : Int) rfl rfl Try.underlying88 (.bool false) 1 info4 rfl (by decide) (by omega) false (ok := fun _ => True) (okp := fun _ => True) rfl (fun _ hk => hk) trivial TD (Nat.le_trans (Nat.mul_le_mul_right _ (TD : (l0.length : Int).toNat ≤ 281474976710656)) (by omega)) (Below.refl _ _) (Nat.le_refl _) ?_; intro v178 w19 ho20 hb hg_ hnew_; clear hg_ hnew_; (first | rw [← Ny177.out] at ho20 | (simp only [Int.reduceToNat] at ho20; rw [← Ny177.out] at ho20)); replace HO_4 := RB HO_4 hb; replace HO_5 := RB HO_5 hb; have HO179 := RL ho20; replace BK163 := KB BK163 hb; replace HB := BS hb; clear hb ho20))
    go_loopg [] k1 (fun kq w' => ∃ (x4_2 : List Int) (x5_2 : List (S_Column)) (x8_2 : List Bool), Aside0 (impl_aliasOf.l1 kq x4_2 x5_2 x8_2 t162 = some r) ∧ Aside0 (kq ≤ k1) ∧ Aside0 (Kd.R (Kd.int .i64) 3 w' w.heap.size (fun k_ => k_ ≠ gb163) u4 x4_2) ∧ Aside0 (Kd.R k_Column 65 w' w.heap.size (fun _ => True) u5 x5_2) ∧ Aside0 (Kd.R Kd.bool 4 w' w.heap.size (fun _ => True) v178 x8_2) ∧ Aside0 (w'.heap[gb163]? = some (.cells #[.int .i64 t162] 3 (0, 0))) ∧ Aside0 (Below w.heap.size w w'))
    case atStart => exact ⟨(x4_1), (x5_1), (y177), H', ⟨Nat.le_refl _⟩, RW HO_4, RW HO_5, RW HO179, KW BK163, ⟨TB⟩⟩
    case round =>
     clear H'
     obtain ⟨x4_2, x5_2, x8_2, HA, HK2, HO_4, HO_5, HO_8, BK163, HB⟩ := hrel
     cases gk with
     | zero => exact absurd HA.out (by simp [impl_aliasOf.l1])
     | succ k2 =>
      have H := HA.out
      clear HA
      simp only [impl_aliasOf.l1] at H
      have H' := Aside0.mk H
      clear H
      obtain ⟨Ao21, co21, eo21⟩ := Kd.R_slice HO_4.out
      subst eo21
      go_wp2
      go_loopg [9, 43] k2 (fun kq v9 v43 w' => ∃ (x9_3 : Int) (x43_3 : Int), v9 = .int .i64 x9_3 ∧ v43 = .int .i64 x43_3 ∧ Aside0 (impl_aliasOf.l2 kq x4_2 x5_2 x8_2 x9_3 x4_2 (x4_2.length : Int) x43_3 t162 = some r) ∧ Aside0 (kq ≤ k2) ∧ Aside0 (Kd.R (Kd.int .i64) 3 w' w.heap.size (fun k_ => k_ ≠ gb163) (.slice Ao21 x4_2.length co21) x4_2) ∧ Aside0 (Kd.R k_Column 65 w' w.heap.size (fun _ => True) u5 x5_2) ∧ Aside0 (Kd.R Kd.bool 4 w' w.heap.size (fun _ => True) v178 x8_2) ∧ Aside0 (Kd.R (Kd.int .i64) 3 w' w.heap.size (fun k_ => k_ ≠ gb163) (.slice Ao21 x4_2.length co21) x4_2) ∧ Aside0 (w'.heap[gb163]? = some (.cells #[.int .i64 t162] 3 (0, 0))) ∧ Aside0 (Below w.heap.size w w'))
      case atStart => exact ⟨((-1)), (0), TF, TF, H', ⟨Nat.le_refl _⟩, RW HO_4, RW HO_5, RW HO_8, RW HO_4, KW BK163, ⟨TB⟩⟩
      case round =>
       clear H'
       obtain ⟨x9_3, x43_3, rfl, rfl, HA, HK3, HO_4, HO_5, HO_8, HO_41, BK163, HB⟩ := hrel
       cases gk with
       | zero => exact absurd HA.out (by simp [impl_aliasOf.l2])
       | succ k3 =>
        have H := HA.out
        clear HA
        simp only [impl_aliasOf.l2] at H
        by_cases c22 : x43_3 < (x4_2.length : Int)
        ·rw [if_pos c22] at H
         have c22b0 : decide (x43_3 < (x4_2.length : Int)) = true := decide_eq_true c22
         clear c22
         obtain ⟨c23, H⟩ := ifn H
         have c23b0 : decide (0 ≤ x43_3) = true := decide_eq_true c23
         clear c23
         obtain ⟨c24, H⟩ := ifn H
         have c24b0 : decide (x43_3 < (x4_2.length : Int)) = true := decide_eq_true c24
         clear c24
         obtain ⟨c25, H⟩ := ifn H
         have c25b0 : decide (x43_3 < (x8_2.length : Int)) = true := decide_eq_true c25
         clear c25
         obtain ⟨bq26, hbq26⟩ : ∃ b_ : Bool, b_ = (rdOf false x8_2 x43_3) := ⟨_, rfl⟩
         replace H : (if bq26 = true then (impl_aliasOf.l2 k3 x4_2 x5_2 x8_2 x9_3 x4_2 (x4_2.length : Int) (wrap64 (x43_3 + 1)) t162) else (if (rd x4_2 x43_3) < t162 then (if x43_3 < 0 then (some x5_2) else ((slices_IndexFunc_int_int_aliasOf_1.f k3 x4_2 t162).bind fun t182 => (if x43_3 < (x4_2.length : Int) then (if x43_3 < (x5_2.length : Int) then (if 0 ≤ t182 then (if t182 < (x4_2.length : Int) then (impl_aliasOf.l1 k3 (x4_2.set (t182 : Int).toNat (wrap64 ((rd x4_2 t182) - (wrap64 (t162 - (rd x4_2 x43_3)))))) (x5_2.set (x43_3 : Int).toNat (⟨rd x4_2 x43_3, t182⟩ : S_Column)) (x8_2.set (x43_3 : Int).toNat true) t162) else (none)) else (none)) else (none)) else (none)))) else (impl_aliasOf.l2 k3 x4_2 x5_2 x8_2 x9_3 x4_2 (x4_2.length : Int) (wrap64 (x43_3 + 1)) t162))) = some r := by rw [← hbq26] at H; exact H
         have Nbq26 := Aside0.mk hbq26
         clear hbq26
         by_cases c27 : bq26 = true
         ·subst c27
          replace H := ift H
          have H' := Aside0.mk H
          clear H
          have p180 : 0 ≤ (x43_3 : Int) := TD
          have q180 : x43_3 < (x4_2.length : Int) := TD
          obtain ⟨ad180, e180, hx180_0⟩ := Kd.at_int (Kd.R_reads' HO_41.out).2.2 x43_3 p180 q180
          cases e180
          replace p180 := eq_true p180
          replace q180 := eq_true q180
          obtain ⟨Ao28, co28, eo28⟩ := Kd.R_slice HO_8.out
          subst eo28
          have p181 : 0 ≤ (x43_3 : Int) := TD
          have q181 : x43_3 < (x8_2.length : Int) := TD
          obtain ⟨ad181, e181, hx181_0⟩ := Kd.at_bool (Kd.R_reads' HO_8.out).2.2 x43_3 p181 q181
          (try rw [← Nbq26.out] at hx181_0)
          cases e181
          replace p181 := eq_true p181
          replace q181 := eq_true q181
          go_wp2
          go_roundg k3
          case measure => have := HK1.out; have := HK2.out; have := HK3.out; omega
          case rel => exact ⟨(x9_3), (wrap64 (x43_3 + 1)), TF, TF, H', ⟨by have := HK1.out; have := HK2.out; have := HK3.out; omega⟩, RW HO_4, RW HO_5, RW HO_8, RW HO_41, KW BK163, ⟨TB⟩⟩
         ·replace c27 := Bool.eq_false_iff.mpr c27
          subst c27
          replace H := iff' H
          by_cases c29 : (rd x4_2 x43_3) < t162
          ·rw [if_pos c29] at H
           have c29b0 : decide ((rd x4_2 x43_3) < t162) = true := decide_eq_true c29
           clear c29
           by_cases c30 : x43_3 < 0
           ·rw [if_pos c30] at H
            have c30b0 : decide (x43_3 < 0) = true := decide_eq_true c30
            clear c30
            obtain rfl := Option.some.inj H
            have p180 : 0 ≤ (x43_3 : Int) := TD
            have q180 : x43_3 < (x4_2.length : Int) := TD
            obtain ⟨ad180, e180, hx180_0⟩ := Kd.at_int (Kd.R_reads' HO_41.out).2.2 x43_3 p180 q180
            cases e180
            replace p180 := eq_true p180
            replace q180 := eq_true q180
            obtain ⟨Ao31, co31, eo31⟩ := Kd.R_slice HO_8.out
            subst eo31
            have p181 : 0 ≤ (x43_3 : Int) := TD
            have q181 : x43_3 < (x8_2.length : Int) := TD
            obtain ⟨ad181, e181, hx181_0⟩ := Kd.at_bool (Kd.R_reads' HO_8.out).2.2 x43_3 p181 q181
            (try rw [← Nbq26.out] at hx181_0)
            cases e181
            replace p181 := eq_true p181
            replace q181 := eq_true q181
            have hcz32 := cz1 BK163
            go_wp2
            go_ret
            exact ⟨_, TE, (RW HO_5).out, TB⟩
           ·rw [if_neg c30] at H
            have c30b0 : decide (x43_3 < 0) = false := decide_eq_false c30
            clear c30
            obtain ⟨t182, A33, H⟩ := bnd H
            obtain ⟨c34, H⟩ := ifn H
            have c34b0 : decide (x43_3 < (x4_2.length : Int)) = true := decide_eq_true c34
            clear c34
            obtain ⟨c35, H⟩ := ifn H
            have c35b0 : decide (x43_3 < (x5_2.length : Int)) = true := decide_eq_true c35
            clear c35
            obtain ⟨y184, hy184⟩ : ∃ y_ : List (S_Column), y_ = (x5_2.set (x43_3 : Int).toNat (⟨rd x4_2 x43_3, t182⟩ : S_Column)) := ⟨_, rfl⟩
            replace H : (if 0 ≤ t182 then (if t182 < (x4_2.length : Int) then (impl_aliasOf.l1 k3 (x4_2.set (t182 : Int).toNat (wrap64 ((rd x4_2 t182) - (wrap64 (t162 - (rd x4_2 x43_3)))))) y184 (x8_2.set (x43_3 : Int).toNat true) t162) else (none)) else (none)) = some r := by first | (rw [hy184]; with_reducible exact H) | (have H2_ := (Option.bind_some _ _).symm.trans H; rw [hy184]; with_reducible exact H2_) | (have H2_ := (Option.bind_some _ _).symm.trans H; with_reducible exact H2_) | with_reducible exact H | (rw [hy184]; exact H) | exact H
            have Ny184 := Aside0.mk hy184
            clear hy184
            obtain ⟨c37, H⟩ := ifn H
            have c37b0 : decide (0 ≤ t182) = true := decide_eq_true c37
            clear c37
            obtain ⟨c38, H⟩ := ifn H
            have c38b0 : decide (t182 < (x4_2.length : Int)) = true := decide_eq_true c38
            clear c38
            obtain ⟨y187, hy187⟩ : ∃ y_ : List Int, y_ = (x4_2.set (t182 : Int).toNat (wrap64 ((rd x4_2 t182) - (wrap64 (t162 - (rd x4_2 x43_3)))))) := ⟨_, rfl⟩
            replace H : (impl_aliasOf.l1 k3 y187 y184 (x8_2.set (x43_3 : Int).toNat true) t162) = some r := by first | (rw [hy187]; with_reducible exact H) | (have H2_ := (Option.bind_some _ _).symm.trans H; rw [hy187]; with_reducible exact H2_) | (have H2_ := (Option.bind_some _ _).symm.trans H; with_reducible exact H2_) | with_reducible exact H | (rw [hy187]; exact H) | exact H
            have Ny187 := Aside0.mk hy187
            clear hy187
            obtain ⟨y188, hy188⟩ : ∃ y_ : List Bool, y_ = (x8_2.set (x43_3 : Int).toNat true) := ⟨_, rfl⟩
            replace H : (impl_aliasOf.l1 k3 y187 y184 y188 t162) = some r := by first | (rw [hy188]; with_reducible exact H) | (have H2_ := (Option.bind_some _ _).symm.trans H; rw [hy188]; with_reducible exact H2_) | (have H2_ := (Option.bind_some _ _).symm.trans H; with_reducible exact H2_) | with_reducible exact H | (rw [hy188]; exact H) | exact H
            have Ny188 := Aside0.mk hy188
            clear hy188
            have H' := Aside0.mk H
            clear H
            have p180 : 0 ≤ (x43_3 : Int) := TD
            have q180 : x43_3 < (x4_2.length : Int) := TD
            obtain ⟨ad180, e180, hx180_0⟩ := Kd.at_int (Kd.R_reads' HO_41.out).2.2 x43_3 p180 q180
            cases e180
            replace p180 := eq_true p180
            replace q180 := eq_true q180
            obtain ⟨Ao41, co41, eo41⟩ := Kd.R_slice HO_8.out
            subst eo41
            have p181 : 0 ≤ (x43_3 : Int) := TD
            have q181 : x43_3 < (x8_2.length : Int) := TD
            obtain ⟨ad181, e181, hx181_0⟩ := Kd.at_bool (Kd.R_reads' HO_8.out).2.2 x43_3 p181 q181
            (try rw [← Nbq26.out] at hx181_0)
            cases e181
            replace p181 := eq_true p181
            replace q181 := eq_true q181
            have hcz42 := cz1 BK163
            try go_wp2_with (first | ((with_reducible refine gate_callee (f := 85) rfl ?_); refine goesL_ (some 65) rfl rfl Try.func85 KR rfl #[.slice (some ad180) x4_2.length co21, .func (.func 88) #[] #[.pointer (some ⟨gb163, 0, none⟩)]] rfl TA ?_; (with_reducible refine (slices_IndexFunc_int_int_aliasOf_1.calls k3 _ _ x4_2 gb163 t162 t182 _ ?side1 ?side2 ?side3 A33.out).mono ?_); (case side1 => exact CW ((Kd.R_reads' HO_4.out).2.2)); (case side2 => exact RI HO_4); (case side3 => exact (KW BK163).out); rintro e w' ⟨rfl, ⟨nd, rfl⟩⟩; refine ⟨_, rfl, ?_⟩; (try (rw [drewN_self wr]; generalize hq_ : World.drewN wr _ = wr; have n0_ : Aside0 (Kd.R (Kd.int .i64) 3 wr w.heap.size (fun k_ => k_ ≠ gb163) (.slice (some ad180) x4_2.length co21) x4_2) := ⟨by rw [← hq_]; exact (RW HO_4).out⟩; have n1_ : Aside0 (Kd.R (Kd.int .i64) 3 wr w.heap.size (fun k_ => k_ ≠ gb163) (.slice (some ad180) x4_2.length co21) x4_2) := ⟨by rw [← hq_]; exact (RW HO_41).out⟩; have n2_ : Aside0 (Kd.R k_Column 65 wr w.heap.size (fun _ => True) u5 x5_2) := ⟨by rw [← hq_]; exact (RW HO_5).out⟩; have n3_ : Aside0 (Kd.R Kd.bool 4 wr w.heap.size (fun _ => True) (.slice (some ad181) x8_2.length co41) x8_2) := ⟨by rw [← hq_]; exact (RW HO_8).out⟩; have n4_ : Aside0 (wr.heap[gb163]? = some (.cells #[.int .i64 t162] 3 (0, 0))) := ⟨by rw [← hq_]; exact (KW BK163).out⟩; have n5_ : Aside0 (Below w.heap.size w wr) := ⟨by rw [← hq_]; exact TB⟩; clear HO_4 HO_41 HO_5 HO_8 BK163 HB hq_; have HO_4 := n0_; have HO_41 := n1_; have HO_5 := n2_; have HO_8 := n3_; have BK163 := n4_; have HB := n5_; clear n0_ n1_ n2_ n3_ n4_ n5_)); have p183 : 0 ≤ (x43_3 : Int) := TD; have q183 : x43_3 < (x4_2.length : Int) := TD; obtain ⟨ad183, e183, hx183_0⟩ := Kd.at_int (Kd.R_reads' HO_4.out).2.2 x43_3 p183 q183; obtain rfl : ad180 = ad183 := (by injection e183); replace p183 := eq_true p183; replace q183 := eq_true q183; have p36 : 0 ≤ (x43_3 : Int) := TD; have q36 : (x43_3 : Int) < ((x5_2.length : Int) : Int) := TD; obtain ⟨go36, co36, eo36, gb36, gl36, cl36, HG36⟩ := Kd.R_form HO_5.out (by omega); (first | cases eo36 | (injection eo36 with ea_ en_ ec_; (first | subst ea_ | (injection ea_ with ea_; subst ea_)); subst ec_; clear en_)); have GB36 := Aside0.mk gb36; have GG36 := Aside0.mk HG36; clear gb36 gl36 HG36; obtain ⟨ce36, hcl36, hM36, hcc36, hfr36⟩ := Kd.R_elem HO_5.out z_Column (x43_3 : Int) p36 q36; obtain rfl := k_Column_openM hM36; have hx36_0 : wr.cell? ⟨go36, (x43_3 : Int).toNat * 2, none⟩ = some (.int .i64 ((rd_TColumn x5_2 x43_3).f0)) := hcc36 0 _ rfl; have hx36_1 : wr.cell? ⟨go36, (x43_3 : Int).toNat * 2 + 1, none⟩ = some (.int .i64 ((rd_TColumn x5_2 x43_3).f1)) := hcc36 1 _ rfl; have hf36_0 : wr.frozen? ⟨go36, (x43_3 : Int).toNat * 2, none⟩ = false := hfr36 0; have hf36_1 : wr.frozen? ⟨go36, (x43_3 : Int).toNat * 2 + 1, none⟩ = false := hfr36 1; clear hcl36 hcc36 hfr36 hM36; replace p36 := eq_true p36; replace q36 := eq_true q36; have HX43 := Aside0.mk (show Kd.R k_Column 65 wr w.heap.size (fun _ => True) (.slice (some ⟨go36, 0, none⟩) x5_2.length co36) x5_2 from (RW HO_5).out); obtain ⟨ce43, hcl43, hM43, hcc43, hfr43⟩ := Kd.R_elem HX43.out z_Column (x43_3 : Int) TD (by have h_ : (x43_3 : Int) < ((x5_2.length : Int) : Int) := TD; first | exact h_ | (have e_ := (Kd.R_reads' HO_5.out).1; omega) | simpa using h_); obtain rfl := k_Column_openM hM43; have HP43 := Kd.R_seg HX43.out (x43_3 : Int) TD (by have h_ : (x43_3 : Int) < ((x5_2.length : Int) : Int) := TD; first | exact h_ | (have e_ := (Kd.R_reads' HO_5.out).1; omega) | simpa using h_) (seg := [.int .i64 (rd x4_2 x43_3), .int .i64 t182]) (j := 0) hcl43 hcc43 (show 2 ≤ 2 from by decide) (x' := (⟨rd x4_2 x43_3, t182⟩ : S_Column)) (k_Column_mkM _ _ _ (⟨rd x4_2 x43_3, t182⟩ : S_Column) ) (fun _ hk => hk); have hx43_0 := hcc43 0 _ rfl; (try simp only [show (k_Column).sz = 2 from rfl, Nat.mul_one, Nat.add_zero] at hx43_0); have hf43_0 := hfr43 0; (try simp only [show (k_Column).sz = 2 from rfl, Nat.mul_one, Nat.add_zero] at hf43_0); have hx43_1 := hcc43 1 _ rfl; (try simp only [show (k_Column).sz = 2 from rfl, Nat.mul_one, Nat.add_zero] at hx43_1); have hf43_1 := hfr43 1; (try simp only [show (k_Column).sz = 2 from rfl, Nat.mul_one, Nat.add_zero] at hf43_1); clear hcl43 hcc43 hfr43 hM43) | ((with_reducible refine gate_store (t := 65) (p := 74) rfl ?_); refine store_event (t := 65) (p := 74) (v := ?vo_w44) (w1 := ((wr.setCell ⟨go36, (x43_3 : Int).toNat * 2, none⟩ (.int .i64 (rd x4_2 x43_3))).setCell ⟨go36, (x43_3 : Int).toNat * 2 + 1, none⟩ (.int .i64 t182))) ?hg ?ho ?hn ?hr ?_; (case ho => rfl); (case hg => rfl); (case hn => rfl); (case hr => first | (go_simp; done) | (go_simp; rfl)); intro w44 hw; have hg : wr.grownBy w44 (some go36) := (by rw [hw]; exact HP43.2); have hp_ : Kd.R k_Column 65 w44 w.heap.size (fun _ => True) (.slice (some ⟨go36, 0, none⟩) x5_2.length co36) y184 := (by rw [hw, Ny184.out]; exact HP43.1); clear HP43; replace HO_4 := Aside0.mk (Kd.R_over' (v := (.slice (some ⟨go36, 0, none⟩) x5_2.length co36)) (RW HO_4).out (Kd.R_typed HO_5.out) (by decide) hg); replace HO_8 := Aside0.mk (Kd.R_over' (v := (.slice (some ⟨go36, 0, none⟩) x5_2.length co36)) (RW HO_8).out (Kd.R_typed HO_5.out) (by decide) hg); replace HO_41 := Aside0.mk (Kd.R_over' (v := (.slice (some ⟨go36, 0, none⟩) x5_2.length co36)) (RW HO_41).out (Kd.R_typed HO_5.out) (by decide) hg); replace BK163 := Aside0.mk (blk_grown (g := gb163) (o := .cells #[.int .i64 t162] 3 (0, 0)) (KW BK163).out hg (Kd.R_ne HO_5.out BK163.out (by decide))); replace HO_5 := Aside0.mk (hp_); replace HB := Aside0.mk ((by rw [hw]; exact below_set (below_set (HB.out) GB36.out) GB36.out : Below w.heap.size w w44)); clear hg hw hp_))
            replace HO_4 := Aside0.mk (Kd.R_drew HO_4.out)
            replace HO_5 := Aside0.mk (Kd.R_drew HO_5.out)
            replace HO_8 := Aside0.mk (Kd.R_drew HO_8.out)
            replace HO_41 := Aside0.mk (Kd.R_drew HO_41.out)
            replace BK163 := Aside0.mk (blk_drew BK163.out)
            replace HB := Aside0.mk (below_drew1 HB.out)
            have p185 : 0 ≤ (t182 : Int) := TD
            have q185 : t182 < (x4_2.length : Int) := TD
            obtain ⟨ad185, e185, hx185_0⟩ := Kd.at_int (Kd.R_reads' HO_4.out).2.2 t182 p185 q185
            obtain rfl : ad180 = ad185 := (by injection e185)
            replace p185 := eq_true p185
            replace q185 := eq_true q185
            have p186 : 0 ≤ (x43_3 : Int) := TD
            have q186 : x43_3 < (x4_2.length : Int) := TD
            obtain ⟨ad186, e186, hx186_0⟩ := Kd.at_int (Kd.R_reads' HO_4.out).2.2 x43_3 p186 q186
            obtain rfl : ad180 = ad186 := (by injection e186)
            replace p186 := eq_true p186
            replace q186 := eq_true q186
            have p39 : 0 ≤ (t182 : Int) := TD
            have q39 : (t182 : Int) < ((x4_2.length : Int) : Int) := TD
            obtain ⟨go39, co39, eo39, gb39, gl39, cl39, HG39⟩ := Kd.R_form HO_4.out (by omega)
            (first | cases eo39 | (injection eo39 with ea_ en_ ec_; (first | subst ea_ | (injection ea_ with ea_; subst ea_)); subst ec_; clear en_))
            have GB39 := Aside0.mk gb39
            have GG39 := Aside0.mk HG39
            clear gb39 gl39 HG39
            (first | simp only [add_plain] at hx180_0 | skip)
            (first | simp only [add_plain] at hx183_0 | skip)
            (first | simp only [add_plain] at hx185_0 | skip)
            (first | simp only [add_plain] at hx186_0 | skip)
            obtain ⟨hx39_0, hf39_0⟩ := Kd.R_celln 0 HO_4.out (t182 : Int) p39 q39
            replace p39 := eq_true p39
            replace q39 := eq_true q39
            have HP46 := Kd.R_putn HO_4.out (t182 : Int) (wrap64 ((rd x4_2 t182) - (wrap64 (t162 - (rd x4_2 x43_3)))))
            rw [← Ny187.out] at HP46
            have HQ46 := Aside0.mk HP46
            clear HP46
            refine start_ (n := 13) (S := fun w' => w'.cell? ⟨gb163, 0, none⟩ = some (.int .i64 t162) ∧ w'.cell? ⟨go39, (t182).toNat, none⟩ = some (.int .i64 (rd x4_2 t182)) ∧ w'.cell? ⟨go39, (x43_3).toNat, none⟩ = some (.int .i64 (rd x4_2 x43_3))) (ds := [12]) #[false, false, false, false, false, false, false, false, false, false, false, false, false] KR rfl rfl ⟨bc 0 BK163, hx185_0, hx186_0⟩ (fun hHeld => ?_); refine with_tabW impl_aliasOf.tab22 impl_aliasOf.bits22 (fun HT_ HW_ => ?_)
            generalize w44.drew = w45 at HO_4 HO_5 HO_8 HO_41 BK163 HB GG39 HQ46 hf39_0 hx180_0 hx183_0 hx185_0 hx186_0 hx39_0 hHeld ⊢
            refine pA 0 75 (mL 13 1) HT_ rfl rfl ?_
            refine pA 1 76 (mL 13 3) HT_ rfl rfl ?_
            refine pA 2 77 (mL 13 7) HT_ rfl rfl ?_
            refine pA 5 80 (mL 13 39) HT_ rfl rfl ?_
            refine pA 6 81 (mL 13 103) HT_ rfl rfl ?_
            refine pA 7 82 (mL 13 231) HT_ rfl rfl ?_
            refine tA 3 78 (mL 13 239) HT_ HW_ hHeld rfl rfl (by rintro w' ⟨s0, s1, s2⟩; go_simp; with_reducible rfl) ?_
            refine tA 4 79 (mL 13 255) HT_ HW_ hHeld rfl rfl (by rintro w' ⟨s0, s1, s2⟩; go_simp; with_reducible rfl) ?_
            refine tA 8 83 (mL 13 511) HT_ HW_ hHeld rfl rfl (by rintro w' ⟨s0, s1, s2⟩; go_simp; with_reducible rfl) ?_
            refine pA 9 84 (mL 13 1023) HT_ rfl rfl ?_
            refine pA 10 85 (mL 13 2047) HT_ rfl rfl ?_
            refine pA 11 86 (mL 13 4095) HT_ rfl rfl ?_
            refine last_ (i := 12) (N := none) (mL 13 8191) rfl rfl (one_of HT_.out KR) (by decide) (fun K hK => ?_)
            refine skip_ (w1 := ?_) (by rfl) rfl ?_ ?_
            rotate_left
            ·go_simp
             rfl
            refine hK.out _ _ ?_
            clear hK K
            refine done_ (done_of HT_.out KR) ?_
            have n0_ : Aside0 (Kd.R (Kd.int .i64) 3 (w45.setCell ⟨go39, (t182 : Int).toNat, none⟩ (.int .i64 (wrap64 ((rd x4_2 t182) - (wrap64 (t162 - (rd x4_2 x43_3))))))) w.heap.size (fun k_ => k_ ≠ gb163) (.slice (some ⟨go39, 0, none⟩) x4_2.length co21) y187) := RW HQ46
            have n1_ : Aside0 (Kd.R k_Column 65 (w45.setCell ⟨go39, (t182 : Int).toNat, none⟩ (.int .i64 (wrap64 ((rd x4_2 t182) - (wrap64 (t162 - (rd x4_2 x43_3))))))) w.heap.size (fun _ => True) (.slice (some ⟨go36, 0, none⟩) x5_2.length co36) y184) := ⟨by (with_reducible repeat (first | apply Kd.R_alloc | apply Kd.R_drewN | apply Kd.R_drew)); exact Kd.R_mono (Kd.R_far (p := ⟨go39, (t182 : Int).toNat, none⟩) (Kd.R_types HO_5.out GG39.out (by decide)) (fun _ hk => hk.2) (.int .i64 (wrap64 ((rd x4_2 t182) - (wrap64 (t162 - (rd x4_2 x43_3))))))) (fun _ hk => trivial)⟩
            have n2_ : Aside0 (Kd.R Kd.bool 4 (w45.setCell ⟨go39, (t182 : Int).toNat, none⟩ (.int .i64 (wrap64 ((rd x4_2 t182) - (wrap64 (t162 - (rd x4_2 x43_3))))))) w.heap.size (fun _ => True) (.slice (some ad181) x8_2.length co41) x8_2) := ⟨by (with_reducible repeat (first | apply Kd.R_alloc | apply Kd.R_drewN | apply Kd.R_drew)); exact Kd.R_mono (Kd.R_far (p := ⟨go39, (t182 : Int).toNat, none⟩) (Kd.R_types HO_8.out GG39.out (by decide)) (fun _ hk => hk.2) (.int .i64 (wrap64 ((rd x4_2 t182) - (wrap64 (t162 - (rd x4_2 x43_3))))))) (fun _ hk => trivial)⟩
            have n3_ : Aside0 ((w45.setCell ⟨go39, (t182 : Int).toNat, none⟩ (.int .i64 (wrap64 ((rd x4_2 t182) - (wrap64 (t162 - (rd x4_2 x43_3))))))).heap[gb163]? = some (.cells #[.int .i64 t162] 3 (0, 0))) := ⟨by (with_reducible repeat (first | refine blk_drewN ?_ _ | refine blk_drew ?_ | refine blk_alloc ?_ _)); refine blk_far ?_ (by have h_ := Kd.R_away HO_4.out (fun _ hk => hk); intro e_; exact h_ (by rw [e_]; rfl)) _; (with_reducible repeat (first | refine blk_drewN ?_ _ | refine blk_drew ?_ | refine blk_alloc ?_ _)); exact BK163.out⟩
            have n4_ : Aside0 (Below w.heap.size w (w45.setCell ⟨go39, (t182 : Int).toNat, none⟩ (.int .i64 (wrap64 ((rd x4_2 t182) - (wrap64 (t162 - (rd x4_2 x43_3)))))))) := ⟨TB⟩
            (try clear HO_4)
            (try clear HO_5)
            (try clear HO_8)
            (try clear BK163)
            (try clear HB)
            generalize (w45.setCell ⟨go39, (t182 : Int).toNat, none⟩ (.int .i64 (wrap64 ((rd x4_2 t182) - (wrap64 (t162 - (rd x4_2 x43_3))))))) = w47 at n0_ n1_ n2_ n3_ n4_ ⊢
            have HO_4 := n0_
            have HO_5 := n1_
            have HO_8 := n2_
            have BK163 := n3_
            have HB := n4_
            clear n0_ n1_ n2_ n3_ n4_
            have p40 : 0 ≤ (x43_3 : Int) := TD
            have q40 : (x43_3 : Int) < ((x8_2.length : Int) : Int) := TD
            obtain ⟨go40, co40, eo40, gb40, gl40, cl40, HG40⟩ := Kd.R_form HO_8.out (by omega)
            (first | cases eo40 | (injection eo40 with ea_ en_ ec_; (first | subst ea_ | (injection ea_ with ea_; subst ea_)); subst ec_; clear en_))
            have GB40 := Aside0.mk gb40
            have GG40 := Aside0.mk HG40
            clear gb40 gl40 HG40
            (first | simp only [add_plain] at hx181_0 | skip)
            obtain ⟨hx40_0, hf40_0⟩ := Kd.R_celln false HO_8.out (x43_3 : Int) p40 q40
            replace p40 := eq_true p40
            replace q40 := eq_true q40
            obtain ⟨hy48_, hz48_⟩ := Kd.R_celln false HO_8.out (x43_3 : Int) TD TD
            have HP48 := Kd.R_putg HO_8.out (x43_3 : Int) true
            try go_wp2_with (first | ((with_reducible refine gate_store (t := 4) (p := 89) rfl ?_); refine store_event (t := 4) (p := 89) (v := ?vo_w49) (w1 := (w47.setCell ⟨go40, (x43_3 : Int).toNat, none⟩ (.bool true))) ?hg ?ho ?hn ?hr ?_; (case ho => rfl); (case hg => rfl); (case hn => rfl); (case hr => first | (go_simp; done) | (go_simp; rfl)); intro w49 hw; have hg : w47.grownBy w49 (some go40) := (by rw [hw]; exact HP48.2); have hp_ : Kd.R Kd.bool 4 w49 w.heap.size (fun _ => True) (.slice (some ⟨go40, 0, none⟩) x8_2.length co41) y188 := (by rw [hw, Ny188.out]; exact HP48.1); clear HP48; replace HO_4 := Aside0.mk (Kd.R_over' (v := (.slice (some ⟨go40, 0, none⟩) x8_2.length co41)) (RW HO_4).out (Kd.R_typed HO_8.out) (by decide) hg); replace HO_5 := Aside0.mk (Kd.R_over' (v := (.slice (some ⟨go40, 0, none⟩) x8_2.length co41)) (RW HO_5).out (Kd.R_typed HO_8.out) (by decide) hg); replace BK163 := Aside0.mk (blk_grown (g := gb163) (o := .cells #[.int .i64 t162] 3 (0, 0)) (KW BK163).out hg (Kd.R_ne HO_8.out BK163.out (by decide))); replace HO_8 := Aside0.mk (hp_); replace HB := Aside0.mk ((by rw [hw]; exact below_set (HB.out) GB40.out : Below w.heap.size w w49)); clear hg hw hp_))
            go_roundg k3
            case measure => have := HK1.out; have := HK2.out; have := HK3.out; omega
            case rel => exact ⟨(y187), (y184), (y188), H', ⟨by have := HK1.out; have := HK2.out; have := HK3.out; omega⟩, RW HO_4, RW HO_5, RW HO_8, KW BK163, ⟨TB⟩⟩
          ·rw [if_neg c29] at H
           have c29b0 : decide ((rd x4_2 x43_3) < t162) = false := decide_eq_false c29
           clear c29
           have H' := Aside0.mk H
           clear H
           have p180 : 0 ≤ (x43_3 : Int) := TD
           have q180 : x43_3 < (x4_2.length : Int) := TD
           obtain ⟨ad180, e180, hx180_0⟩ := Kd.at_int (Kd.R_reads' HO_41.out).2.2 x43_3 p180 q180
           cases e180
           replace p180 := eq_true p180
           replace q180 := eq_true q180
           obtain ⟨Ao50, co50, eo50⟩ := Kd.R_slice HO_8.out
           subst eo50
           have p181 : 0 ≤ (x43_3 : Int) := TD
           have q181 : x43_3 < (x8_2.length : Int) := TD
           obtain ⟨ad181, e181, hx181_0⟩ := Kd.at_bool (Kd.R_reads' HO_8.out).2.2 x43_3 p181 q181
           (try rw [← Nbq26.out] at hx181_0)
           cases e181
           replace p181 := eq_true p181
           replace q181 := eq_true q181
           have hcz51 := cz1 BK163
           go_wp2
           go_roundg k3
           case measure => have := HK1.out; have := HK2.out; have := HK3.out; omega
           case rel => exact ⟨(x9_3), (wrap64 (x43_3 + 1)), TF, TF, H', ⟨by have := HK1.out; have := HK2.out; have := HK3.out; omega⟩, RW HO_4, RW HO_5, RW HO_8, RW HO_41, KW BK163, ⟨TB⟩⟩
        ·rw [if_neg c22] at H
         have c22b0 : decide (x43_3 < (x4_2.length : Int)) = false := decide_eq_false c22
         clear c22
         by_cases c52 : x9_3 < 0
         ·rw [if_pos c52] at H
          have c52b0 : decide (x9_3 < 0) = true := decide_eq_true c52
          clear c52
          obtain rfl := Option.some.inj H
          go_wp2
          go_ret
          exact ⟨_, TE, (RW HO_5).out, TB⟩
         ·rw [if_neg c52] at H
          have c52b0 : decide (x9_3 < 0) = false := decide_eq_false c52
          clear c52
          obtain ⟨t189, A53, H⟩ := bnd H
          obtain ⟨c54, H⟩ := ifn H
          have c54b0 : decide (0 ≤ x9_3) = true := decide_eq_true c54
          clear c54
          obtain ⟨c55, H⟩ := ifn H
          have c55b0 : decide (x9_3 < (x4_2.length : Int)) = true := decide_eq_true c55
          clear c55
          obtain ⟨c56, H⟩ := ifn H
          have c56b0 : decide (x9_3 < (x5_2.length : Int)) = true := decide_eq_true c56
          clear c56
          obtain ⟨y191, hy191⟩ : ∃ y_ : List (S_Column), y_ = (x5_2.set (x9_3 : Int).toNat (⟨rd x4_2 x9_3, t189⟩ : S_Column)) := ⟨_, rfl⟩
          replace H : (if 0 ≤ t189 then (if t189 < (x4_2.length : Int) then (if x9_3 < (x8_2.length : Int) then (impl_aliasOf.l1 k3 (x4_2.set (t189 : Int).toNat (wrap64 ((rd x4_2 t189) - (wrap64 (t162 - (rd x4_2 x9_3)))))) y191 (x8_2.set (x9_3 : Int).toNat true) t162) else (none)) else (none)) else (none)) = some r := by first | (rw [hy191]; with_reducible exact H) | (have H2_ := (Option.bind_some _ _).symm.trans H; rw [hy191]; with_reducible exact H2_) | (have H2_ := (Option.bind_some _ _).symm.trans H; with_reducible exact H2_) | with_reducible exact H | (rw [hy191]; exact H) | exact H
          have Ny191 := Aside0.mk hy191
          clear hy191
          obtain ⟨c58, H⟩ := ifn H
          have c58b0 : decide (0 ≤ t189) = true := decide_eq_true c58
          clear c58
          obtain ⟨c59, H⟩ := ifn H
          have c59b0 : decide (t189 < (x4_2.length : Int)) = true := decide_eq_true c59
          clear c59
          obtain ⟨y194, hy194⟩ : ∃ y_ : List Int, y_ = (x4_2.set (t189 : Int).toNat (wrap64 ((rd x4_2 t189) - (wrap64 (t162 - (rd x4_2 x9_3)))))) := ⟨_, rfl⟩
          replace H : (if x9_3 < (x8_2.length : Int) then (impl_aliasOf.l1 k3 y194 y191 (x8_2.set (x9_3 : Int).toNat true) t162) else (none)) = some r := by first | (rw [hy194]; with_reducible exact H) | (have H2_ := (Option.bind_some _ _).symm.trans H; rw [hy194]; with_reducible exact H2_) | (have H2_ := (Option.bind_some _ _).symm.trans H; with_reducible exact H2_) | with_reducible exact H | (rw [hy194]; exact H) | exact H
          have Ny194 := Aside0.mk hy194
          clear hy194
          obtain ⟨c61, H⟩ := ifn H
          have c61b0 : decide (x9_3 < (x8_2.length : Int)) = true := decide_eq_true c61
          clear c61
          obtain ⟨y195, hy195⟩ : ∃ y_ : List Bool, y_ = (x8_2.set (x9_3 : Int).toNat true) := ⟨_, rfl⟩
          replace H : (impl_aliasOf.l1 k3 y194 y191 y195 t162) = some r := by first | (rw [hy195]; with_reducible exact H) | (have H2_ := (Option.bind_some _ _).symm.trans H; rw [hy195]; with_reducible exact H2_) | (have H2_ := (Option.bind_some _ _).symm.trans H; with_reducible exact H2_) | with_reducible exact H | (rw [hy195]; exact H) | exact H
          have Ny195 := Aside0.mk hy195
          clear hy195
          have H' := Aside0.mk H
          clear H
          try go_wp2_with (first | ((with_reducible refine gate_callee (f := 85) rfl ?_); refine goesL_ (some 65) rfl rfl Try.func85 KR rfl #[.slice Ao21 x4_2.length co21, .func (.func 88) #[] #[.pointer (some ⟨gb163, 0, none⟩)]] rfl TA ?_; (with_reducible refine (slices_IndexFunc_int_int_aliasOf_1.calls k3 _ _ x4_2 gb163 t162 t189 _ ?side1 ?side2 ?side3 A53.out).mono ?_); (case side1 => exact CW ((Kd.R_reads' HO_4.out).2.2)); (case side2 => exact RI HO_4); (case side3 => exact (KW BK163).out); rintro e w' ⟨rfl, ⟨nd, rfl⟩⟩; refine ⟨_, rfl, ?_⟩; (try (rw [drewN_self wr]; generalize hq_ : World.drewN wr _ = wr; have n0_ : Aside0 (Kd.R (Kd.int .i64) 3 wr w.heap.size (fun k_ => k_ ≠ gb163) (.slice Ao21 x4_2.length co21) x4_2) := ⟨by rw [← hq_]; exact (RW HO_4).out⟩; have n1_ : Aside0 (Kd.R (Kd.int .i64) 3 wr w.heap.size (fun k_ => k_ ≠ gb163) (.slice Ao21 x4_2.length co21) x4_2) := ⟨by rw [← hq_]; exact (RW HO_41).out⟩; have n2_ : Aside0 (Kd.R k_Column 65 wr w.heap.size (fun _ => True) u5 x5_2) := ⟨by rw [← hq_]; exact (RW HO_5).out⟩; have n3_ : Aside0 (Kd.R Kd.bool 4 wr w.heap.size (fun _ => True) v178 x8_2) := ⟨by rw [← hq_]; exact (RW HO_8).out⟩; have n4_ : Aside0 (wr.heap[gb163]? = some (.cells #[.int .i64 t162] 3 (0, 0))) := ⟨by rw [← hq_]; exact (KW BK163).out⟩; have n5_ : Aside0 (Below w.heap.size w wr) := ⟨by rw [← hq_]; exact TB⟩; clear HO_4 HO_41 HO_5 HO_8 BK163 HB hq_; have HO_4 := n0_; have HO_41 := n1_; have HO_5 := n2_; have HO_8 := n3_; have BK163 := n4_; have HB := n5_; clear n0_ n1_ n2_ n3_ n4_ n5_)); have p190 : 0 ≤ (x9_3 : Int) := TD; have q190 : x9_3 < (x4_2.length : Int) := TD; obtain ⟨ad190, e190, hx190_0⟩ := Kd.at_int (Kd.R_reads' HO_4.out).2.2 x9_3 p190 q190; cases e190; replace p190 := eq_true p190; replace q190 := eq_true q190; have p57 : 0 ≤ (x9_3 : Int) := TD; have q57 : (x9_3 : Int) < ((x5_2.length : Int) : Int) := TD; obtain ⟨go57, co57, eo57, gb57, gl57, cl57, HG57⟩ := Kd.R_form HO_5.out (by omega); (first | cases eo57 | (injection eo57 with ea_ en_ ec_; (first | subst ea_ | (injection ea_ with ea_; subst ea_)); subst ec_; clear en_)); have GB57 := Aside0.mk gb57; have GG57 := Aside0.mk HG57; clear gb57 gl57 HG57; obtain ⟨ce57, hcl57, hM57, hcc57, hfr57⟩ := Kd.R_elem HO_5.out z_Column (x9_3 : Int) p57 q57; obtain rfl := k_Column_openM hM57; have hx57_0 : wr.cell? ⟨go57, (x9_3 : Int).toNat * 2, none⟩ = some (.int .i64 ((rd_TColumn x5_2 x9_3).f0)) := hcc57 0 _ rfl; have hx57_1 : wr.cell? ⟨go57, (x9_3 : Int).toNat * 2 + 1, none⟩ = some (.int .i64 ((rd_TColumn x5_2 x9_3).f1)) := hcc57 1 _ rfl; have hf57_0 : wr.frozen? ⟨go57, (x9_3 : Int).toNat * 2, none⟩ = false := hfr57 0; have hf57_1 : wr.frozen? ⟨go57, (x9_3 : Int).toNat * 2 + 1, none⟩ = false := hfr57 1; clear hcl57 hcc57 hfr57 hM57; replace p57 := eq_true p57; replace q57 := eq_true q57; have HX63 := Aside0.mk (show Kd.R k_Column 65 wr w.heap.size (fun _ => True) (.slice (some ⟨go57, 0, none⟩) x5_2.length co57) x5_2 from (RW HO_5).out); obtain ⟨ce63, hcl63, hM63, hcc63, hfr63⟩ := Kd.R_elem HX63.out z_Column (x9_3 : Int) TD (by have h_ : (x9_3 : Int) < ((x5_2.length : Int) : Int) := TD; first | exact h_ | (have e_ := (Kd.R_reads' HO_5.out).1; omega) | simpa using h_); obtain rfl := k_Column_openM hM63; have HP63 := Kd.R_seg HX63.out (x9_3 : Int) TD (by have h_ : (x9_3 : Int) < ((x5_2.length : Int) : Int) := TD; first | exact h_ | (have e_ := (Kd.R_reads' HO_5.out).1; omega) | simpa using h_) (seg := [.int .i64 (rd x4_2 x9_3), .int .i64 t189]) (j := 0) hcl63 hcc63 (show 2 ≤ 2 from by decide) (x' := (⟨rd x4_2 x9_3, t189⟩ : S_Column)) (k_Column_mkM _ _ _ (⟨rd x4_2 x9_3, t189⟩ : S_Column) ) (fun _ hk => hk); have hx63_0 := hcc63 0 _ rfl; (try simp only [show (k_Column).sz = 2 from rfl, Nat.mul_one, Nat.add_zero] at hx63_0); have hf63_0 := hfr63 0; (try simp only [show (k_Column).sz = 2 from rfl, Nat.mul_one, Nat.add_zero] at hf63_0); have hx63_1 := hcc63 1 _ rfl; (try simp only [show (k_Column).sz = 2 from rfl, Nat.mul_one, Nat.add_zero] at hx63_1); have hf63_1 := hfr63 1; (try simp only [show (k_Column).sz = 2 from rfl, Nat.mul_one, Nat.add_zero] at hf63_1); clear hcl63 hcc63 hfr63 hM63) | ((with_reducible refine gate_store (t := 65) (p := 74) rfl ?_); refine store_event (t := 65) (p := 74) (v := ?vo_w64) (w1 := ((wr.setCell ⟨go57, (x9_3 : Int).toNat * 2, none⟩ (.int .i64 (rd x4_2 x9_3))).setCell ⟨go57, (x9_3 : Int).toNat * 2 + 1, none⟩ (.int .i64 t189))) ?hg ?ho ?hn ?hr ?_; (case ho => rfl); (case hg => rfl); (case hn => rfl); (case hr => first | (go_simp; done) | (go_simp; rfl)); intro w64 hw; have hg : wr.grownBy w64 (some go57) := (by rw [hw]; exact HP63.2); have hp_ : Kd.R k_Column 65 w64 w.heap.size (fun _ => True) (.slice (some ⟨go57, 0, none⟩) x5_2.length co57) y191 := (by rw [hw, Ny191.out]; exact HP63.1); clear HP63; replace HO_4 := Aside0.mk (Kd.R_over' (v := (.slice (some ⟨go57, 0, none⟩) x5_2.length co57)) (RW HO_4).out (Kd.R_typed HO_5.out) (by decide) hg); replace HO_8 := Aside0.mk (Kd.R_over' (v := (.slice (some ⟨go57, 0, none⟩) x5_2.length co57)) (RW HO_8).out (Kd.R_typed HO_5.out) (by decide) hg); replace HO_41 := Aside0.mk (Kd.R_over' (v := (.slice (some ⟨go57, 0, none⟩) x5_2.length co57)) (RW HO_41).out (Kd.R_typed HO_5.out) (by decide) hg); replace BK163 := Aside0.mk (blk_grown (g := gb163) (o := .cells #[.int .i64 t162] 3 (0, 0)) (KW BK163).out hg (Kd.R_ne HO_5.out BK163.out (by decide))); replace HO_5 := Aside0.mk (hp_); replace HB := Aside0.mk ((by rw [hw]; exact below_set (below_set (HB.out) GB57.out) GB57.out : Below w.heap.size w w64)); clear hg hw hp_))
          replace HO_4 := Aside0.mk (Kd.R_drew HO_4.out)
          replace HO_5 := Aside0.mk (Kd.R_drew HO_5.out)
          replace HO_8 := Aside0.mk (Kd.R_drew HO_8.out)
          replace HO_41 := Aside0.mk (Kd.R_drew HO_41.out)
          replace BK163 := Aside0.mk (blk_drew BK163.out)
          replace HB := Aside0.mk (below_drew1 HB.out)
          have p192 : 0 ≤ (t189 : Int) := TD
          have q192 : t189 < (x4_2.length : Int) := TD
          obtain ⟨ad192, e192, hx192_0⟩ := Kd.at_int (Kd.R_reads' HO_4.out).2.2 t189 p192 q192
          obtain rfl : ad190 = ad192 := (by injection e192)
          replace p192 := eq_true p192
          replace q192 := eq_true q192
          have p193 : 0 ≤ (x9_3 : Int) := TD
          have q193 : x9_3 < (x4_2.length : Int) := TD
          obtain ⟨ad193, e193, hx193_0⟩ := Kd.at_int (Kd.R_reads' HO_4.out).2.2 x9_3 p193 q193
          obtain rfl : ad190 = ad193 := (by injection e193)
          replace p193 := eq_true p193
          replace q193 := eq_true q193
          have p60 : 0 ≤ (t189 : Int) := TD
          have q60 : (t189 : Int) < ((x4_2.length : Int) : Int) := TD
          obtain ⟨go60, co60, eo60, gb60, gl60, cl60, HG60⟩ := Kd.R_form HO_4.out (by omega)
          (first | cases eo60 | (injection eo60 with ea_ en_ ec_; (first | subst ea_ | (injection ea_ with ea_; subst ea_)); subst ec_; clear en_))
          have GB60 := Aside0.mk gb60
          have GG60 := Aside0.mk HG60
          clear gb60 gl60 HG60
          (first | simp only [add_plain] at hx190_0 | skip)
          (first | simp only [add_plain] at hx192_0 | skip)
          (first | simp only [add_plain] at hx193_0 | skip)
          obtain ⟨hx60_0, hf60_0⟩ := Kd.R_celln 0 HO_4.out (t189 : Int) p60 q60
          replace p60 := eq_true p60
          replace q60 := eq_true q60
          have HP66 := Kd.R_putn HO_4.out (t189 : Int) (wrap64 ((rd x4_2 t189) - (wrap64 (t162 - (rd x4_2 x9_3)))))
          rw [← Ny194.out] at HP66
          have HQ66 := Aside0.mk HP66
          clear HP66
          refine start_ (n := 13) (S := fun w' => w'.cell? ⟨gb163, 0, none⟩ = some (.int .i64 t162) ∧ w'.cell? ⟨go60, (t189).toNat, none⟩ = some (.int .i64 (rd x4_2 t189)) ∧ w'.cell? ⟨go60, (x9_3).toNat, none⟩ = some (.int .i64 (rd x4_2 x9_3))) (ds := [12]) #[false, false, false, false, false, false, false, false, false, false, false, false, false] KR rfl rfl ⟨bc 0 BK163, hx192_0, hx193_0⟩ (fun hHeld => ?_); refine with_tabW impl_aliasOf.tab22 impl_aliasOf.bits22 (fun HT_ HW_ => ?_)
          generalize w64.drew = w65 at HO_4 HO_5 HO_8 HO_41 BK163 HB GG60 HQ66 hf60_0 hx190_0 hx192_0 hx193_0 hx60_0 hHeld ⊢
          refine pA 0 75 (mL 13 1) HT_ rfl rfl ?_
          refine pA 1 76 (mL 13 3) HT_ rfl rfl ?_
          refine pA 2 77 (mL 13 7) HT_ rfl rfl ?_
          refine pA 5 80 (mL 13 39) HT_ rfl rfl ?_
          refine pA 6 81 (mL 13 103) HT_ rfl rfl ?_
          refine pA 7 82 (mL 13 231) HT_ rfl rfl ?_
          refine tA 3 78 (mL 13 239) HT_ HW_ hHeld rfl rfl (by rintro w' ⟨s0, s1, s2⟩; go_simp; with_reducible rfl) ?_
          refine tA 4 79 (mL 13 255) HT_ HW_ hHeld rfl rfl (by rintro w' ⟨s0, s1, s2⟩; go_simp; with_reducible rfl) ?_
          refine tA 8 83 (mL 13 511) HT_ HW_ hHeld rfl rfl (by rintro w' ⟨s0, s1, s2⟩; go_simp; with_reducible rfl) ?_
          refine pA 9 84 (mL 13 1023) HT_ rfl rfl ?_
          refine pA 10 85 (mL 13 2047) HT_ rfl rfl ?_
          refine pA 11 86 (mL 13 4095) HT_ rfl rfl ?_
          refine last_ (i := 12) (N := none) (mL 13 8191) rfl rfl (one_of HT_.out KR) (by decide) (fun K hK => ?_)
          refine skip_ (w1 := ?_) (by rfl) rfl ?_ ?_
          rotate_left
          ·go_simp
           rfl
          refine hK.out _ _ ?_
          clear hK K
          refine done_ (done_of HT_.out KR) ?_
          have n0_ : Aside0 (Kd.R (Kd.int .i64) 3 (w65.setCell ⟨go60, (t189 : Int).toNat, none⟩ (.int .i64 (wrap64 ((rd x4_2 t189) - (wrap64 (t162 - (rd x4_2 x9_3))))))) w.heap.size (fun k_ => k_ ≠ gb163) (.slice (some ⟨go60, 0, none⟩) x4_2.length co21) y194) := RW HQ66
          have n1_ : Aside0 (Kd.R k_Column 65 (w65.setCell ⟨go60, (t189 : Int).toNat, none⟩ (.int .i64 (wrap64 ((rd x4_2 t189) - (wrap64 (t162 - (rd x4_2 x9_3))))))) w.heap.size (fun _ => True) (.slice (some ⟨go57, 0, none⟩) x5_2.length co57) y191) := ⟨by (with_reducible repeat (first | apply Kd.R_alloc | apply Kd.R_drewN | apply Kd.R_drew)); exact Kd.R_mono (Kd.R_far (p := ⟨go60, (t189 : Int).toNat, none⟩) (Kd.R_types HO_5.out GG60.out (by decide)) (fun _ hk => hk.2) (.int .i64 (wrap64 ((rd x4_2 t189) - (wrap64 (t162 - (rd x4_2 x9_3))))))) (fun _ hk => trivial)⟩
          have n2_ : Aside0 (Kd.R Kd.bool 4 (w65.setCell ⟨go60, (t189 : Int).toNat, none⟩ (.int .i64 (wrap64 ((rd x4_2 t189) - (wrap64 (t162 - (rd x4_2 x9_3))))))) w.heap.size (fun _ => True) v178 x8_2) := ⟨by (with_reducible repeat (first | apply Kd.R_alloc | apply Kd.R_drewN | apply Kd.R_drew)); exact Kd.R_mono (Kd.R_far (p := ⟨go60, (t189 : Int).toNat, none⟩) (Kd.R_types HO_8.out GG60.out (by decide)) (fun _ hk => hk.2) (.int .i64 (wrap64 ((rd x4_2 t189) - (wrap64 (t162 - (rd x4_2 x9_3))))))) (fun _ hk => trivial)⟩
          have n3_ : Aside0 ((w65.setCell ⟨go60, (t189 : Int).toNat, none⟩ (.int .i64 (wrap64 ((rd x4_2 t189) - (wrap64 (t162 - (rd x4_2 x9_3))))))).heap[gb163]? = some (.cells #[.int .i64 t162] 3 (0, 0))) := ⟨by (with_reducible repeat (first | refine blk_drewN ?_ _ | refine blk_drew ?_ | refine blk_alloc ?_ _)); refine blk_far ?_ (by have h_ := Kd.R_away HO_4.out (fun _ hk => hk); intro e_; exact h_ (by rw [e_]; rfl)) _; (with_reducible repeat (first | refine blk_drewN ?_ _ | refine blk_drew ?_ | refine blk_alloc ?_ _)); exact BK163.out⟩
          have n4_ : Aside0 (Below w.heap.size w (w65.setCell ⟨go60, (t189 : Int).toNat, none⟩ (.int .i64 (wrap64 ((rd x4_2 t189) - (wrap64 (t162 - (rd x4_2 x9_3)))))))) := ⟨TB⟩
          (try clear HO_4)
          (try clear HO_5)
          (try clear HO_8)
          (try clear BK163)
          (try clear HB)
          generalize (w65.setCell ⟨go60, (t189 : Int).toNat, none⟩ (.int .i64 (wrap64 ((rd x4_2 t189) - (wrap64 (t162 - (rd x4_2 x9_3))))))) = w67 at n0_ n1_ n2_ n3_ n4_ ⊢
          have HO_4 := n0_
          have HO_5 := n1_
          have HO_8 := n2_
          have BK163 := n3_
          have HB := n4_
          clear n0_ n1_ n2_ n3_ n4_
          have p62 : 0 ≤ (x9_3 : Int) := TD
          have q62 : (x9_3 : Int) < ((x8_2.length : Int) : Int) := TD
          obtain ⟨go62, co62, eo62, gb62, gl62, cl62, HG62⟩ := Kd.R_form HO_8.out (by omega)
          (first | cases eo62 | (injection eo62 with ea_ en_ ec_; (first | subst ea_ | (injection ea_ with ea_; subst ea_)); subst ec_; clear en_))
          have GB62 := Aside0.mk gb62
          have GG62 := Aside0.mk HG62
          clear gb62 gl62 HG62
          obtain ⟨hx62_0, hf62_0⟩ := Kd.R_celln false HO_8.out (x9_3 : Int) p62 q62
          replace p62 := eq_true p62
          replace q62 := eq_true q62
          obtain ⟨hy68_, hz68_⟩ := Kd.R_celln false HO_8.out (x9_3 : Int) TD TD
          have HP68 := Kd.R_putg HO_8.out (x9_3 : Int) true
          try go_wp2_with (first | ((with_reducible refine gate_store (t := 4) (p := 89) rfl ?_); refine store_event (t := 4) (p := 89) (v := ?vo_w69) (w1 := (w67.setCell ⟨go62, (x9_3 : Int).toNat, none⟩ (.bool true))) ?hg ?ho ?hn ?hr ?_; (case ho => rfl); (case hg => rfl); (case hn => rfl); (case hr => first | (go_simp; done) | (go_simp; rfl)); intro w69 hw; have hg : w67.grownBy w69 (some go62) := (by rw [hw]; exact HP68.2); have hp_ : Kd.R Kd.bool 4 w69 w.heap.size (fun _ => True) (.slice (some ⟨go62, 0, none⟩) x8_2.length co62) y195 := (by rw [hw, Ny195.out]; exact HP68.1); clear HP68; replace HO_4 := Aside0.mk (Kd.R_over' (v := (.slice (some ⟨go62, 0, none⟩) x8_2.length co62)) (RW HO_4).out (Kd.R_typed HO_8.out) (by decide) hg); replace HO_5 := Aside0.mk (Kd.R_over' (v := (.slice (some ⟨go62, 0, none⟩) x8_2.length co62)) (RW HO_5).out (Kd.R_typed HO_8.out) (by decide) hg); replace BK163 := Aside0.mk (blk_grown (g := gb163) (o := .cells #[.int .i64 t162] 3 (0, 0)) (KW BK163).out hg (Kd.R_ne HO_8.out BK163.out (by decide))); replace HO_8 := Aside0.mk (hp_); replace HB := Aside0.mk ((by rw [hw]; exact below_set (HB.out) GB62.out : Below w.heap.size w w69)); clear hg hw hp_))
          go_roundg k3
          case measure => have := HK1.out; have := HK2.out; have := HK3.out; omega
          case rel => exact ⟨(y194), (y191), (y195), H', ⟨by have := HK1.out; have := HK2.out; have := HK3.out; omega⟩, RW HO_4, RW HO_5, RW HO_8, KW BK163, ⟨TB⟩⟩
end
section
/-! ### impl_AliasOf: function 43 -/
def impl_AliasOf.f (k : Nat) (l0 : List Int) : Option ((List (S_Column)) × Bool) := (impl_GoodWeights.f k l0).bind fun t196 => (if t196 = true then ((impl_aliasOf.f k l0).bind fun t197 => (some (t197, true))) else (some (([] : List (S_Column)), false)))
theorem impl_AliasOf.calls (k : Nat) (A0 : Option Addr) (c0 : Nat) (l0 : List Int) (r1 : List (S_Column)) (r2 : Bool) (w : World) (hr0 : Kd.C (Kd.int .i64) w A0 l0.length l0) (hc0 : l0.length ≤ c0) (h : impl_AliasOf.f k l0 = some (r1, r2)) :
  Calls Try.prog 43 #[.slice A0 l0.length c0] w fun e w' => ∃ v0_ : Value, e = .returned (.tuple #[v0_, .bool r2]) ∧ Kd.R k_Column 65 w' w.heap.size (fun _ => True) v0_ r1 ∧ Below w.heap.size w w' := by
 have HR0 := Aside0.mk hr0
 have HC0 := Aside0.mk hc0
 clear hr0 hc0
 have HB := Aside0.mk (Below.refl w.heap.size w)
 have H : ((impl_GoodWeights.f k l0).bind fun t196 => (if t196 = true then ((impl_aliasOf.f k l0).bind fun t197 => (some (t197, true))) else (some (([] : List (S_Column)), false)))) = some (r1, r2) := h
 clear h
 obtain ⟨t196, A2, H⟩ := bnd H
 by_cases c3 : t196 = true
 ·subst c3
  replace H := ift H
  obtain ⟨t197, A4, H⟩ := bnd H
  simp only [Option.some.injEq, Prod.mk.injEq] at H
  obtain ⟨rfl, rfl⟩ := H
  go_enter Try.func43, Try.ntmps43
  go_wp2_with (first | ((with_reducible refine gate_callee (f := 17) rfl ?_); refine goesL_ (some 5) rfl rfl Try.func17 KR rfl #[.slice A0 l0.length c0] rfl TA ?_; (with_reducible refine (impl_GoodWeights.calls k _ _ l0 true _ ?side1 ?side2 A2.out).mono ?_); (case side1 => exact CW (HR0.out)); (case side2 => exact HC0.out); rintro e w' ⟨rfl, ⟨nd, rfl⟩⟩; refine ⟨_, rfl, ?_⟩) | ((with_reducible refine gate_callee (f := 75) rfl ?_); refine goesL_ (some 8) rfl rfl Try.func75 KR rfl #[.slice A0 l0.length c0] rfl TA ?_; (with_reducible refine (impl_aliasOf.calls k _ _ l0 t197 _ ?side1 ?side2 A4.out).mono ?_); (case side1 => exact CW (HR0.out)); (case side2 => exact HC0.out); rintro e w5 ⟨v198, rfl, ho0, hb⟩; refine ⟨_, rfl, ?_⟩; have HO199 := RL ho0; replace HB := BS hb; clear hb; (try clear ho0)))
  go_ret2
  exact ⟨_, TE, (RW HO199).out, TB⟩
 ·replace c3 := Bool.eq_false_iff.mpr c3
  subst c3
  replace H := iff' H
  simp only [Option.some.injEq, Prod.mk.injEq] at H
  obtain ⟨rfl, rfl⟩ := H
  go_enter Try.func43, Try.ntmps43
  go_wp2_with (first | ((with_reducible refine gate_callee (f := 17) rfl ?_); refine goesL_ (some 5) rfl rfl Try.func17 KR rfl #[.slice A0 l0.length c0] rfl TA ?_; (with_reducible refine (impl_GoodWeights.calls k _ _ l0 false _ ?side1 ?side2 A2.out).mono ?_); (case side1 => exact CW (HR0.out)); (case side2 => exact HC0.out); rintro e w' ⟨rfl, ⟨nd, rfl⟩⟩; refine ⟨_, rfl, ?_⟩))
  go_ret2
  exact ⟨_, TE, TZ, TB⟩
end
section
/-! ### spec_l1In: function 58 -/
def spec_l1In.f (a0 : Int) (a1 : Int) (a2 : Int) : Option (Bool) := if a0 ≥ a1 then (some (decide (a0 ≤ a2))) else (some false)
theorem spec_l1In.calls (a0 : Int) (a1 : Int) (a2 : Int) (r : Bool) (w : World) (h : spec_l1In.f a0 a1 a2 = some r) :
  Calls Try.prog 58 #[.int .i64 a0, .int .i64 a1, .int .i64 a2] w fun e w' => e = .returned (.bool r) ∧ Drawn0 w w' := by
 have H : (if a0 ≥ a1 then (some (decide (a0 ≤ a2))) else (some false)) = some r := h
 clear h
 by_cases c4 : a0 ≥ a1
 ·rw [if_pos c4] at H
  have c4b0 : decide (a1 ≤ a0) = true := decide_eq_true c4
  clear c4
  obtain rfl := Option.some.inj H
  go_enter Try.func58, Try.ntmps58
  go_wp2
  go_ret
  exact ⟨TF, TN⟩
 ·rw [if_neg c4] at H
  have c4b0 : decide (a1 ≤ a0) = false := decide_eq_false c4
  clear c4
  obtain rfl := Option.some.inj H
  go_enter Try.func58, Try.ntmps58
  go_wp2
  go_ret
  exact ⟨TF, TN⟩
end
section
/-! ### spec_GoodWeights: function 15 -/
def spec_GoodWeights.l0 : Nat → List Int → Int → List Int → Int → Int → Option (Bool)
 | 0, _, _, _, _, _ => none
 | k + 1, x0, x3, x6, x7, x8 => if x8 < x7 then (if 0 ≤ x8 then (if x8 < (x6.length : Int) then ((spec_l1In.f (rd x6 x8) 0 50).bind fun t201 => (if t201 = true then (spec_GoodWeights.l0 k x0 (wrap64 (x3 + (rd x6 x8))) x6 x7 (wrap64 (x8 + 1))) else (some false))) else (none)) else (none)) else ((spec_l1In.f (x0.length : Int) 1 12).bind fun t202 => (if t202 = true then (some (decide (x3 > 0))) else (some false)))
def spec_GoodWeights.f (k : Nat) (l0 : List Int) : Option (Bool) := spec_GoodWeights.l0 k l0 0 l0 (l0.length : Int) 0
theorem spec_GoodWeights.calls (k : Nat) (A0 : Option Addr) (c0 : Nat) (l0 : List Int) (r : Bool) (w : World) (hr0 : Kd.C (Kd.int .i64) w A0 l0.length l0) (hc0 : l0.length ≤ c0) (h : spec_GoodWeights.f k l0 = some r) :
  Calls Try.prog 15 #[.slice A0 l0.length c0] w fun e w' => e = .returned (.bool r) ∧ Drawn0 w w' := by
 have HR0 := Aside0.mk hr0
 have HC0 := Aside0.mk hc0
 clear hr0 hc0
 have H : (spec_GoodWeights.l0 k l0 0 l0 (l0.length : Int) 0) = some r := h
 clear h
 have H' := Aside0.mk H
 clear H
 go_enter Try.func15, Try.ntmps15
 go_wp2
 go_loopg [3, 8] k (fun kq v3 v8 w' => ∃ (x3_1 : Int) (x8_1 : Int), v3 = .int .i64 x3_1 ∧ v8 = .int .i64 x8_1 ∧ Aside0 (spec_GoodWeights.l0 kq l0 x3_1 l0 (l0.length : Int) x8_1 = some r) ∧ Aside0 (kq ≤ k) ∧ Drawn0 w w')
 case atStart => exact ⟨(0), (0), TF, TF, H', ⟨Nat.le_refl _⟩, TN⟩
 case round =>
  clear H'
  obtain ⟨x3_1, x8_1, rfl, rfl, HA, HK1, ⟨m1, rfl⟩⟩ := hrel
  cases gk with
  | zero => exact absurd HA.out (by simp [spec_GoodWeights.l0])
  | succ k1 =>
   have H := HA.out
   clear HA
   simp only [spec_GoodWeights.l0] at H
   by_cases c2 : x8_1 < (l0.length : Int)
   ·rw [if_pos c2] at H
    have c2b0 : decide (x8_1 < (l0.length : Int)) = true := decide_eq_true c2
    clear c2
    obtain ⟨c3, H⟩ := ifn H
    have c3b0 : decide (0 ≤ x8_1) = true := decide_eq_true c3
    clear c3
    obtain ⟨c4, H⟩ := ifn H
    have c4b0 : decide (x8_1 < (l0.length : Int)) = true := decide_eq_true c4
    clear c4
    obtain ⟨t201, A5, H⟩ := bnd H
    by_cases c6 : t201 = true
    ·subst c6
     replace H := ift H
     have H' := Aside0.mk H
     clear H
     have p200 : 0 ≤ (x8_1 : Int) := TD
     have q200 : x8_1 < (l0.length : Int) := TD
     obtain ⟨ad200, e200, hx200_0⟩ := Kd.at_int HR0.out x8_1 p200 q200
     cases e200
     replace p200 := eq_true p200
     replace q200 := eq_true q200
     go_wp2_with (first | ((with_reducible refine gate_callee (f := 58) rfl ?_); refine goesL_ (some 13) rfl rfl Try.func58 KR rfl #[.int .i64 (rd l0 x8_1), .int .i64 0, .int .i64 50] rfl TA ?_; (with_reducible refine (spec_l1In.calls (rd l0 x8_1) 0 50 true _ A5.out).mono ?_); rintro e w' ⟨rfl, ⟨nd, rfl⟩⟩; refine ⟨_, rfl, ?_⟩))
     go_roundg k1
     case measure => have := HK1.out; omega
     case rel => exact ⟨(wrap64 (x3_1 + (rd l0 x8_1))), (wrap64 (x8_1 + 1)), TF, TF, H', ⟨TM⟩, TN⟩
    ·replace c6 := Bool.eq_false_iff.mpr c6
     subst c6
     replace H := iff' H
     obtain rfl := Option.some.inj H
     have p200 : 0 ≤ (x8_1 : Int) := TD
     have q200 : x8_1 < (l0.length : Int) := TD
     obtain ⟨ad200, e200, hx200_0⟩ := Kd.at_int HR0.out x8_1 p200 q200
     cases e200
     replace p200 := eq_true p200
     replace q200 := eq_true q200
     go_wp2_with (first | ((with_reducible refine gate_callee (f := 58) rfl ?_); refine goesL_ (some 13) rfl rfl Try.func58 KR rfl #[.int .i64 (rd l0 x8_1), .int .i64 0, .int .i64 50] rfl TA ?_; (with_reducible refine (spec_l1In.calls (rd l0 x8_1) 0 50 false _ A5.out).mono ?_); rintro e w' ⟨rfl, ⟨nd, rfl⟩⟩; refine ⟨_, rfl, ?_⟩))
     go_ret
     exact ⟨TF, TN⟩
   ·rw [if_neg c2] at H
    have c2b0 : decide (x8_1 < (l0.length : Int)) = false := decide_eq_false c2
    clear c2
    obtain ⟨t202, A7, H⟩ := bnd H
    by_cases c8 : t202 = true
    ·subst c8
     replace H := ift H
     obtain rfl := Option.some.inj H
     go_wp2_with (first | ((with_reducible refine gate_callee (f := 58) rfl ?_); refine goesL_ (some 21) rfl rfl Try.func58 KR rfl #[.int .i64 (l0.length : Int), .int .i64 1, .int .i64 12] rfl TA ?_; (with_reducible refine (spec_l1In.calls (l0.length : Int) 1 12 true _ A7.out).mono ?_); rintro e w' ⟨rfl, ⟨nd, rfl⟩⟩; refine ⟨_, rfl, ?_⟩))
     go_ret
     exact ⟨TF, TN⟩
    ·replace c8 := Bool.eq_false_iff.mpr c8
     subst c8
     replace H := iff' H
     obtain rfl := Option.some.inj H
     go_wp2_with (first | ((with_reducible refine gate_callee (f := 58) rfl ?_); refine goesL_ (some 21) rfl rfl Try.func58 KR rfl #[.int .i64 (l0.length : Int), .int .i64 1, .int .i64 12] rfl TA ?_; (with_reducible refine (spec_l1In.calls (l0.length : Int) 1 12 false _ A7.out).mono ?_); rintro e w' ⟨rfl, ⟨nd, rfl⟩⟩; refine ⟨_, rfl, ?_⟩))
     go_ret
     exact ⟨TF, TN⟩
end
section
/-! ### spec_l12Total: function 74 -/
def spec_l12Total.l0 : Nat → Int → List Int → Int → Int → Option (Int)
 | 0, _, _, _, _ => none
 | k + 1, x3, x6, x7, x8 => if x8 < x7 then (if 0 ≤ x8 then (if x8 < (x6.length : Int) then (spec_l12Total.l0 k (wrap64 (x3 + (rd x6 x8))) x6 x7 (wrap64 (x8 + 1))) else (none)) else (none)) else (some x3)
def spec_l12Total.f (k : Nat) (l0 : List Int) : Option (Int) := spec_l12Total.l0 k 0 l0 (l0.length : Int) 0
theorem spec_l12Total.calls (k : Nat) (A0 : Option Addr) (c0 : Nat) (l0 : List Int) (r : Int) (w : World) (hr0 : Kd.C (Kd.int .i64) w A0 l0.length l0) (hc0 : l0.length ≤ c0) (h : spec_l12Total.f k l0 = some r) :
  Calls Try.prog 74 #[.slice A0 l0.length c0] w fun e w' => e = .returned (.int .i64 r) ∧ Drawn0 w w' := by
 have HR0 := Aside0.mk hr0
 have HC0 := Aside0.mk hc0
 clear hr0 hc0
 have H : (spec_l12Total.l0 k 0 l0 (l0.length : Int) 0) = some r := h
 clear h
 have H' := Aside0.mk H
 clear H
 go_enter Try.func74, Try.ntmps74
 go_wp2
 go_loopg [3, 8] k (fun kq v3 v8 w' => ∃ (x3_1 : Int) (x8_1 : Int), v3 = .int .i64 x3_1 ∧ v8 = .int .i64 x8_1 ∧ Aside0 (spec_l12Total.l0 kq x3_1 l0 (l0.length : Int) x8_1 = some r) ∧ Aside0 (kq ≤ k) ∧ Drawn0 w w')
 case atStart => exact ⟨(0), (0), TF, TF, H', ⟨Nat.le_refl _⟩, TN⟩
 case round =>
  clear H'
  obtain ⟨x3_1, x8_1, rfl, rfl, HA, HK1, ⟨m1, rfl⟩⟩ := hrel
  cases gk with
  | zero => exact absurd HA.out (by simp [spec_l12Total.l0])
  | succ k1 =>
   have H := HA.out
   clear HA
   simp only [spec_l12Total.l0] at H
   by_cases c2 : x8_1 < (l0.length : Int)
   ·rw [if_pos c2] at H
    have c2b0 : decide (x8_1 < (l0.length : Int)) = true := decide_eq_true c2
    clear c2
    obtain ⟨c3, H⟩ := ifn H
    have c3b0 : decide (0 ≤ x8_1) = true := decide_eq_true c3
    clear c3
    obtain ⟨c4, H⟩ := ifn H
    have c4b0 : decide (x8_1 < (l0.length : Int)) = true := decide_eq_true c4
    clear c4
    have H' := Aside0.mk H
    clear H
    have p203 : 0 ≤ (x8_1 : Int) := TD
    have q203 : x8_1 < (l0.length : Int) := TD
    obtain ⟨ad203, e203, hx203_0⟩ := Kd.at_int HR0.out x8_1 p203 q203
    cases e203
    replace p203 := eq_true p203
    replace q203 := eq_true q203
    go_wp2
    go_roundg k1
    case measure => have := HK1.out; omega
    case rel => exact ⟨(wrap64 (x3_1 + (rd l0 x8_1))), (wrap64 (x8_1 + 1)), TF, TF, H', ⟨TM⟩, TN⟩
   ·rw [if_neg c2] at H
    have c2b0 : decide (x8_1 < (l0.length : Int)) = false := decide_eq_false c2
    clear c2
    obtain rfl := Option.some.inj H
    go_wp2
    go_ret
    exact ⟨TF, TN⟩
end
section
/-! ### spec_AliasOf: function 42 -/
mutual
def spec_AliasOf.l0 : Nat → Int → Int → List Int → List Bool → List (S_Column) → List Int → Int → Int → Option ((List (S_Column)) × Bool)
 | 0, _, _, _, _, _, _, _, _ => none
 | k + 1, x4, x5, x6, x7, x8, x27, x28, x29 => if x29 < x28 then (if 0 ≤ x29 then (if x29 < (x27.length : Int) then (if x29 < (x6.length : Int) then (if x29 < (x8.length : Int) then (spec_AliasOf.l0 k x4 x5 (x6.set (x29 : Int).toNat (wrap64 ((rd x27 x29) * x4))) x7 (x8.set (x29 : Int).toNat (⟨x5, x29⟩ : S_Column)) x27 x28 (wrap64 (x29 + 1))) else (none)) else (none)) else (none)) else (none)) else (spec_AliasOf.l1 k x5 x6 x7 x8)
def spec_AliasOf.l1 : Nat → Int → List Int → List Bool → List (S_Column) → Option ((List (S_Column)) × Bool)
 | 0, _, _, _, _ => none
 | k + 1, x5, x6, x7, x8 => spec_AliasOf.l2 k x5 x6 x7 x8 (-1) (-1) (x6.length : Int) 0
def spec_AliasOf.l2 : Nat → Int → List Int → List Bool → List (S_Column) → Int → Int → Int → Int → Option ((List (S_Column)) × Bool)
 | 0, _, _, _, _, _, _, _, _ => none
 | k + 1, x5, x6, x7, x8, x11, x12, x48, x49 => if x49 < x48 then (if 0 ≤ x49 then (if x49 < (x7.length : Int) then (if rdOf false x7 x49 = true then (spec_AliasOf.l2 k x5 x6 x7 x8 x11 x12 x48 (wrap64 (x49 + 1))) else (if x49 < (x6.length : Int) then (if (rd x6 x49) < x5 then (spec_AliasOf.j3 k x5 x6 x7 x8 x11 x12 x49 x48 x49 (decide (x11 < 0))) else (spec_AliasOf.j3 k x5 x6 x7 x8 x11 x12 x49 x48 x49 false)) else (none))) else (none)) else (none)) else (if x11 < 0 then (some (x8, true)) else (if x12 < 0 then (some (x8, true)) else (if 0 ≤ x11 then (if x11 < (x6.length : Int) then (if x11 < (x8.length : Int) then (if 0 ≤ x12 then (if x12 < (x6.length : Int) then (if x11 < (x7.length : Int) then (spec_AliasOf.l1 k x5 (x6.set (x12 : Int).toNat (wrap64 ((rd x6 x12) - (wrap64 (x5 - (rd x6 x11)))))) (x7.set (x11 : Int).toNat true) (x8.set (x11 : Int).toNat (⟨rd x6 x11, x12⟩ : S_Column))) else (none)) else (none)) else (none)) else (none)) else (none)) else (none))))
def spec_AliasOf.j3 : Nat → Int → List Int → List Bool → List (S_Column) → Int → Int → Int → Int → Int → Bool → Option ((List (S_Column)) × Bool)
 | 0, _, _, _, _, _, _, _, _, _, _ => none
 | k + 1, x5, x6, x7, x8, x11, x12, x13, x48, x49, x65 => if x65 = true then (if 0 ≤ x13 then (if x13 < (x6.length : Int) then (if (rd x6 x13) > x5 then (if x12 < 0 then (spec_AliasOf.l2 k x5 x6 x7 x8 x13 x13 x48 (wrap64 (x49 + 1))) else (spec_AliasOf.l2 k x5 x6 x7 x8 x13 x12 x48 (wrap64 (x49 + 1)))) else (spec_AliasOf.l2 k x5 x6 x7 x8 x13 x12 x48 (wrap64 (x49 + 1)))) else (none)) else (none)) else (if 0 ≤ x13 then (if x13 < (x6.length : Int) then (if (rd x6 x13) > x5 then (if x12 < 0 then (spec_AliasOf.l2 k x5 x6 x7 x8 x11 x13 x48 (wrap64 (x49 + 1))) else (spec_AliasOf.l2 k x5 x6 x7 x8 x11 x12 x48 (wrap64 (x49 + 1)))) else (spec_AliasOf.l2 k x5 x6 x7 x8 x11 x12 x48 (wrap64 (x49 + 1)))) else (none)) else (none))
end
def spec_AliasOf.f (k : Nat) (l0 : List Int) : Option ((List (S_Column)) × Bool) := (spec_GoodWeights.f k l0).bind fun t204 => (if t204 = true then ((spec_l12Total.f k l0).bind fun t205 => (if 0 ≤ (l0.length : Int) then (if ((l0.length : Int) : Int).toNat ≤ 35184372088832 then (if ((l0.length : Int) : Int).toNat ≤ 281474976710656 then (if ((l0.length : Int) : Int).toNat ≤ 17592186044416 then (spec_AliasOf.l0 k (l0.length : Int) t205 (List.replicate ((l0.length : Int) : Int).toNat 0) (List.replicate ((l0.length : Int) : Int).toNat false) (List.replicate ((l0.length : Int) : Int).toNat z_Column) l0 (l0.length : Int) 0) else (none)) else (none)) else (none)) else (none))) else (some (([] : List (S_Column)), false)))
def spec_AliasOf.T28 : Bool × List (List Nat × List Nat) := (true, [([], []), ([], []), ([0, 1], [0, 1]), ([2], [2]), ([], []), ([], []), ([], []), ([5, 6], [5, 6]), ([7], [7]), ([4, 8], [4, 8]), ([3, 9], [3, 9]), ([0, 1, 0, 1, 2, 3, 4, 5, 6, 7, 8, 9, 10], [0, 1]), ([11, 10, 0, 1, 2, 3, 4, 5, 6, 7, 8, 9, 10], [10, 11])])
def spec_AliasOf.B28 : List Nat := [0, 0, 3, 7, 0, 0, 0, 96, 224, 496, 1023, 2047, 4095]
theorem spec_AliasOf.tab28 : rtab .any (opsOf Try.f42 28) = spec_AliasOf.T28 := by kernel_rfl
theorem spec_AliasOf.bits28 : waitsOk spec_AliasOf.T28.2 spec_AliasOf.B28 = true := by kernel_rfl
theorem spec_AliasOf.calls (k : Nat) (A0 : Option Addr) (c0 : Nat) (l0 : List Int) (r1 : List (S_Column)) (r2 : Bool) (w : World) (hr0 : Kd.C (Kd.int .i64) w A0 l0.length l0) (hc0 : l0.length ≤ c0) (h : spec_AliasOf.f k l0 = some (r1, r2)) :
  Calls Try.prog 42 #[.slice A0 l0.length c0] w fun e w' => ∃ v0_ : Value, e = .returned (.tuple #[v0_, .bool r2]) ∧ Kd.R k_Column 65 w' w.heap.size (fun _ => True) v0_ r1 ∧ Below w.heap.size w w' := by
 have hu65 := Try.underlying65
 have HR0 := Aside0.mk hr0
 have HC0 := Aside0.mk hc0
 clear hr0 hc0
 have HB := Aside0.mk (Below.refl w.heap.size w)
 have H : ((spec_GoodWeights.f k l0).bind fun t204 => (if t204 = true then ((spec_l12Total.f k l0).bind fun t205 => (if 0 ≤ (l0.length : Int) then (if ((l0.length : Int) : Int).toNat ≤ 35184372088832 then (if ((l0.length : Int) : Int).toNat ≤ 281474976710656 then (if ((l0.length : Int) : Int).toNat ≤ 17592186044416 then (spec_AliasOf.l0 k (l0.length : Int) t205 (List.replicate ((l0.length : Int) : Int).toNat 0) (List.replicate ((l0.length : Int) : Int).toNat false) (List.replicate ((l0.length : Int) : Int).toNat z_Column) l0 (l0.length : Int) 0) else (none)) else (none)) else (none)) else (none))) else (some (([] : List (S_Column)), false)))) = some (r1, r2) := h
 clear h
 obtain ⟨t204, A2, H⟩ := bnd H
 by_cases c3 : t204 = true
 ·subst c3
  replace H := ift H
  obtain ⟨t205, A4, H⟩ := bnd H
  obtain ⟨c5, H⟩ := ifn H
  have c5b0 := eq_true c5
  have c5b1 : decide (0 ≤ (l0.length : Int)) = true := decide_eq_true c5
  clear c5
  obtain ⟨c6, H⟩ := ifn H
  have c6b0 := eq_true c6
  have c6b1 : decide (((l0.length : Int) : Int).toNat ≤ 35184372088832) = true := decide_eq_true c6
  clear c6
  obtain ⟨y206, hy206⟩ : ∃ y_ : List Int, y_ = (List.replicate ((l0.length : Int) : Int).toNat 0) := ⟨_, rfl⟩
  replace H : (if ((l0.length : Int) : Int).toNat ≤ 281474976710656 then (if ((l0.length : Int) : Int).toNat ≤ 17592186044416 then (spec_AliasOf.l0 k (l0.length : Int) t205 y206 (List.replicate ((l0.length : Int) : Int).toNat false) (List.replicate ((l0.length : Int) : Int).toNat z_Column) l0 (l0.length : Int) 0) else (none)) else (none)) = some (r1, r2) := by first | (rw [hy206]; with_reducible exact H) | (have H2_ := (Option.bind_some _ _).symm.trans H; rw [hy206]; with_reducible exact H2_) | (have H2_ := (Option.bind_some _ _).symm.trans H; with_reducible exact H2_) | with_reducible exact H | (rw [hy206]; exact H) | exact H
  have Ny206 := Aside0.mk hy206
  clear hy206
  obtain ⟨c7, H⟩ := ifn H
  have c7b0 := eq_true c7
  have c7b1 : decide (((l0.length : Int) : Int).toNat ≤ 281474976710656) = true := decide_eq_true c7
  clear c7
  obtain ⟨y209, hy209⟩ : ∃ y_ : List Bool, y_ = (List.replicate ((l0.length : Int) : Int).toNat false) := ⟨_, rfl⟩
  replace H : (if ((l0.length : Int) : Int).toNat ≤ 17592186044416 then (spec_AliasOf.l0 k (l0.length : Int) t205 y206 y209 (List.replicate ((l0.length : Int) : Int).toNat z_Column) l0 (l0.length : Int) 0) else (none)) = some (r1, r2) := by first | (rw [hy209]; with_reducible exact H) | (have H2_ := (Option.bind_some _ _).symm.trans H; rw [hy209]; with_reducible exact H2_) | (have H2_ := (Option.bind_some _ _).symm.trans H; with_reducible exact H2_) | with_reducible exact H | (rw [hy209]; exact H) | exact H
  have Ny209 := Aside0.mk hy209
  clear hy209
  obtain ⟨c8, H⟩ := ifn H
  have c8b0 := eq_true c8
  have c8b1 : decide (((l0.length : Int) : Int).toNat ≤ 17592186044416) = true := decide_eq_true c8
  clear c8
  obtain ⟨y212, hy212⟩ : ∃ y_ : List (S_Column), y_ = (List.replicate ((l0.length : Int) : Int).toNat z_Column) := ⟨_, rfl⟩
  replace H : (spec_AliasOf.l0 k (l0.length : Int) t205 y206 y209 y212 l0 (l0.length : Int) 0) = some (r1, r2) := by first | (rw [hy212]; with_reducible exact H) | (have H2_ := (Option.bind_some _ _).symm.trans H; rw [hy212]; with_reducible exact H2_) | (have H2_ := (Option.bind_some _ _).symm.trans H; with_reducible exact H2_) | with_reducible exact H | (rw [hy212]; exact H) | exact H
  have Ny212 := Aside0.mk hy212
  clear hy212
  have H' := Aside0.mk H
  clear H
  go_enter Try.func42, Try.ntmps42
  go_wp2_with (first | ((with_reducible refine gate_callee (f := 15) rfl ?_); refine goesL_ (some 15) rfl rfl Try.func15 KR rfl #[.slice A0 l0.length c0] rfl TA ?_; (with_reducible refine (spec_GoodWeights.calls k _ _ l0 true _ ?side1 ?side2 A2.out).mono ?_); (case side1 => exact CW (HR0.out)); (case side2 => exact HC0.out); rintro e w' ⟨rfl, ⟨nd, rfl⟩⟩; refine ⟨_, rfl, ?_⟩) | ((with_reducible refine gate_callee (f := 74) rfl ?_); refine goesL_ (some 20) rfl rfl Try.func74 KR rfl #[.slice A0 l0.length c0] rfl TA ?_; (with_reducible refine (spec_l12Total.calls k _ _ l0 t205 _ ?side1 ?side2 A4.out).mono ?_); (case side1 => exact CW (HR0.out)); (case side2 => exact HC0.out); rintro e w' ⟨rfl, ⟨nd, rfl⟩⟩; refine ⟨_, rfl, ?_⟩) | ((with_reducible refine gate_dst (N := 22) rfl ?_); refine Kd.R_make (Kd.int .i64) _ 3 rfl (N := 22) rfl 22 _ _ rfl (l0.length : Int) rfl rfl Try.underlying22 (.int .i64 0) 8 info3 rfl (by decide) (by omega) 0 (ok := fun _ => True) (okp := fun _ => True) rfl (fun _ hk => hk) trivial TD (Nat.le_trans (Nat.mul_le_mul_right _ (TD : (l0.length : Int).toNat ≤ 35184372088832)) (by omega)) (Below.refl _ _) (Nat.le_refl _) ?_; intro v207 w9 ho10 hb hg_ hnew_; clear hg_ hnew_; (first | rw [← Ny206.out] at ho10 | (simp only [Int.reduceToNat] at ho10; rw [← Ny206.out] at ho10)); have HO208 := RL ho10; replace HB := BS hb; clear hb ho10) | ((with_reducible refine gate_dst (N := 24) rfl ?_); refine Kd.R_make Kd.bool _ 4 rfl (N := 24) rfl 88 _ _ rfl (l0.length : Int) rfl rfl Try.underlying88 (.bool false) 1 info4 rfl (by decide) (by omega) false (ok := fun _ => True) (okp := fun _ => True) rfl (fun _ hk => hk) trivial TD (Nat.le_trans (Nat.mul_le_mul_right _ (TD : (l0.length : Int).toNat ≤ 281474976710656)) (by omega)) (Below.refl _ _) (Nat.le_refl _) ?_; intro v210 w11 ho12 hb hg_ hnew_; clear hg_ hnew_; (first | rw [← Ny209.out] at ho12 | (simp only [Int.reduceToNat] at ho12; rw [← Ny209.out] at ho12)); replace HO208 := RB HO208 hb; have HO211 := RL ho12; replace HB := BS hb; clear hb ho12) | ((with_reducible refine gate_dst (N := 26) rfl ?_); refine Kd.R_make k_Column _ 65 rfl (N := 26) rfl 29 _ _ rfl (l0.length : Int) rfl rfl Try.underlying29 (.agg #[(.int .i64 0), (.int .i64 0)]) 16 info65 rfl (by decide) (by omega) z_Column (ok := fun _ => True) (okp := fun _ => True) (k_Column_mkM _ _ _ z_Column ) (fun _ hk => hk) trivial TD (Nat.le_trans (Nat.mul_le_mul_right _ (TD : (l0.length : Int).toNat ≤ 17592186044416)) (by omega)) (Below.refl _ _) (Nat.le_refl _) ?_; intro v213 w13 ho14 hb hg_ hnew_; clear hg_ hnew_; (first | rw [← Ny212.out] at ho14 | (simp only [Int.reduceToNat] at ho14; rw [← Ny212.out] at ho14)); replace HO208 := RB HO208 hb; replace HO211 := RB HO211 hb; have HO214 := RL ho14; replace HB := BS hb; clear hb ho14))
  go_loopg [29] k (fun kq v29 w' => ∃ (x6_1 : List Int) (x8_1 : List (S_Column)) (x29_1 : Int), v29 = .int .i64 x29_1 ∧ Aside0 (spec_AliasOf.l0 kq (l0.length : Int) t205 x6_1 y209 x8_1 l0 (l0.length : Int) x29_1 = some (r1, r2)) ∧ Aside0 (kq ≤ k) ∧ Aside0 (Kd.R (Kd.int .i64) 3 w' w.heap.size (fun _ => True) v207 x6_1) ∧ Aside0 (Kd.R Kd.bool 4 w' w.heap.size (fun _ => True) v210 y209) ∧ Aside0 (Kd.R k_Column 65 w' w.heap.size (fun _ => True) v213 x8_1) ∧ Aside0 (Below w.heap.size w w'))
  case atStart => exact ⟨(y206), (y212), (0), TF, H', ⟨Nat.le_refl _⟩, RW HO208, RW HO211, RW HO214, ⟨TB⟩⟩
  case round =>
   clear H'
   obtain ⟨x6_1, x8_1, x29_1, rfl, HA, HK1, HO_6, HO_7, HO_8, HB⟩ := hrel
   cases gk with
   | zero => exact absurd HA.out (by simp [spec_AliasOf.l0])
   | succ k1 =>
    have H := HA.out
    clear HA
    simp only [spec_AliasOf.l0] at H
    by_cases c15 : x29_1 < (l0.length : Int)
    ·rw [if_pos c15] at H
     have c15b0 : decide (x29_1 < (l0.length : Int)) = true := decide_eq_true c15
     clear c15
     obtain ⟨c16, H⟩ := ifn H
     have c16b0 : decide (0 ≤ x29_1) = true := decide_eq_true c16
     clear c16
     obtain ⟨c17, H⟩ := ifn H
     have c17b0 : decide (x29_1 < (l0.length : Int)) = true := decide_eq_true c17
     clear c17
     obtain ⟨c18, H⟩ := ifn H
     have c18b0 : decide (x29_1 < (x6_1.length : Int)) = true := decide_eq_true c18
     clear c18
     obtain ⟨y216, hy216⟩ : ∃ y_ : List Int, y_ = (x6_1.set (x29_1 : Int).toNat (wrap64 ((rd l0 x29_1) * (l0.length : Int)))) := ⟨_, rfl⟩
     replace H : (if x29_1 < (x8_1.length : Int) then (spec_AliasOf.l0 k1 (l0.length : Int) t205 y216 y209 (x8_1.set (x29_1 : Int).toNat (⟨t205, x29_1⟩ : S_Column)) l0 (l0.length : Int) (wrap64 (x29_1 + 1))) else (none)) = some (r1, r2) := by first | (rw [hy216]; with_reducible exact H) | (have H2_ := (Option.bind_some _ _).symm.trans H; rw [hy216]; with_reducible exact H2_) | (have H2_ := (Option.bind_some _ _).symm.trans H; with_reducible exact H2_) | with_reducible exact H | (rw [hy216]; exact H) | exact H
     have Ny216 := Aside0.mk hy216
     clear hy216
     obtain ⟨c20, H⟩ := ifn H
     have c20b0 : decide (x29_1 < (x8_1.length : Int)) = true := decide_eq_true c20
     clear c20
     obtain ⟨y217, hy217⟩ : ∃ y_ : List (S_Column), y_ = (x8_1.set (x29_1 : Int).toNat (⟨t205, x29_1⟩ : S_Column)) := ⟨_, rfl⟩
     replace H : (spec_AliasOf.l0 k1 (l0.length : Int) t205 y216 y209 y217 l0 (l0.length : Int) (wrap64 (x29_1 + 1))) = some (r1, r2) := by first | (rw [hy217]; with_reducible exact H) | (have H2_ := (Option.bind_some _ _).symm.trans H; rw [hy217]; with_reducible exact H2_) | (have H2_ := (Option.bind_some _ _).symm.trans H; with_reducible exact H2_) | with_reducible exact H | (rw [hy217]; exact H) | exact H
     have Ny217 := Aside0.mk hy217
     clear hy217
     have H' := Aside0.mk H
     clear H
     have p215 : 0 ≤ (x29_1 : Int) := TD
     have q215 : x29_1 < (l0.length : Int) := TD
     obtain ⟨ad215, e215, hx215_0⟩ := Kd.at_int (Kd.C_below HR0.out HB.out) x29_1 p215 q215
     cases e215
     replace p215 := eq_true p215
     replace q215 := eq_true q215
     have p19 : 0 ≤ (x29_1 : Int) := TD
     have q19 : (x29_1 : Int) < ((x6_1.length : Int) : Int) := TD
     obtain ⟨go19, co19, eo19, gb19, gl19, cl19, HG19⟩ := Kd.R_form HO_6.out (by omega)
     (first | cases eo19 | (injection eo19 with ea_ en_ ec_; (first | subst ea_ | (injection ea_ with ea_; subst ea_)); subst ec_; clear en_))
     have GB19 := Aside0.mk gb19
     have GG19 := Aside0.mk HG19
     clear gb19 gl19 HG19
     obtain ⟨hx19_0, hf19_0⟩ := Kd.R_celln 0 HO_6.out (x29_1 : Int) p19 q19
     replace p19 := eq_true p19
     replace q19 := eq_true q19
     have HP22 := Kd.R_putg HO_6.out (x29_1 : Int) (wrap64 ((rd l0 x29_1) * (l0.length : Int)))
     go_wp2_with (first | ((with_reducible refine gate_store (t := 3) (p := 39) rfl ?_); refine store_event (t := 3) (p := 39) (v := ?vo_w23) (w1 := (wr.setCell ⟨go19, (x29_1 : Int).toNat, none⟩ (.int .i64 (wrap64 ((rd l0 x29_1) * (l0.length : Int)))))) ?hg ?ho ?hn ?hr ?_; (case ho => rfl); (case hg => rfl); (case hn => rfl); (case hr => first | (go_simp; done) | (go_simp; rfl)); intro w23 hw; have hg : wr.grownBy w23 (some go19) := (by rw [hw]; exact HP22.2); have hp_ : Kd.R (Kd.int .i64) 3 w23 w.heap.size (fun _ => True) (.slice (some ⟨go19, 0, none⟩) x6_1.length co19) y216 := (by rw [hw, Ny216.out]; exact HP22.1); clear HP22; replace HO_7 := Aside0.mk (Kd.R_over' (v := (.slice (some ⟨go19, 0, none⟩) x6_1.length co19)) (RW HO_7).out (Kd.R_typed HO_6.out) (by decide) hg); replace HO_8 := Aside0.mk (Kd.R_over' (v := (.slice (some ⟨go19, 0, none⟩) x6_1.length co19)) (RW HO_8).out (Kd.R_typed HO_6.out) (by decide) hg); replace HO_6 := Aside0.mk (hp_); replace HB := Aside0.mk ((by rw [hw]; exact below_set (HB.out) GB19.out : Below w.heap.size w w23)); clear hg hw hp_; have p21 : 0 ≤ (x29_1 : Int) := TD; have q21 : (x29_1 : Int) < ((x8_1.length : Int) : Int) := TD; obtain ⟨go21, co21, eo21, gb21, gl21, cl21, HG21⟩ := Kd.R_form HO_8.out (by omega); (first | cases eo21 | (injection eo21 with ea_ en_ ec_; (first | subst ea_ | (injection ea_ with ea_; subst ea_)); subst ec_; clear en_)); have GB21 := Aside0.mk gb21; have GG21 := Aside0.mk HG21; clear gb21 gl21 HG21; obtain ⟨ce21, hcl21, hM21, hcc21, hfr21⟩ := Kd.R_elem HO_8.out z_Column (x29_1 : Int) p21 q21; obtain rfl := k_Column_openM hM21; have hx21_0 : w23.cell? ⟨go21, (x29_1 : Int).toNat * 2, none⟩ = some (.int .i64 ((rd_TColumn x8_1 x29_1).f0)) := hcc21 0 _ rfl; have hx21_1 : w23.cell? ⟨go21, (x29_1 : Int).toNat * 2 + 1, none⟩ = some (.int .i64 ((rd_TColumn x8_1 x29_1).f1)) := hcc21 1 _ rfl; have hf21_0 : w23.frozen? ⟨go21, (x29_1 : Int).toNat * 2, none⟩ = false := hfr21 0; have hf21_1 : w23.frozen? ⟨go21, (x29_1 : Int).toNat * 2 + 1, none⟩ = false := hfr21 1; clear hcl21 hcc21 hfr21 hM21; replace p21 := eq_true p21; replace q21 := eq_true q21; have HX24 := Aside0.mk (show Kd.R k_Column 65 w23 w.heap.size (fun _ => True) (.slice (some ⟨go21, 0, none⟩) x8_1.length co21) x8_1 from (RW HO_8).out); obtain ⟨ce24, hcl24, hM24, hcc24, hfr24⟩ := Kd.R_elem HX24.out z_Column (x29_1 : Int) TD (by have h_ : (x29_1 : Int) < ((x8_1.length : Int) : Int) := TD; first | exact h_ | (have e_ := (Kd.R_reads' HO_8.out).1; omega) | simpa using h_); obtain rfl := k_Column_openM hM24; have HP24 := Kd.R_seg HX24.out (x29_1 : Int) TD (by have h_ : (x29_1 : Int) < ((x8_1.length : Int) : Int) := TD; first | exact h_ | (have e_ := (Kd.R_reads' HO_8.out).1; omega) | simpa using h_) (seg := [.int .i64 t205, .int .i64 x29_1]) (j := 0) hcl24 hcc24 (show 2 ≤ 2 from by decide) (x' := (⟨t205, x29_1⟩ : S_Column)) (k_Column_mkM _ _ _ (⟨t205, x29_1⟩ : S_Column) ) (fun _ hk => hk); have hx24_0 := hcc24 0 _ rfl; (try simp only [show (k_Column).sz = 2 from rfl, Nat.mul_one, Nat.add_zero] at hx24_0); have hf24_0 := hfr24 0; (try simp only [show (k_Column).sz = 2 from rfl, Nat.mul_one, Nat.add_zero] at hf24_0); have hx24_1 := hcc24 1 _ rfl; (try simp only [show (k_Column).sz = 2 from rfl, Nat.mul_one, Nat.add_zero] at hx24_1); have hf24_1 := hfr24 1; (try simp only [show (k_Column).sz = 2 from rfl, Nat.mul_one, Nat.add_zero] at hf24_1); clear hcl24 hcc24 hfr24 hM24) | ((with_reducible refine gate_store (t := 65) (p := 45) rfl ?_); refine store_event (t := 65) (p := 45) (v := ?vo_w25) (w1 := ((w23.setCell ⟨go21, (x29_1 : Int).toNat * 2, none⟩ (.int .i64 t205)).setCell ⟨go21, (x29_1 : Int).toNat * 2 + 1, none⟩ (.int .i64 x29_1))) ?hg ?ho ?hn ?hr ?_; (case ho => rfl); (case hg => rfl); (case hn => rfl); (case hr => first | (go_simp; done) | (go_simp; rfl)); intro w25 hw; have hg : w23.grownBy w25 (some go21) := (by rw [hw]; exact HP24.2); have hp_ : Kd.R k_Column 65 w25 w.heap.size (fun _ => True) (.slice (some ⟨go21, 0, none⟩) x8_1.length co21) y217 := (by rw [hw, Ny217.out]; exact HP24.1); clear HP24; replace HO_6 := Aside0.mk (Kd.R_over' (v := (.slice (some ⟨go21, 0, none⟩) x8_1.length co21)) (RW HO_6).out (Kd.R_typed HO_8.out) (by decide) hg); replace HO_7 := Aside0.mk (Kd.R_over' (v := (.slice (some ⟨go21, 0, none⟩) x8_1.length co21)) (RW HO_7).out (Kd.R_typed HO_8.out) (by decide) hg); replace HO_8 := Aside0.mk (hp_); replace HB := Aside0.mk ((by rw [hw]; exact below_set (below_set (HB.out) GB21.out) GB21.out : Below w.heap.size w w25)); clear hg hw hp_))
     go_roundg k1
     case measure => have := HK1.out; omega
     case rel => exact ⟨(y216), (y217), (wrap64 (x29_1 + 1)), TF, H', ⟨TM⟩, RW HO_6, RW HO_7, RW HO_8, ⟨TB⟩⟩
    ·rw [if_neg c15] at H
     have c15b0 : decide (x29_1 < (l0.length : Int)) = false := decide_eq_false c15
     clear c15
     have H' := Aside0.mk H
     clear H
     go_wp2
     go_loopg [] k1 (fun kq w' => ∃ (x6_2 : List Int) (x7_2 : List Bool) (x8_2 : List (S_Column)), Aside0 (spec_AliasOf.l1 kq t205 x6_2 x7_2 x8_2 = some (r1, r2)) ∧ Aside0 (kq ≤ k1) ∧ Aside0 (Kd.R (Kd.int .i64) 3 w' w.heap.size (fun _ => True) v207 x6_2) ∧ Aside0 (Kd.R Kd.bool 4 w' w.heap.size (fun _ => True) v210 x7_2) ∧ Aside0 (Kd.R k_Column 65 w' w.heap.size (fun _ => True) v213 x8_2) ∧ Aside0 (Below w.heap.size w w'))
     case atStart => exact ⟨(x6_1), (y209), (x8_1), H', ⟨Nat.le_refl _⟩, RW HO_6, RW HO_7, RW HO_8, ⟨TB⟩⟩
     case round =>
      clear H'
      obtain ⟨x6_2, x7_2, x8_2, HA, HK2, HO_6, HO_7, HO_8, HB⟩ := hrel
      cases gk with
      | zero => exact absurd HA.out (by simp [spec_AliasOf.l1])
      | succ k2 =>
       have H := HA.out
       clear HA
       simp only [spec_AliasOf.l1] at H
       have H' := Aside0.mk H
       clear H
       obtain ⟨Ao26, co26, eo26⟩ := Kd.R_slice HO_6.out
       subst eo26
       go_wp2
       go_loopg [11, 12, 49] k2 (fun kq v11 v12 v49 w' => ∃ (x11_3 : Int) (x12_3 : Int) (x49_3 : Int), v11 = .int .i64 x11_3 ∧ v12 = .int .i64 x12_3 ∧ v49 = .int .i64 x49_3 ∧ Aside0 (spec_AliasOf.l2 kq t205 x6_2 x7_2 x8_2 x11_3 x12_3 (x6_2.length : Int) x49_3 = some (r1, r2)) ∧ Aside0 (kq ≤ k2) ∧ Aside0 (Kd.R (Kd.int .i64) 3 w' w.heap.size (fun _ => True) (.slice Ao26 x6_2.length co26) x6_2) ∧ Aside0 (Kd.R Kd.bool 4 w' w.heap.size (fun _ => True) v210 x7_2) ∧ Aside0 (Kd.R k_Column 65 w' w.heap.size (fun _ => True) v213 x8_2) ∧ Aside0 (Below w.heap.size w w'))
       case atStart => exact ⟨((-1)), ((-1)), (0), TF, TF, TF, H', ⟨Nat.le_refl _⟩, RW HO_6, RW HO_7, RW HO_8, ⟨TB⟩⟩
       case round =>
        clear H'
        obtain ⟨x11_3, x12_3, x49_3, rfl, rfl, rfl, HA, HK3, HO_6, HO_7, HO_8, HB⟩ := hrel
        cases gk with
        | zero => exact absurd HA.out (by simp [spec_AliasOf.l2])
        | succ k3 =>
         have H := HA.out
         clear HA
         simp only [spec_AliasOf.l2] at H
         by_cases c27 : x49_3 < (x6_2.length : Int)
         ·rw [if_pos c27] at H
          have c27b0 : decide (x49_3 < (x6_2.length : Int)) = true := decide_eq_true c27
          clear c27
          obtain ⟨c28, H⟩ := ifn H
          have c28b0 : decide (0 ≤ x49_3) = true := decide_eq_true c28
          clear c28
          obtain ⟨c29, H⟩ := ifn H
          have c29b0 : decide (x49_3 < (x7_2.length : Int)) = true := decide_eq_true c29
          clear c29
          obtain ⟨bq30, hbq30⟩ : ∃ b_ : Bool, b_ = (rdOf false x7_2 x49_3) := ⟨_, rfl⟩
          replace H : (if bq30 = true then (spec_AliasOf.l2 k3 t205 x6_2 x7_2 x8_2 x11_3 x12_3 (x6_2.length : Int) (wrap64 (x49_3 + 1))) else (if x49_3 < (x6_2.length : Int) then (if (rd x6_2 x49_3) < t205 then (spec_AliasOf.j3 k3 t205 x6_2 x7_2 x8_2 x11_3 x12_3 x49_3 (x6_2.length : Int) x49_3 (decide (x11_3 < 0))) else (spec_AliasOf.j3 k3 t205 x6_2 x7_2 x8_2 x11_3 x12_3 x49_3 (x6_2.length : Int) x49_3 false)) else (none))) = some (r1, r2) := by rw [← hbq30] at H; exact H
          have Nbq30 := Aside0.mk hbq30
          clear hbq30
          by_cases c31 : bq30 = true
          ·subst c31
           replace H := ift H
           have H' := Aside0.mk H
           clear H
           obtain ⟨Ao32, co32, eo32⟩ := Kd.R_slice HO_7.out
           subst eo32
           have p224 : 0 ≤ (x49_3 : Int) := TD
           have q224 : x49_3 < (x7_2.length : Int) := TD
           obtain ⟨ad224, e224, hx224_0⟩ := Kd.at_bool (Kd.R_reads' HO_7.out).2.2 x49_3 p224 q224
           (try rw [← Nbq30.out] at hx224_0)
           cases e224
           replace p224 := eq_true p224
           replace q224 := eq_true q224
           go_wp2
           go_roundg k3
           case measure => have := HK1.out; have := HK2.out; have := HK3.out; omega
           case rel => exact ⟨(x11_3), (x12_3), (wrap64 (x49_3 + 1)), TF, TF, TF, H', ⟨by have := HK1.out; have := HK2.out; have := HK3.out; omega⟩, RW HO_6, RW HO_7, RW HO_8, ⟨TB⟩⟩
          ·replace c31 := Bool.eq_false_iff.mpr c31
           subst c31
           replace H := iff' H
           have HC33 := Aside0.mk H
           clear H
           obtain ⟨Ao34, co34, eo34⟩ := Kd.R_slice HO_7.out
           subst eo34
           have p224 : 0 ≤ (x49_3 : Int) := TD
           have q224 : x49_3 < (x7_2.length : Int) := TD
           obtain ⟨ad224, e224, hx224_0⟩ := Kd.at_bool (Kd.R_reads' HO_7.out).2.2 x49_3 p224 q224
           (try rw [← Nbq30.out] at hx224_0)
           cases e224
           replace p224 := eq_true p224
           replace q224 := eq_true q224
           go_upto_region 20 with (fail)
           go_cut [65] (fun v65 wc => ∃ (kq : Nat) (x65_32 : Bool), v65 = .bool x65_32 ∧ Aside0 (spec_AliasOf.j3 kq t205 x6_2 x7_2 x8_2 x11_3 x12_3 x49_3 (x6_2.length : Int) x49_3 x65_32 = some (r1, r2)) ∧ Aside0 (kq ≤ k3) ∧ Aside0 (Kd.R (Kd.int .i64) 3 wc w.heap.size (fun _ => True) (.slice Ao26 x6_2.length co26) x6_2) ∧ Aside0 (Kd.R Kd.bool 4 wc w.heap.size (fun _ => True) (.slice (some ad224) x7_2.length co34) x7_2) ∧ Aside0 (Kd.R k_Column 65 wc w.heap.size (fun _ => True) v213 x8_2) ∧ Aside0 (Below w.heap.size w wc))
           case first =>
            have H := HC33.out
            clear HC33
            obtain ⟨c35, H⟩ := ifn H
            have c35b0 : decide (x49_3 < (x6_2.length : Int)) = true := decide_eq_true c35
            clear c35
            (first | rw [c35b0] | (simp only [i64_w, i32_w]; rw [c35b0]) | skip)
            by_cases c36 : (rd x6_2 x49_3) < t205
            ·rw [if_pos c36] at H
             have c36b0 : decide ((rd x6_2 x49_3) < t205) = true := decide_eq_true c36
             clear c36
             have H' := Aside0.mk H
             clear H
             have p225 : 0 ≤ (x49_3 : Int) := TD
             have q225 : x49_3 < (x6_2.length : Int) := TD
             obtain ⟨ad225, e225, hx225_0⟩ := Kd.at_int (Kd.R_reads' HO_6.out).2.2 x49_3 p225 q225
             cases e225
             replace p225 := eq_true p225
             replace q225 := eq_true q225
             go_wp2
             go_meet
             case rel => exact ⟨_, (decide (x11_3 < 0)), TF, H', ⟨by have := HK1.out; have := HK2.out; have := HK3.out; first | omega | exact Nat.le_refl _⟩, RW HO_6, RW HO_7, RW HO_8, ⟨TB⟩⟩
            ·rw [if_neg c36] at H
             have c36b0 : decide ((rd x6_2 x49_3) < t205) = false := decide_eq_false c36
             clear c36
             have H' := Aside0.mk H
             clear H
             have p225 : 0 ≤ (x49_3 : Int) := TD
             have q225 : x49_3 < (x6_2.length : Int) := TD
             obtain ⟨ad225, e225, hx225_0⟩ := Kd.at_int (Kd.R_reads' HO_6.out).2.2 x49_3 p225 q225
             cases e225
             replace p225 := eq_true p225
             replace q225 := eq_true q225
             go_wp2
             go_meet
             case rel => exact ⟨_, (false), TF, H', ⟨by have := HK1.out; have := HK2.out; have := HK3.out; first | omega | exact Nat.le_refl _⟩, RW HO_6, RW HO_7, RW HO_8, ⟨TB⟩⟩
           case rest =>
            clear HC33
            obtain ⟨kq, x65_32, rfl, HA, HJ32, HO_6, HO_7, HO_8, HB⟩ := hcut
            cases kq with
            | zero => exact absurd HA.out (by simp [spec_AliasOf.j3])
            | succ kj32 =>
             have H := HA.out
             clear HA
             simp only [spec_AliasOf.j3] at H
             by_cases c37 : x65_32 = true
             ·subst c37
              replace H := ift H
              obtain ⟨c38, H⟩ := ifn H
              have c38b0 : decide (0 ≤ x49_3) = true := decide_eq_true c38
              clear c38
              obtain ⟨c39, H⟩ := ifn H
              have c39b0 : decide (x49_3 < (x6_2.length : Int)) = true := decide_eq_true c39
              clear c39
              by_cases c40 : (rd x6_2 x49_3) > t205
              ·rw [if_pos c40] at H
               have c40b0 : decide (t205 < (rd x6_2 x49_3)) = true := decide_eq_true c40
               clear c40
               by_cases c41 : x12_3 < 0
               ·rw [if_pos c41] at H
                have c41b0 : decide (x12_3 < 0) = true := decide_eq_true c41
                clear c41
                have H' := Aside0.mk H
                clear H
                have p226 : 0 ≤ (x49_3 : Int) := TD
                have q226 : x49_3 < (x6_2.length : Int) := TD
                obtain ⟨ad226, e226, hx226_0⟩ := Kd.at_int (Kd.R_reads' HO_6.out).2.2 x49_3 p226 q226
                cases e226
                replace p226 := eq_true p226
                replace q226 := eq_true q226
                go_wp2
                go_roundg kj32
                case measure => have := HK1.out; have := HK2.out; have := HK3.out; have := HJ32.out; omega
                case rel => exact ⟨(x49_3), (x49_3), (wrap64 (x49_3 + 1)), TF, TF, TF, H', ⟨by have := HK1.out; have := HK2.out; have := HK3.out; have := HJ32.out; omega⟩, RW HO_6, RW HO_7, RW HO_8, ⟨TB⟩⟩
               ·rw [if_neg c41] at H
                have c41b0 : decide (x12_3 < 0) = false := decide_eq_false c41
                clear c41
                have H' := Aside0.mk H
                clear H
                have p226 : 0 ≤ (x49_3 : Int) := TD
                have q226 : x49_3 < (x6_2.length : Int) := TD
                obtain ⟨ad226, e226, hx226_0⟩ := Kd.at_int (Kd.R_reads' HO_6.out).2.2 x49_3 p226 q226
                cases e226
                replace p226 := eq_true p226
                replace q226 := eq_true q226
                go_wp2
                go_roundg kj32
                case measure => have := HK1.out; have := HK2.out; have := HK3.out; have := HJ32.out; omega
                case rel => exact ⟨(x49_3), (x12_3), (wrap64 (x49_3 + 1)), TF, TF, TF, H', ⟨by have := HK1.out; have := HK2.out; have := HK3.out; have := HJ32.out; omega⟩, RW HO_6, RW HO_7, RW HO_8, ⟨TB⟩⟩
              ·rw [if_neg c40] at H
               have c40b0 : decide (t205 < (rd x6_2 x49_3)) = false := decide_eq_false c40
               clear c40
               have H' := Aside0.mk H
               clear H
               have p226 : 0 ≤ (x49_3 : Int) := TD
               have q226 : x49_3 < (x6_2.length : Int) := TD
               obtain ⟨ad226, e226, hx226_0⟩ := Kd.at_int (Kd.R_reads' HO_6.out).2.2 x49_3 p226 q226
               cases e226
               replace p226 := eq_true p226
               replace q226 := eq_true q226
               go_wp2
               go_roundg kj32
               case measure => have := HK1.out; have := HK2.out; have := HK3.out; have := HJ32.out; omega
               case rel => exact ⟨(x49_3), (x12_3), (wrap64 (x49_3 + 1)), TF, TF, TF, H', ⟨by have := HK1.out; have := HK2.out; have := HK3.out; have := HJ32.out; omega⟩, RW HO_6, RW HO_7, RW HO_8, ⟨TB⟩⟩
             ·replace c37 := Bool.eq_false_iff.mpr c37
              subst c37
              replace H := iff' H
              obtain ⟨c42, H⟩ := ifn H
              have c42b0 : decide (0 ≤ x49_3) = true := decide_eq_true c42
              clear c42
              obtain ⟨c43, H⟩ := ifn H
              have c43b0 : decide (x49_3 < (x6_2.length : Int)) = true := decide_eq_true c43
              clear c43
              by_cases c44 : (rd x6_2 x49_3) > t205
              ·rw [if_pos c44] at H
               have c44b0 : decide (t205 < (rd x6_2 x49_3)) = true := decide_eq_true c44
               clear c44
               by_cases c45 : x12_3 < 0
               ·rw [if_pos c45] at H
                have c45b0 : decide (x12_3 < 0) = true := decide_eq_true c45
                clear c45
                have H' := Aside0.mk H
                clear H
                have p227 : 0 ≤ (x49_3 : Int) := TD
                have q227 : x49_3 < (x6_2.length : Int) := TD
                obtain ⟨ad227, e227, hx227_0⟩ := Kd.at_int (Kd.R_reads' HO_6.out).2.2 x49_3 p227 q227
                cases e227
                replace p227 := eq_true p227
                replace q227 := eq_true q227
                go_wp2
                go_roundg kj32
                case measure => have := HK1.out; have := HK2.out; have := HK3.out; have := HJ32.out; omega
                case rel => exact ⟨(x11_3), (x49_3), (wrap64 (x49_3 + 1)), TF, TF, TF, H', ⟨by have := HK1.out; have := HK2.out; have := HK3.out; have := HJ32.out; omega⟩, RW HO_6, RW HO_7, RW HO_8, ⟨TB⟩⟩
               ·rw [if_neg c45] at H
                have c45b0 : decide (x12_3 < 0) = false := decide_eq_false c45
                clear c45
                have H' := Aside0.mk H
                clear H
                have p227 : 0 ≤ (x49_3 : Int) := TD
                have q227 : x49_3 < (x6_2.length : Int) := TD
                obtain ⟨ad227, e227, hx227_0⟩ := Kd.at_int (Kd.R_reads' HO_6.out).2.2 x49_3 p227 q227
                cases e227
                replace p227 := eq_true p227
                replace q227 := eq_true q227
                go_wp2
                go_roundg kj32
                case measure => have := HK1.out; have := HK2.out; have := HK3.out; have := HJ32.out; omega
                case rel => exact ⟨(x11_3), (x12_3), (wrap64 (x49_3 + 1)), TF, TF, TF, H', ⟨by have := HK1.out; have := HK2.out; have := HK3.out; have := HJ32.out; omega⟩, RW HO_6, RW HO_7, RW HO_8, ⟨TB⟩⟩
              ·rw [if_neg c44] at H
               have c44b0 : decide (t205 < (rd x6_2 x49_3)) = false := decide_eq_false c44
               clear c44
               have H' := Aside0.mk H
               clear H
               have p227 : 0 ≤ (x49_3 : Int) := TD
               have q227 : x49_3 < (x6_2.length : Int) := TD
               obtain ⟨ad227, e227, hx227_0⟩ := Kd.at_int (Kd.R_reads' HO_6.out).2.2 x49_3 p227 q227
               cases e227
               replace p227 := eq_true p227
               replace q227 := eq_true q227
               go_wp2
               go_roundg kj32
               case measure => have := HK1.out; have := HK2.out; have := HK3.out; have := HJ32.out; omega
               case rel => exact ⟨(x11_3), (x12_3), (wrap64 (x49_3 + 1)), TF, TF, TF, H', ⟨by have := HK1.out; have := HK2.out; have := HK3.out; have := HJ32.out; omega⟩, RW HO_6, RW HO_7, RW HO_8, ⟨TB⟩⟩
         ·rw [if_neg c27] at H
          have c27b0 : decide (x49_3 < (x6_2.length : Int)) = false := decide_eq_false c27
          clear c27
          by_cases c46 : x11_3 < 0
          ·rw [if_pos c46] at H
           have c46b0 : decide (x11_3 < 0) = true := decide_eq_true c46
           clear c46
           simp only [Option.some.injEq, Prod.mk.injEq] at H
           obtain ⟨rfl, rfl⟩ := H
           go_wp2
           go_ret2
           exact ⟨_, TE, (RW HO_8).out, TB⟩
          ·rw [if_neg c46] at H
           have c46b0 : decide (x11_3 < 0) = false := decide_eq_false c46
           clear c46
           by_cases c47 : x12_3 < 0
           ·rw [if_pos c47] at H
            have c47b0 : decide (x12_3 < 0) = true := decide_eq_true c47
            clear c47
            simp only [Option.some.injEq, Prod.mk.injEq] at H
            obtain ⟨rfl, rfl⟩ := H
            go_wp2
            go_ret2
            exact ⟨_, TE, (RW HO_8).out, TB⟩
           ·rw [if_neg c47] at H
            have c47b0 : decide (x12_3 < 0) = false := decide_eq_false c47
            clear c47
            obtain ⟨c48, H⟩ := ifn H
            have c48b0 : decide (0 ≤ x11_3) = true := decide_eq_true c48
            clear c48
            obtain ⟨c49, H⟩ := ifn H
            have c49b0 : decide (x11_3 < (x6_2.length : Int)) = true := decide_eq_true c49
            clear c49
            obtain ⟨c50, H⟩ := ifn H
            have c50b0 : decide (x11_3 < (x8_2.length : Int)) = true := decide_eq_true c50
            clear c50
            obtain ⟨y219, hy219⟩ : ∃ y_ : List (S_Column), y_ = (x8_2.set (x11_3 : Int).toNat (⟨rd x6_2 x11_3, x12_3⟩ : S_Column)) := ⟨_, rfl⟩
            replace H : (if 0 ≤ x12_3 then (if x12_3 < (x6_2.length : Int) then (if x11_3 < (x7_2.length : Int) then (spec_AliasOf.l1 k3 t205 (x6_2.set (x12_3 : Int).toNat (wrap64 ((rd x6_2 x12_3) - (wrap64 (t205 - (rd x6_2 x11_3)))))) (x7_2.set (x11_3 : Int).toNat true) y219) else (none)) else (none)) else (none)) = some (r1, r2) := by first | (rw [hy219]; with_reducible exact H) | (have H2_ := (Option.bind_some _ _).symm.trans H; rw [hy219]; with_reducible exact H2_) | (have H2_ := (Option.bind_some _ _).symm.trans H; with_reducible exact H2_) | with_reducible exact H | (rw [hy219]; exact H) | exact H
            have Ny219 := Aside0.mk hy219
            clear hy219
            obtain ⟨c52, H⟩ := ifn H
            have c52b0 : decide (0 ≤ x12_3) = true := decide_eq_true c52
            clear c52
            obtain ⟨c53, H⟩ := ifn H
            have c53b0 : decide (x12_3 < (x6_2.length : Int)) = true := decide_eq_true c53
            clear c53
            obtain ⟨y222, hy222⟩ : ∃ y_ : List Int, y_ = (x6_2.set (x12_3 : Int).toNat (wrap64 ((rd x6_2 x12_3) - (wrap64 (t205 - (rd x6_2 x11_3)))))) := ⟨_, rfl⟩
            replace H : (if x11_3 < (x7_2.length : Int) then (spec_AliasOf.l1 k3 t205 y222 (x7_2.set (x11_3 : Int).toNat true) y219) else (none)) = some (r1, r2) := by first | (rw [hy222]; with_reducible exact H) | (have H2_ := (Option.bind_some _ _).symm.trans H; rw [hy222]; with_reducible exact H2_) | (have H2_ := (Option.bind_some _ _).symm.trans H; with_reducible exact H2_) | with_reducible exact H | (rw [hy222]; exact H) | exact H
            have Ny222 := Aside0.mk hy222
            clear hy222
            obtain ⟨c55, H⟩ := ifn H
            have c55b0 : decide (x11_3 < (x7_2.length : Int)) = true := decide_eq_true c55
            clear c55
            obtain ⟨y223, hy223⟩ : ∃ y_ : List Bool, y_ = (x7_2.set (x11_3 : Int).toNat true) := ⟨_, rfl⟩
            replace H : (spec_AliasOf.l1 k3 t205 y222 y223 y219) = some (r1, r2) := by first | (rw [hy223]; with_reducible exact H) | (have H2_ := (Option.bind_some _ _).symm.trans H; rw [hy223]; with_reducible exact H2_) | (have H2_ := (Option.bind_some _ _).symm.trans H; with_reducible exact H2_) | with_reducible exact H | (rw [hy223]; exact H) | exact H
            have Ny223 := Aside0.mk hy223
            clear hy223
            have H' := Aside0.mk H
            clear H
            have p218 : 0 ≤ (x11_3 : Int) := TD
            have q218 : x11_3 < (x6_2.length : Int) := TD
            obtain ⟨ad218, e218, hx218_0⟩ := Kd.at_int (Kd.R_reads' HO_6.out).2.2 x11_3 p218 q218
            cases e218
            replace p218 := eq_true p218
            replace q218 := eq_true q218
            have p51 : 0 ≤ (x11_3 : Int) := TD
            have q51 : (x11_3 : Int) < ((x8_2.length : Int) : Int) := TD
            obtain ⟨go51, co51, eo51, gb51, gl51, cl51, HG51⟩ := Kd.R_form HO_8.out (by omega)
            (first | cases eo51 | (injection eo51 with ea_ en_ ec_; (first | subst ea_ | (injection ea_ with ea_; subst ea_)); subst ec_; clear en_))
            have GB51 := Aside0.mk gb51
            have GG51 := Aside0.mk HG51
            clear gb51 gl51 HG51
            obtain ⟨ce51, hcl51, hM51, hcc51, hfr51⟩ := Kd.R_elem HO_8.out z_Column (x11_3 : Int) p51 q51
            obtain rfl := k_Column_openM hM51
            have hx51_0 : wr.cell? ⟨go51, (x11_3 : Int).toNat * 2, none⟩ = some (.int .i64 ((rd_TColumn x8_2 x11_3).f0)) := hcc51 0 _ rfl
            have hx51_1 : wr.cell? ⟨go51, (x11_3 : Int).toNat * 2 + 1, none⟩ = some (.int .i64 ((rd_TColumn x8_2 x11_3).f1)) := hcc51 1 _ rfl
            have hf51_0 : wr.frozen? ⟨go51, (x11_3 : Int).toNat * 2, none⟩ = false := hfr51 0
            have hf51_1 : wr.frozen? ⟨go51, (x11_3 : Int).toNat * 2 + 1, none⟩ = false := hfr51 1
            clear hcl51 hcc51 hfr51 hM51
            replace p51 := eq_true p51
            replace q51 := eq_true q51
            have HX57 := Aside0.mk (show Kd.R k_Column 65 wr w.heap.size (fun _ => True) (.slice (some ⟨go51, 0, none⟩) x8_2.length co51) x8_2 from (RW HO_8).out)
            obtain ⟨ce57, hcl57, hM57, hcc57, hfr57⟩ := Kd.R_elem HX57.out z_Column (x11_3 : Int) TD (by have h_ : (x11_3 : Int) < ((x8_2.length : Int) : Int) := TD; first | exact h_ | (have e_ := (Kd.R_reads' HO_8.out).1; omega) | simpa using h_)
            obtain rfl := k_Column_openM hM57
            have HP57 := Kd.R_seg HX57.out (x11_3 : Int) TD (by have h_ : (x11_3 : Int) < ((x8_2.length : Int) : Int) := TD; first | exact h_ | (have e_ := (Kd.R_reads' HO_8.out).1; omega) | simpa using h_) (seg := [.int .i64 (rd x6_2 x11_3), .int .i64 x12_3]) (j := 0) hcl57 hcc57 (show 2 ≤ 2 from by decide) (x' := (⟨rd x6_2 x11_3, x12_3⟩ : S_Column)) (k_Column_mkM _ _ _ (⟨rd x6_2 x11_3, x12_3⟩ : S_Column) ) (fun _ hk => hk)
            have hx57_0 := hcc57 0 _ rfl
            (try simp only [show (k_Column).sz = 2 from rfl, Nat.mul_one, Nat.add_zero] at hx57_0)
            have hf57_0 := hfr57 0
            (try simp only [show (k_Column).sz = 2 from rfl, Nat.mul_one, Nat.add_zero] at hf57_0)
            have hx57_1 := hcc57 1 _ rfl
            (try simp only [show (k_Column).sz = 2 from rfl, Nat.mul_one, Nat.add_zero] at hx57_1)
            have hf57_1 := hfr57 1
            (try simp only [show (k_Column).sz = 2 from rfl, Nat.mul_one, Nat.add_zero] at hf57_1)
            clear hcl57 hcc57 hfr57 hM57
            try go_wp2_with (first | ((with_reducible refine gate_store (t := 65) (p := 94) rfl ?_); refine store_event (t := 65) (p := 94) (v := ?vo_w58) (w1 := ((wr.setCell ⟨go51, (x11_3 : Int).toNat * 2, none⟩ (.int .i64 (rd x6_2 x11_3))).setCell ⟨go51, (x11_3 : Int).toNat * 2 + 1, none⟩ (.int .i64 x12_3))) ?hg ?ho ?hn ?hr ?_; (case ho => rfl); (case hg => rfl); (case hn => rfl); (case hr => first | (go_simp; done) | (go_simp; rfl)); intro w58 hw; have hg : wr.grownBy w58 (some go51) := (by rw [hw]; exact HP57.2); have hp_ : Kd.R k_Column 65 w58 w.heap.size (fun _ => True) (.slice (some ⟨go51, 0, none⟩) x8_2.length co51) y219 := (by rw [hw, Ny219.out]; exact HP57.1); clear HP57; replace HO_6 := Aside0.mk (Kd.R_over' (v := (.slice (some ⟨go51, 0, none⟩) x8_2.length co51)) (RW HO_6).out (Kd.R_typed HO_8.out) (by decide) hg); replace HO_7 := Aside0.mk (Kd.R_over' (v := (.slice (some ⟨go51, 0, none⟩) x8_2.length co51)) (RW HO_7).out (Kd.R_typed HO_8.out) (by decide) hg); replace HO_8 := Aside0.mk (hp_); replace HB := Aside0.mk ((by rw [hw]; exact below_set (below_set (HB.out) GB51.out) GB51.out : Below w.heap.size w w58)); clear hg hw hp_))
            replace HO_6 := Aside0.mk (Kd.R_drew HO_6.out)
            replace HO_7 := Aside0.mk (Kd.R_drew HO_7.out)
            replace HO_8 := Aside0.mk (Kd.R_drew HO_8.out)
            replace HB := Aside0.mk (below_drew1 HB.out)
            have p220 : 0 ≤ (x12_3 : Int) := TD
            have q220 : x12_3 < (x6_2.length : Int) := TD
            obtain ⟨ad220, e220, hx220_0⟩ := Kd.at_int (Kd.R_reads' HO_6.out).2.2 x12_3 p220 q220
            obtain rfl : ad218 = ad220 := (by injection e220)
            replace p220 := eq_true p220
            replace q220 := eq_true q220
            have p221 : 0 ≤ (x11_3 : Int) := TD
            have q221 : x11_3 < (x6_2.length : Int) := TD
            obtain ⟨ad221, e221, hx221_0⟩ := Kd.at_int (Kd.R_reads' HO_6.out).2.2 x11_3 p221 q221
            obtain rfl : ad218 = ad221 := (by injection e221)
            replace p221 := eq_true p221
            replace q221 := eq_true q221
            have p54 : 0 ≤ (x12_3 : Int) := TD
            have q54 : (x12_3 : Int) < ((x6_2.length : Int) : Int) := TD
            obtain ⟨go54, co54, eo54, gb54, gl54, cl54, HG54⟩ := Kd.R_form HO_6.out (by omega)
            (first | cases eo54 | (injection eo54 with ea_ en_ ec_; (first | subst ea_ | (injection ea_ with ea_; subst ea_)); subst ec_; clear en_))
            have GB54 := Aside0.mk gb54
            have GG54 := Aside0.mk HG54
            clear gb54 gl54 HG54
            (first | simp only [add_plain] at hx218_0 | skip)
            (first | simp only [add_plain] at hx220_0 | skip)
            (first | simp only [add_plain] at hx221_0 | skip)
            obtain ⟨hx54_0, hf54_0⟩ := Kd.R_celln 0 HO_6.out (x12_3 : Int) p54 q54
            replace p54 := eq_true p54
            replace q54 := eq_true q54
            have HP60 := Kd.R_putn HO_6.out (x12_3 : Int) (wrap64 ((rd x6_2 x12_3) - (wrap64 (t205 - (rd x6_2 x11_3)))))
            rw [← Ny222.out] at HP60
            have HQ60 := Aside0.mk HP60
            clear HP60
            refine start_ (n := 13) (S := fun w' => w'.cell? ⟨go54, (x12_3).toNat, none⟩ = some (.int .i64 (rd x6_2 x12_3)) ∧ w'.cell? ⟨go54, (x11_3).toNat, none⟩ = some (.int .i64 (rd x6_2 x11_3))) (ds := [12]) #[false, false, false, false, false, false, false, false, false, false, false, false, false] KR rfl rfl ⟨hx220_0, hx221_0⟩ (fun hHeld => ?_); refine with_tabW spec_AliasOf.tab28 spec_AliasOf.bits28 (fun HT_ HW_ => ?_)
            generalize w58.drew = w59 at HO_6 HO_7 HO_8 HB GG54 HQ60 hf54_0 hx218_0 hx220_0 hx221_0 hx54_0 hHeld ⊢
            refine pA 0 95 (mL 13 1) HT_ rfl rfl ?_
            refine pA 1 96 (mL 13 3) HT_ rfl rfl ?_
            refine pA 2 97 (mL 13 7) HT_ rfl rfl ?_
            refine pA 4 99 (mL 13 23) HT_ rfl rfl ?_
            refine pA 5 100 (mL 13 55) HT_ rfl rfl ?_
            refine pA 6 101 (mL 13 119) HT_ rfl rfl ?_
            refine pA 7 102 (mL 13 247) HT_ rfl rfl ?_
            refine tA 3 98 (mL 13 255) HT_ HW_ hHeld rfl rfl (by rintro w' ⟨s0, s1⟩; go_simp; with_reducible rfl) ?_
            refine tA 8 103 (mL 13 511) HT_ HW_ hHeld rfl rfl (by rintro w' ⟨s0, s1⟩; go_simp; with_reducible rfl) ?_
            refine pA 9 104 (mL 13 1023) HT_ rfl rfl ?_
            refine pA 10 105 (mL 13 2047) HT_ rfl rfl ?_
            refine pA 11 106 (mL 13 4095) HT_ rfl rfl ?_
            refine last_ (i := 12) (N := none) (mL 13 8191) rfl rfl (one_of HT_.out KR) (by decide) (fun K hK => ?_)
            refine skip_ (w1 := ?_) (by rfl) rfl ?_ ?_
            rotate_left
            ·go_simp
             rfl
            refine hK.out _ _ ?_
            clear hK K
            refine done_ (done_of HT_.out KR) ?_
            have n0_ : Aside0 (Kd.R (Kd.int .i64) 3 (w59.setCell ⟨go54, (x12_3 : Int).toNat, none⟩ (.int .i64 (wrap64 ((rd x6_2 x12_3) - (wrap64 (t205 - (rd x6_2 x11_3))))))) w.heap.size (fun _ => True) (.slice (some ⟨go54, 0, none⟩) x6_2.length co26) y222) := RW HQ60
            have n1_ : Aside0 (Kd.R Kd.bool 4 (w59.setCell ⟨go54, (x12_3 : Int).toNat, none⟩ (.int .i64 (wrap64 ((rd x6_2 x12_3) - (wrap64 (t205 - (rd x6_2 x11_3))))))) w.heap.size (fun _ => True) v210 x7_2) := ⟨by (with_reducible repeat (first | apply Kd.R_alloc | apply Kd.R_drewN | apply Kd.R_drew)); exact Kd.R_mono (Kd.R_far (p := ⟨go54, (x12_3 : Int).toNat, none⟩) (Kd.R_types HO_7.out GG54.out (by decide)) (fun _ hk => hk.2) (.int .i64 (wrap64 ((rd x6_2 x12_3) - (wrap64 (t205 - (rd x6_2 x11_3))))))) (fun _ hk => trivial)⟩
            have n2_ : Aside0 (Kd.R k_Column 65 (w59.setCell ⟨go54, (x12_3 : Int).toNat, none⟩ (.int .i64 (wrap64 ((rd x6_2 x12_3) - (wrap64 (t205 - (rd x6_2 x11_3))))))) w.heap.size (fun _ => True) (.slice (some ⟨go51, 0, none⟩) x8_2.length co51) y219) := ⟨by (with_reducible repeat (first | apply Kd.R_alloc | apply Kd.R_drewN | apply Kd.R_drew)); exact Kd.R_mono (Kd.R_far (p := ⟨go54, (x12_3 : Int).toNat, none⟩) (Kd.R_types HO_8.out GG54.out (by decide)) (fun _ hk => hk.2) (.int .i64 (wrap64 ((rd x6_2 x12_3) - (wrap64 (t205 - (rd x6_2 x11_3))))))) (fun _ hk => trivial)⟩
            have n3_ : Aside0 (Below w.heap.size w (w59.setCell ⟨go54, (x12_3 : Int).toNat, none⟩ (.int .i64 (wrap64 ((rd x6_2 x12_3) - (wrap64 (t205 - (rd x6_2 x11_3)))))))) := ⟨TB⟩
            (try clear HO_6)
            (try clear HO_7)
            (try clear HO_8)
            (try clear HB)
            generalize (w59.setCell ⟨go54, (x12_3 : Int).toNat, none⟩ (.int .i64 (wrap64 ((rd x6_2 x12_3) - (wrap64 (t205 - (rd x6_2 x11_3))))))) = w61 at n0_ n1_ n2_ n3_ ⊢
            have HO_6 := n0_
            have HO_7 := n1_
            have HO_8 := n2_
            have HB := n3_
            clear n0_ n1_ n2_ n3_
            have p56 : 0 ≤ (x11_3 : Int) := TD
            have q56 : (x11_3 : Int) < ((x7_2.length : Int) : Int) := TD
            obtain ⟨go56, co56, eo56, gb56, gl56, cl56, HG56⟩ := Kd.R_form HO_7.out (by omega)
            (first | cases eo56 | (injection eo56 with ea_ en_ ec_; (first | subst ea_ | (injection ea_ with ea_; subst ea_)); subst ec_; clear en_))
            have GB56 := Aside0.mk gb56
            have GG56 := Aside0.mk HG56
            clear gb56 gl56 HG56
            obtain ⟨hx56_0, hf56_0⟩ := Kd.R_celln false HO_7.out (x11_3 : Int) p56 q56
            replace p56 := eq_true p56
            replace q56 := eq_true q56
            obtain ⟨hy62_, hz62_⟩ := Kd.R_celln false HO_7.out (x11_3 : Int) TD TD
            have HP62 := Kd.R_putg HO_7.out (x11_3 : Int) true
            try go_wp2_with (first | ((with_reducible refine gate_store (t := 4) (p := 109) rfl ?_); refine store_event (t := 4) (p := 109) (v := ?vo_w63) (w1 := (w61.setCell ⟨go56, (x11_3 : Int).toNat, none⟩ (.bool true))) ?hg ?ho ?hn ?hr ?_; (case ho => rfl); (case hg => rfl); (case hn => rfl); (case hr => first | (go_simp; done) | (go_simp; rfl)); intro w63 hw; have hg : w61.grownBy w63 (some go56) := (by rw [hw]; exact HP62.2); have hp_ : Kd.R Kd.bool 4 w63 w.heap.size (fun _ => True) (.slice (some ⟨go56, 0, none⟩) x7_2.length co56) y223 := (by rw [hw, Ny223.out]; exact HP62.1); clear HP62; replace HO_6 := Aside0.mk (Kd.R_over' (v := (.slice (some ⟨go56, 0, none⟩) x7_2.length co56)) (RW HO_6).out (Kd.R_typed HO_7.out) (by decide) hg); replace HO_8 := Aside0.mk (Kd.R_over' (v := (.slice (some ⟨go56, 0, none⟩) x7_2.length co56)) (RW HO_8).out (Kd.R_typed HO_7.out) (by decide) hg); replace HO_7 := Aside0.mk (hp_); replace HB := Aside0.mk ((by rw [hw]; exact below_set (HB.out) GB56.out : Below w.heap.size w w63)); clear hg hw hp_))
            go_roundg k3
            case measure => have := HK1.out; have := HK2.out; have := HK3.out; omega
            case rel => exact ⟨(y222), (y223), (y219), H', ⟨by have := HK1.out; have := HK2.out; have := HK3.out; omega⟩, RW HO_6, RW HO_7, RW HO_8, ⟨TB⟩⟩
 ·replace c3 := Bool.eq_false_iff.mpr c3
  subst c3
  replace H := iff' H
  simp only [Option.some.injEq, Prod.mk.injEq] at H
  obtain ⟨rfl, rfl⟩ := H
  go_enter Try.func42, Try.ntmps42
  go_wp2_with (first | ((with_reducible refine gate_callee (f := 15) rfl ?_); refine goesL_ (some 15) rfl rfl Try.func15 KR rfl #[.slice A0 l0.length c0] rfl TA ?_; (with_reducible refine (spec_GoodWeights.calls k _ _ l0 false _ ?side1 ?side2 A2.out).mono ?_); (case side1 => exact CW (HR0.out)); (case side2 => exact HC0.out); rintro e w' ⟨rfl, ⟨nd, rfl⟩⟩; refine ⟨_, rfl, ?_⟩))
  go_ret2
  exact ⟨_, TE, TZ, TB⟩
end
section
/-! ### laws_toIntS: function 16 -/
def laws_toIntS.l0 : Nat → List Int → List Int → Int → Option (List Int)
 | 0, _, _, _ => none
 | k + 1, x0, x3, x4 => if x4 < (x0.length : Int) then (if 0 ≤ x4 then (if x4 < (x3.length : Int) then (laws_toIntS.l0 k x0 (x3.set (x4 : Int).toNat (rd x0 x4)) (wrap64 (x4 + 1))) else (none)) else (none)) else (some x3)
def laws_toIntS.f (k : Nat) (l0 : List Int) : Option (List Int) := if 0 ≤ (l0.length : Int) then (if ((l0.length : Int) : Int).toNat ≤ 35184372088832 then (laws_toIntS.l0 k l0 (List.replicate ((l0.length : Int) : Int).toNat 0) 0) else (none)) else (none)
theorem laws_toIntS.calls (k : Nat) (A0 : Option Addr) (c0 : Nat) (l0 : List Int) (r : List Int) (w : World) (hr0 : Kd.C (Kd.int .i64) w A0 l0.length l0) (hc0 : l0.length ≤ c0) (h : laws_toIntS.f k l0 = some r) :
  Calls Try.prog 16 #[.slice A0 l0.length c0] w fun e w' => ∃ v0_ : Value, e = .returned (v0_) ∧ Kd.R (Kd.int .i64) 3 w' w.heap.size (fun _ => True) v0_ r ∧ Below w.heap.size w w' := by
 have HR0 := Aside0.mk hr0
 have HC0 := Aside0.mk hc0
 clear hr0 hc0
 have HB := Aside0.mk (Below.refl w.heap.size w)
 have H : (if 0 ≤ (l0.length : Int) then (if ((l0.length : Int) : Int).toNat ≤ 35184372088832 then (laws_toIntS.l0 k l0 (List.replicate ((l0.length : Int) : Int).toNat 0) 0) else (none)) else (none)) = some r := h
 clear h
 obtain ⟨c2, H⟩ := ifn H
 have c2b0 := eq_true c2
 have c2b1 : decide (0 ≤ (l0.length : Int)) = true := decide_eq_true c2
 clear c2
 obtain ⟨c3, H⟩ := ifn H
 have c3b0 := eq_true c3
 have c3b1 : decide (((l0.length : Int) : Int).toNat ≤ 35184372088832) = true := decide_eq_true c3
 clear c3
 obtain ⟨y371, hy371⟩ : ∃ y_ : List Int, y_ = (List.replicate ((l0.length : Int) : Int).toNat 0) := ⟨_, rfl⟩
 replace H : (laws_toIntS.l0 k l0 y371 0) = some r := by first | (rw [hy371]; with_reducible exact H) | (have H2_ := (Option.bind_some _ _).symm.trans H; rw [hy371]; with_reducible exact H2_) | (have H2_ := (Option.bind_some _ _).symm.trans H; with_reducible exact H2_) | with_reducible exact H | (rw [hy371]; exact H) | exact H
 have Ny371 := Aside0.mk hy371
 clear hy371
 have H' := Aside0.mk H
 clear H
 go_enter Try.func16, Try.ntmps16
 go_wp2_with (first | ((with_reducible refine gate_dst (N := 7) rfl ?_); refine Kd.R_make (Kd.int .i64) _ 3 rfl (N := 7) rfl 22 _ _ rfl (l0.length : Int) rfl rfl Try.underlying22 (.int .i64 0) 8 info3 rfl (by decide) (by omega) 0 (ok := fun _ => True) (okp := fun _ => True) rfl (fun _ hk => hk) trivial TD (Nat.le_trans (Nat.mul_le_mul_right _ (TD : (l0.length : Int).toNat ≤ 35184372088832)) (by omega)) (Below.refl _ _) (Nat.le_refl _) ?_; intro v372 w4 ho5 hb hg_ hnew_; clear hg_ hnew_; (first | rw [← Ny371.out] at ho5 | (simp only [Int.reduceToNat] at ho5; rw [← Ny371.out] at ho5)); have HO373 := RL ho5; replace HB := BS hb; clear hb ho5))
 go_loopg [4] k (fun kq v4 w' => ∃ (x3_1 : List Int) (x4_1 : Int), v4 = .int .i64 x4_1 ∧ Aside0 (laws_toIntS.l0 kq l0 x3_1 x4_1 = some r) ∧ Aside0 (kq ≤ k) ∧ Aside0 (Kd.R (Kd.int .i64) 3 w' w.heap.size (fun _ => True) v372 x3_1) ∧ Aside0 (Below w.heap.size w w'))
 case atStart => exact ⟨(y371), (0), TF, H', ⟨Nat.le_refl _⟩, RW HO373, ⟨TB⟩⟩
 case round =>
  clear H'
  obtain ⟨x3_1, x4_1, rfl, HA, HK1, HO_3, HB⟩ := hrel
  cases gk with
  | zero => exact absurd HA.out (by simp [laws_toIntS.l0])
  | succ k1 =>
   have H := HA.out
   clear HA
   simp only [laws_toIntS.l0] at H
   by_cases c6 : x4_1 < (l0.length : Int)
   ·rw [if_pos c6] at H
    have c6b0 : decide (x4_1 < (l0.length : Int)) = true := decide_eq_true c6
    clear c6
    obtain ⟨c7, H⟩ := ifn H
    have c7b0 : decide (0 ≤ x4_1) = true := decide_eq_true c7
    clear c7
    obtain ⟨c8, H⟩ := ifn H
    have c8b0 : decide (x4_1 < (x3_1.length : Int)) = true := decide_eq_true c8
    clear c8
    obtain ⟨y375, hy375⟩ : ∃ y_ : List Int, y_ = (x3_1.set (x4_1 : Int).toNat (rd l0 x4_1)) := ⟨_, rfl⟩
    replace H : (laws_toIntS.l0 k1 l0 y375 (wrap64 (x4_1 + 1))) = some r := by first | (rw [hy375]; with_reducible exact H) | (have H2_ := (Option.bind_some _ _).symm.trans H; rw [hy375]; with_reducible exact H2_) | (have H2_ := (Option.bind_some _ _).symm.trans H; with_reducible exact H2_) | with_reducible exact H | (rw [hy375]; exact H) | exact H
    have Ny375 := Aside0.mk hy375
    clear hy375
    have H' := Aside0.mk H
    clear H
    have p374 : 0 ≤ (x4_1 : Int) := TD
    have q374 : x4_1 < (l0.length : Int) := TD
    obtain ⟨ad374, e374, hx374_0⟩ := Kd.at_int (Kd.C_below HR0.out HB.out) x4_1 p374 q374
    cases e374
    replace p374 := eq_true p374
    replace q374 := eq_true q374
    have p9 : 0 ≤ (x4_1 : Int) := TD
    have q9 : (x4_1 : Int) < ((x3_1.length : Int) : Int) := TD
    obtain ⟨go9, co9, eo9, gb9, gl9, cl9, HG9⟩ := Kd.R_form HO_3.out (by omega)
    (first | cases eo9 | (injection eo9 with ea_ en_ ec_; (first | subst ea_ | (injection ea_ with ea_; subst ea_)); subst ec_; clear en_))
    have GB9 := Aside0.mk gb9
    have GG9 := Aside0.mk HG9
    clear gb9 gl9 HG9
    obtain ⟨hx9_0, hf9_0⟩ := Kd.R_celln 0 HO_3.out (x4_1 : Int) p9 q9
    replace p9 := eq_true p9
    replace q9 := eq_true q9
    have HP10 := Kd.R_putg HO_3.out (x4_1 : Int) (rd l0 x4_1)
    go_wp2_with (first | ((with_reducible refine gate_store (t := 3) (p := 20) rfl ?_); refine store_event (t := 3) (p := 20) (v := ?vo_w11) (w1 := (wr.setCell ⟨go9, (x4_1 : Int).toNat, none⟩ (.int .i64 (rd l0 x4_1)))) ?hg ?ho ?hn ?hr ?_; (case ho => rfl); (case hg => rfl); (case hn => rfl); (case hr => first | (go_simp; done) | (go_simp; rfl)); intro w11 hw; have hg : wr.grownBy w11 (some go9) := (by rw [hw]; exact HP10.2); have hp_ : Kd.R (Kd.int .i64) 3 w11 w.heap.size (fun _ => True) (.slice (some ⟨go9, 0, none⟩) x3_1.length co9) y375 := (by rw [hw, Ny375.out]; exact HP10.1); clear HP10; replace HO_3 := Aside0.mk (hp_); replace HB := Aside0.mk ((by rw [hw]; exact below_set (HB.out) GB9.out : Below w.heap.size w w11)); clear hg hw hp_))
    go_roundg k1
    case measure => have := HK1.out; omega
    case rel => exact ⟨(y375), (wrap64 (x4_1 + 1)), TF, H', ⟨TM⟩, RW HO_3, ⟨TB⟩⟩
   ·rw [if_neg c6] at H
    have c6b0 : decide (x4_1 < (l0.length : Int)) = false := decide_eq_false c6
    clear c6
    obtain rfl := Option.some.inj H
    go_wp2
    go_ret
    exact ⟨_, TE, (RW HO_3).out, TB⟩
end
section
/-! ### laws_eqColumn: function 66 -/
def laws_eqColumn.f (a0_0 : Int) (a0_1 : Int) (a1_0 : Int) (a1_1 : Int) : Option (Bool) := if a0_0 = a1_0 then (if a0_1 = a1_1 then (some true) else (some false)) else (some false)
theorem laws_eqColumn.calls (a0_0 : Int) (a0_1 : Int) (a1_0 : Int) (a1_1 : Int) (r : Bool) (w : World) (h : laws_eqColumn.f a0_0 a0_1 a1_0 a1_1 = some r) :
  Calls Try.prog 66 #[.agg #[.int .i64 a0_0, .int .i64 a0_1], .agg #[.int .i64 a1_0, .int .i64 a1_1]] w fun e w' => e = .returned (.bool r) ∧ Below w.heap.size w w' := by
 have hu65 := Try.underlying65
 have HB := Aside0.mk (Below.refl w.heap.size w)
 have H : (if a0_0 = a1_0 then (if a0_1 = a1_1 then (some true) else (some false)) else (some false)) = some r := h
 clear h
 by_cases c3 : a0_0 = a1_0
 ·rw [if_pos c3] at H
  have c3b0 : (a0_0 == a1_0) = true := beq_iff_eq.mpr c3
  have c3b1 : (a0_0 != a1_0) = false := bne_eq_false_iff_eq.mpr c3
  clear c3
  by_cases c4 : a0_1 = a1_1
  ·rw [if_pos c4] at H
   have c4b0 : (a0_1 == a1_1) = true := beq_iff_eq.mpr c4
   have c4b1 : (a0_1 != a1_1) = false := bne_eq_false_iff_eq.mpr c4
   clear c4
   obtain rfl := Option.some.inj H
   go_enter Try.func66, Try.ntmps66
   go_wp2_with (first | ((with_reducible refine gate_dst (N := 2) rfl ?_); refine bE 2 #[.int .i64 a0_0, .int .i64 a0_1] 65 ?_; intro gb376 hg w5 hbox hb; have BK376 := Aside0.mk (hbox); have GE376 := bG hg; replace HB := BS hb; clear hb hbox hg) | ((with_reducible refine gate_dst (N := 3) rfl ?_); refine bE 3 #[.int .i64 a1_0, .int .i64 a1_1] 65 ?_; intro gb377 hg w6 hbox hb; have BK377 := Aside0.mk (hbox); have GE377 := bG hg; replace HB := BS hb; have NB376_377 := bN BK376 hg; have NB377_376 := bM BK376 hg; replace BK376 := KB BK376 hb; clear hb hbox hg; obtain ⟨hnb7, hnc7⟩ := nn NB376_377; have hcz8 := cz2 BK376; have hcz9 := cz2 BK377))
   go_ret
   exact ⟨TE, TB⟩
  ·rw [if_neg c4] at H
   have c4b0 : (a0_1 == a1_1) = false := beq_eq_false_iff_ne.mpr c4
   have c4b1 : (a0_1 != a1_1) = true := bne_iff_ne.mpr c4
   obtain rfl := Option.some.inj H
   go_enter Try.func66, Try.ntmps66
   go_wp2_with (first | ((with_reducible refine gate_dst (N := 2) rfl ?_); refine bE 2 #[.int .i64 a0_0, .int .i64 a0_1] 65 ?_; intro gb376 hg w10 hbox hb; have BK376 := Aside0.mk (hbox); have GE376 := bG hg; replace HB := BS hb; clear hb hbox hg) | ((with_reducible refine gate_dst (N := 3) rfl ?_); refine bE 3 #[.int .i64 a1_0, .int .i64 a1_1] 65 ?_; intro gb377 hg w11 hbox hb; have BK377 := Aside0.mk (hbox); have GE377 := bG hg; replace HB := BS hb; have NB376_377 := bN BK376 hg; have NB377_376 := bM BK376 hg; replace BK376 := KB BK376 hb; clear hb hbox hg; obtain ⟨hnb12, hnc12⟩ := nn NB376_377; have hcz13 := cz2 BK376; have hcz14 := cz2 BK377))
   go_ret
   exact ⟨TE, TB⟩
 ·rw [if_neg c3] at H
  have c3b0 : (a0_0 == a1_0) = false := beq_eq_false_iff_ne.mpr c3
  have c3b1 : (a0_0 != a1_0) = true := bne_iff_ne.mpr c3
  obtain rfl := Option.some.inj H
  go_enter Try.func66, Try.ntmps66
  go_wp2_with (first | ((with_reducible refine gate_dst (N := 2) rfl ?_); refine bE 2 #[.int .i64 a0_0, .int .i64 a0_1] 65 ?_; intro gb376 hg w15 hbox hb; have BK376 := Aside0.mk (hbox); have GE376 := bG hg; replace HB := BS hb; clear hb hbox hg) | ((with_reducible refine gate_dst (N := 3) rfl ?_); refine bE 3 #[.int .i64 a1_0, .int .i64 a1_1] 65 ?_; intro gb377 hg w16 hbox hb; have BK377 := Aside0.mk (hbox); have GE377 := bG hg; replace HB := BS hb; have NB376_377 := bN BK376 hg; have NB377_376 := bM BK376 hg; replace BK376 := KB BK376 hb; clear hb hbox hg; obtain ⟨hnb17, hnc17⟩ := nn NB376_377; have hcz18 := cz2 BK376; have hcz19 := cz2 BK377))
  go_ret
  exact ⟨TE, TB⟩
end
section
/-! ### laws_eqColumnS: function 23 -/
def laws_eqColumnS.l0 : Nat → List (S_Column) → List (S_Column) → Int → Option (Bool)
 | 0, _, _, _ => none
 | k + 1, x0, x1, x5 => if x5 < (x0.length : Int) then (if 0 ≤ x5 then (if x5 < (x1.length : Int) then ((laws_eqColumn.f ((rd_TColumn x0 x5).f0) ((rd_TColumn x0 x5).f1) ((rd_TColumn x1 x5).f0) ((rd_TColumn x1 x5).f1)).bind fun t380 => (if t380 = true then (laws_eqColumnS.l0 k x0 x1 (wrap64 (x5 + 1))) else (some false))) else (none)) else (none)) else (some true)
def laws_eqColumnS.f (k : Nat) (l0 : List (S_Column)) (l1 : List (S_Column)) : Option (Bool) := if (l0.length : Int) = (l1.length : Int) then (laws_eqColumnS.l0 k l0 l1 0) else (some false)
def laws_eqColumnS.T6 : Bool × List (List Nat × List Nat) := (true, [([], []), ([], []), ([0, 1], [0, 1]), ([2], [2]), ([], []), ([], []), ([4, 5], [4, 5]), ([6], [6]), ([3, 7], [3, 7]), ([8], [8])])
def laws_eqColumnS.B6 : List Nat := [0, 0, 3, 7, 0, 0, 48, 112, 255, 511]
theorem laws_eqColumnS.tab6 : rtab .any (opsOf Try.f23 6) = laws_eqColumnS.T6 := by kernel_rfl
theorem laws_eqColumnS.bits6 : waitsOk laws_eqColumnS.T6.2 laws_eqColumnS.B6 = true := by kernel_rfl
theorem laws_eqColumnS.calls (k : Nat) (A0 : Option Addr) (c0 : Nat) (l0 : List (S_Column)) (A1 : Option Addr) (c1 : Nat) (l1 : List (S_Column)) (r : Bool) (w : World) (hr0 : Kd.C k_Column w A0 l0.length l0) (hc0 : l0.length ≤ c0) (hr1 : Kd.C k_Column w A1 l1.length l1) (hc1 : l1.length ≤ c1) (h : laws_eqColumnS.f k l0 l1 = some r) :
  Calls Try.prog 23 #[.slice A0 l0.length c0, .slice A1 l1.length c1] w fun e w' => e = .returned (.bool r) ∧ Below w.heap.size w w' := by
 have hu65 := Try.underlying65
 have HR0 := Aside0.mk hr0
 have HC0 := Aside0.mk hc0
 clear hr0 hc0
 have HR1 := Aside0.mk hr1
 have HC1 := Aside0.mk hc1
 clear hr1 hc1
 have HB := Aside0.mk (Below.refl w.heap.size w)
 have H : (if (l0.length : Int) = (l1.length : Int) then (laws_eqColumnS.l0 k l0 l1 0) else (some false)) = some r := h
 clear h
 by_cases c3 : (l0.length : Int) = (l1.length : Int)
 ·rw [if_pos c3] at H
  have c3b0 : ((l0.length : Int) == (l1.length : Int)) = true := beq_iff_eq.mpr c3
  have c3b1 : ((l0.length : Int) != (l1.length : Int)) = false := bne_eq_false_iff_eq.mpr c3
  have c3b2 : (l0.length == l1.length) = true := by first | simpa using c3 | (simp at c3 ⊢; omega)
  clear c3
  have H' := Aside0.mk H
  clear H
  go_enter Try.func23, Try.ntmps23
  go_wp2
  go_loopg [5] k (fun kq v5 w' => ∃ (x5_1 : Int), v5 = .int .i64 x5_1 ∧ Aside0 (laws_eqColumnS.l0 kq l0 l1 x5_1 = some r) ∧ Aside0 (kq ≤ k) ∧ Aside0 (Below w.heap.size w w'))
  case atStart => exact ⟨(0), TF, H', ⟨Nat.le_refl _⟩, ⟨TB⟩⟩
  case round =>
   clear H'
   obtain ⟨x5_1, rfl, HA, HK1, HB⟩ := hrel
   cases gk with
   | zero => exact absurd HA.out (by simp [laws_eqColumnS.l0])
   | succ k1 =>
    have H := HA.out
    clear HA
    simp only [laws_eqColumnS.l0] at H
    by_cases c4 : x5_1 < (l0.length : Int)
    ·rw [if_pos c4] at H
     have c4b0 : decide (x5_1 < (l0.length : Int)) = true := decide_eq_true c4
     clear c4
     obtain ⟨c5, H⟩ := ifn H
     have c5b0 : decide (0 ≤ x5_1) = true := decide_eq_true c5
     clear c5
     obtain ⟨c6, H⟩ := ifn H
     have c6b0 : decide (x5_1 < (l1.length : Int)) = true := decide_eq_true c6
     clear c6
     obtain ⟨t380, A7, H⟩ := bnd H
     by_cases c8 : t380 = true
     ·subst c8
      replace H := ift H
      have H' := Aside0.mk H
      clear H
      try go_wp2
      replace HB := Aside0.mk (below_drew1 HB.out)
      have p378 : 0 ≤ (x5_1 : Int) := TD
      have q378 : x5_1 < (l0.length : Int) := TD
      obtain ⟨ad378, e378, hx378_0, hx378_1⟩ := at_TColumn HR0.out x5_1 p378 q378
      have hw378_1 := hx378_1
      have hw378_0 := hx378_0
      cases e378
      replace hx378_0 := hBc HB hx378_0
      replace hx378_1 := hBc HB hx378_1
      replace p378 := eq_true p378
      replace q378 := eq_true q378
      have p379 : 0 ≤ (x5_1 : Int) := TD
      have q379 : x5_1 < (l1.length : Int) := TD
      obtain ⟨ad379, e379, hx379_0, hx379_1⟩ := at_TColumn HR1.out x5_1 p379 q379
      have hw379_1 := hx379_1
      have hw379_0 := hx379_0
      cases e379
      replace hx379_0 := hBc HB hx379_0
      replace hx379_1 := hBc HB hx379_1
      replace p379 := eq_true p379
      replace q379 := eq_true q379
      refine start_ (n := 10) (S := fun w' => w'.cell? (ad378.add ((x5_1).toNat * 2)) = some (.int .i64 ((rd_TColumn l0 x5_1).f0)) ∧ w'.cell? ⟨(ad378.add ((x5_1).toNat * 2)).block, (ad378.add ((x5_1).toNat * 2)).off + 1, none⟩ = some (.int .i64 ((rd_TColumn l0 x5_1).f1)) ∧ w'.cell? (ad379.add ((x5_1).toNat * 2)) = some (.int .i64 ((rd_TColumn l1 x5_1).f0)) ∧ w'.cell? ⟨(ad379.add ((x5_1).toNat * 2)).block, (ad379.add ((x5_1).toNat * 2)).off + 1, none⟩ = some (.int .i64 ((rd_TColumn l1 x5_1).f1))) (ds := []) #[false, false, false, false, false, false, false, false, false, false] KR rfl rfl ⟨((HB.out.cell (World.block_lt_of_cell? w _ hw378_0)).trans hw378_0), ((HB.out.cell (World.block_lt_of_cell? w _ hw378_1)).trans hw378_1), ((HB.out.cell (World.block_lt_of_cell? w _ hw379_0)).trans hw379_0), ((HB.out.cell (World.block_lt_of_cell? w _ hw379_1)).trans hw379_1)⟩ (fun hHeld => ?_); refine with_tabW laws_eqColumnS.tab6 laws_eqColumnS.bits6 (fun HT_ HW_ => ?_)
      generalize wr.drew = w9 at HB hx378_0 hx378_1 hx379_0 hx379_1 hHeld ⊢
      refine pA 0 17 (mL 10 1) HT_ rfl rfl ?_
      refine pA 1 18 (mL 10 3) HT_ rfl rfl ?_
      refine pA 2 19 (mL 10 7) HT_ rfl rfl ?_
      refine pA 4 21 (mL 10 23) HT_ rfl rfl ?_
      refine pA 5 22 (mL 10 55) HT_ rfl rfl ?_
      refine pA 6 23 (mL 10 119) HT_ rfl rfl ?_
      refine tA 3 20 (mL 10 127) HT_ HW_ hHeld rfl rfl (by rintro w' ⟨s0, s1, s2, s3⟩; go_simp; with_reducible rfl) ?_
      refine tA 7 24 (mL 10 255) HT_ HW_ hHeld rfl rfl (by rintro w' ⟨s0, s1, s2, s3⟩; go_simp; with_reducible rfl) ?_
      refine one_ (i := 8) (N := some 25) (mL 10 511) rfl rfl (one_of HT_.out KR) (by decide) (fun K hK => ?_)
      refine goes_ Try.func66 KR rfl #[.agg #[.int .i64 ((rd_TColumn l0 x5_1).f0), .int .i64 ((rd_TColumn l0 x5_1).f1)], .agg #[.int .i64 ((rd_TColumn l1 x5_1).f0), .int .i64 ((rd_TColumn l1 x5_1).f1)]] (by rfl) rfl rfl TA ?_
      with_reducible refine (laws_eqColumn.calls ((rd_TColumn l0 x5_1).f0) ((rd_TColumn l0 x5_1).f1) ((rd_TColumn l1 x5_1).f0) ((rd_TColumn l1 x5_1).f1) true _ A7.out).mono ?_
      rintro e w10 ⟨rfl, hb⟩
      refine ⟨_, rfl, ?_⟩
      replace HB := BS hb
      (try clear hb)
      (try clear hb2)
      (try clear hk)
      (try clear hi)
      refine hK.out _ _ ⟨((HB.out.cell (World.block_lt_of_cell? w _ hw378_0)).trans hw378_0), ((HB.out.cell (World.block_lt_of_cell? w _ hw378_1)).trans hw378_1), ((HB.out.cell (World.block_lt_of_cell? w _ hw379_0)).trans hw379_0), ((HB.out.cell (World.block_lt_of_cell? w _ hw379_1)).trans hw379_1)⟩ (fun hHeld => ?_)
      clear hK K
      refine nA ?_
      refine pA 9 26 (mL 10 1023) HT_ rfl rfl ?_
      refine done_ (done_of HT_.out KR) ?_
      try go_wp2
      go_roundg k1
      case measure => have := HK1.out; omega
      case rel => exact ⟨(wrap64 (x5_1 + 1)), TF, H', ⟨TM⟩, ⟨TB⟩⟩
     ·replace c8 := Bool.eq_false_iff.mpr c8
      subst c8
      replace H := iff' H
      obtain rfl := Option.some.inj H
      try go_wp2
      replace HB := Aside0.mk (below_drew1 HB.out)
      have p378 : 0 ≤ (x5_1 : Int) := TD
      have q378 : x5_1 < (l0.length : Int) := TD
      obtain ⟨ad378, e378, hx378_0, hx378_1⟩ := at_TColumn HR0.out x5_1 p378 q378
      have hw378_1 := hx378_1
      have hw378_0 := hx378_0
      cases e378
      replace hx378_0 := hBc HB hx378_0
      replace hx378_1 := hBc HB hx378_1
      replace p378 := eq_true p378
      replace q378 := eq_true q378
      have p379 : 0 ≤ (x5_1 : Int) := TD
      have q379 : x5_1 < (l1.length : Int) := TD
      obtain ⟨ad379, e379, hx379_0, hx379_1⟩ := at_TColumn HR1.out x5_1 p379 q379
      have hw379_1 := hx379_1
      have hw379_0 := hx379_0
      cases e379
      replace hx379_0 := hBc HB hx379_0
      replace hx379_1 := hBc HB hx379_1
      replace p379 := eq_true p379
      replace q379 := eq_true q379
      refine start_ (n := 10) (S := fun w' => w'.cell? (ad378.add ((x5_1).toNat * 2)) = some (.int .i64 ((rd_TColumn l0 x5_1).f0)) ∧ w'.cell? ⟨(ad378.add ((x5_1).toNat * 2)).block, (ad378.add ((x5_1).toNat * 2)).off + 1, none⟩ = some (.int .i64 ((rd_TColumn l0 x5_1).f1)) ∧ w'.cell? (ad379.add ((x5_1).toNat * 2)) = some (.int .i64 ((rd_TColumn l1 x5_1).f0)) ∧ w'.cell? ⟨(ad379.add ((x5_1).toNat * 2)).block, (ad379.add ((x5_1).toNat * 2)).off + 1, none⟩ = some (.int .i64 ((rd_TColumn l1 x5_1).f1))) (ds := []) #[false, false, false, false, false, false, false, false, false, false] KR rfl rfl ⟨((HB.out.cell (World.block_lt_of_cell? w _ hw378_0)).trans hw378_0), ((HB.out.cell (World.block_lt_of_cell? w _ hw378_1)).trans hw378_1), ((HB.out.cell (World.block_lt_of_cell? w _ hw379_0)).trans hw379_0), ((HB.out.cell (World.block_lt_of_cell? w _ hw379_1)).trans hw379_1)⟩ (fun hHeld => ?_); refine with_tabW laws_eqColumnS.tab6 laws_eqColumnS.bits6 (fun HT_ HW_ => ?_)
      generalize wr.drew = w11 at HB hx378_0 hx378_1 hx379_0 hx379_1 hHeld ⊢
      refine pA 0 17 (mL 10 1) HT_ rfl rfl ?_
      refine pA 1 18 (mL 10 3) HT_ rfl rfl ?_
      refine pA 2 19 (mL 10 7) HT_ rfl rfl ?_
      refine pA 4 21 (mL 10 23) HT_ rfl rfl ?_
      refine pA 5 22 (mL 10 55) HT_ rfl rfl ?_
      refine pA 6 23 (mL 10 119) HT_ rfl rfl ?_
      refine tA 3 20 (mL 10 127) HT_ HW_ hHeld rfl rfl (by rintro w' ⟨s0, s1, s2, s3⟩; go_simp; with_reducible rfl) ?_
      refine tA 7 24 (mL 10 255) HT_ HW_ hHeld rfl rfl (by rintro w' ⟨s0, s1, s2, s3⟩; go_simp; with_reducible rfl) ?_
      refine one_ (i := 8) (N := some 25) (mL 10 511) rfl rfl (one_of HT_.out KR) (by decide) (fun K hK => ?_)
      refine goes_ Try.func66 KR rfl #[.agg #[.int .i64 ((rd_TColumn l0 x5_1).f0), .int .i64 ((rd_TColumn l0 x5_1).f1)], .agg #[.int .i64 ((rd_TColumn l1 x5_1).f0), .int .i64 ((rd_TColumn l1 x5_1).f1)]] (by rfl) rfl rfl TA ?_
      with_reducible refine (laws_eqColumn.calls ((rd_TColumn l0 x5_1).f0) ((rd_TColumn l0 x5_1).f1) ((rd_TColumn l1 x5_1).f0) ((rd_TColumn l1 x5_1).f1) false _ A7.out).mono ?_
      rintro e w12 ⟨rfl, hb⟩
      refine ⟨_, rfl, ?_⟩
      replace HB := BS hb
      (try clear hb)
      (try clear hb2)
      (try clear hk)
      (try clear hi)
      refine hK.out _ _ ⟨((HB.out.cell (World.block_lt_of_cell? w _ hw378_0)).trans hw378_0), ((HB.out.cell (World.block_lt_of_cell? w _ hw378_1)).trans hw378_1), ((HB.out.cell (World.block_lt_of_cell? w _ hw379_0)).trans hw379_0), ((HB.out.cell (World.block_lt_of_cell? w _ hw379_1)).trans hw379_1)⟩ (fun hHeld => ?_)
      clear hK K
      refine nA ?_
      refine pA 9 26 (mL 10 1023) HT_ rfl rfl ?_
      refine done_ (done_of HT_.out KR) ?_
      try go_wp2
      go_ret
      exact ⟨TE, TB⟩
    ·rw [if_neg c4] at H
     have c4b0 : decide (x5_1 < (l0.length : Int)) = false := decide_eq_false c4
     clear c4
     obtain rfl := Option.some.inj H
     go_wp2
     go_ret
     exact ⟨TE, TB⟩
 ·rw [if_neg c3] at H
  have c3b0 : ((l0.length : Int) == (l1.length : Int)) = false := beq_eq_false_iff_ne.mpr c3
  have c3b1 : ((l0.length : Int) != (l1.length : Int)) = true := bne_iff_ne.mpr c3
  have c3b2 : (l0.length == l1.length) = false := by first | simpa using c3 | (simp at c3 ⊢; omega)
  obtain rfl := Option.some.inj H
  go_enter Try.func23, Try.ntmps23
  go_wp2
  go_ret
  exact ⟨TE, TB⟩
end
section
/-! ### laws_eqIntS: function 18 -/
def laws_eqIntS.l0 : Nat → List Int → List Int → Int → Option (Bool)
 | 0, _, _, _ => none
 | k + 1, x0, x1, x5 => if x5 < (x0.length : Int) then (if 0 ≤ x5 then (if x5 < (x1.length : Int) then (if (rd x0 x5) = (rd x1 x5) then (laws_eqIntS.l0 k x0 x1 (wrap64 (x5 + 1))) else (some false)) else (none)) else (none)) else (some true)
def laws_eqIntS.f (k : Nat) (l0 : List Int) (l1 : List Int) : Option (Bool) := if (l0.length : Int) = (l1.length : Int) then (laws_eqIntS.l0 k l0 l1 0) else (some false)
theorem laws_eqIntS.calls (k : Nat) (A0 : Option Addr) (c0 : Nat) (l0 : List Int) (A1 : Option Addr) (c1 : Nat) (l1 : List Int) (r : Bool) (w : World) (hr0 : Kd.C (Kd.int .i64) w A0 l0.length l0) (hc0 : l0.length ≤ c0) (hr1 : Kd.C (Kd.int .i64) w A1 l1.length l1) (hc1 : l1.length ≤ c1) (h : laws_eqIntS.f k l0 l1 = some r) :
  Calls Try.prog 18 #[.slice A0 l0.length c0, .slice A1 l1.length c1] w fun e w' => e = .returned (.bool r) ∧ Drawn0 w w' := by
 have HR0 := Aside0.mk hr0
 have HC0 := Aside0.mk hc0
 clear hr0 hc0
 have HR1 := Aside0.mk hr1
 have HC1 := Aside0.mk hc1
 clear hr1 hc1
 have H : (if (l0.length : Int) = (l1.length : Int) then (laws_eqIntS.l0 k l0 l1 0) else (some false)) = some r := h
 clear h
 by_cases c3 : (l0.length : Int) = (l1.length : Int)
 ·rw [if_pos c3] at H
  have c3b0 : ((l0.length : Int) == (l1.length : Int)) = true := beq_iff_eq.mpr c3
  have c3b1 : ((l0.length : Int) != (l1.length : Int)) = false := bne_eq_false_iff_eq.mpr c3
  have c3b2 : (l0.length == l1.length) = true := by first | simpa using c3 | (simp at c3 ⊢; omega)
  clear c3
  have H' := Aside0.mk H
  clear H
  go_enter Try.func18, Try.ntmps18
  go_wp2
  repeat (go_quiet (fail); try go_wp2)
  go_loopg [5] k (fun kq v5 w' => ∃ (x5_1 : Int), v5 = .int .i64 x5_1 ∧ Aside0 (laws_eqIntS.l0 kq l0 l1 x5_1 = some r) ∧ Aside0 (kq ≤ k) ∧ Drawn0 w w')
  case atStart => exact ⟨(0), TF, H', ⟨Nat.le_refl _⟩, TN⟩
  case round =>
   clear H'
   obtain ⟨x5_1, rfl, HA, HK1, ⟨m1, rfl⟩⟩ := hrel
   cases gk with
   | zero => exact absurd HA.out (by simp [laws_eqIntS.l0])
   | succ k1 =>
    have H := HA.out
    clear HA
    simp only [laws_eqIntS.l0] at H
    by_cases c4 : x5_1 < (l0.length : Int)
    ·rw [if_pos c4] at H
     have c4b0 : decide (x5_1 < (l0.length : Int)) = true := decide_eq_true c4
     clear c4
     obtain ⟨c5, H⟩ := ifn H
     have c5b0 : decide (0 ≤ x5_1) = true := decide_eq_true c5
     clear c5
     obtain ⟨c6, H⟩ := ifn H
     have c6b0 : decide (x5_1 < (l1.length : Int)) = true := decide_eq_true c6
     clear c6
     by_cases c7 : (rd l0 x5_1) = (rd l1 x5_1)
     ·rw [if_pos c7] at H
      have c7b0 : ((rd l0 x5_1) == (rd l1 x5_1)) = true := beq_iff_eq.mpr c7
      have c7b1 : ((rd l0 x5_1) != (rd l1 x5_1)) = false := bne_eq_false_iff_eq.mpr c7
      clear c7
      have H' := Aside0.mk H
      clear H
      have p381 : 0 ≤ (x5_1 : Int) := TD
      have q381 : x5_1 < (l0.length : Int) := TD
      obtain ⟨ad381, e381, hx381_0⟩ := Kd.at_int HR0.out x5_1 p381 q381
      cases e381
      replace p381 := eq_true p381
      replace q381 := eq_true q381
      have p382 : 0 ≤ (x5_1 : Int) := TD
      have q382 : x5_1 < (l1.length : Int) := TD
      obtain ⟨ad382, e382, hx382_0⟩ := Kd.at_int HR1.out x5_1 p382 q382
      cases e382
      replace p382 := eq_true p382
      replace q382 := eq_true q382
      go_wp2
      repeat (go_quiet (fail); try go_wp2)
      go_roundg k1
      case measure => have := HK1.out; omega
      case rel => exact ⟨(wrap64 (x5_1 + 1)), TF, H', ⟨TM⟩, TN⟩
     ·rw [if_neg c7] at H
      have c7b0 : ((rd l0 x5_1) == (rd l1 x5_1)) = false := beq_eq_false_iff_ne.mpr c7
      have c7b1 : ((rd l0 x5_1) != (rd l1 x5_1)) = true := bne_iff_ne.mpr c7
      obtain rfl := Option.some.inj H
      have p381 : 0 ≤ (x5_1 : Int) := TD
      have q381 : x5_1 < (l0.length : Int) := TD
      obtain ⟨ad381, e381, hx381_0⟩ := Kd.at_int HR0.out x5_1 p381 q381
      cases e381
      replace p381 := eq_true p381
      replace q381 := eq_true q381
      have p382 : 0 ≤ (x5_1 : Int) := TD
      have q382 : x5_1 < (l1.length : Int) := TD
      obtain ⟨ad382, e382, hx382_0⟩ := Kd.at_int HR1.out x5_1 p382 q382
      cases e382
      replace p382 := eq_true p382
      replace q382 := eq_true q382
      go_wp2
      repeat (go_quiet (fail); try go_wp2)
      go_ret
      exact ⟨TF, TN⟩
    ·rw [if_neg c4] at H
     have c4b0 : decide (x5_1 < (l0.length : Int)) = false := decide_eq_false c4
     clear c4
     obtain rfl := Option.some.inj H
     go_wp2
     repeat (go_quiet (fail); try go_wp2)
     go_ret
     exact ⟨TF, TN⟩
 ·rw [if_neg c3] at H
  have c3b0 : ((l0.length : Int) == (l1.length : Int)) = false := beq_eq_false_iff_ne.mpr c3
  have c3b1 : ((l0.length : Int) != (l1.length : Int)) = true := bne_iff_ne.mpr c3
  have c3b2 : (l0.length == l1.length) = false := by first | simpa using c3 | (simp at c3 ⊢; omega)
  obtain rfl := Option.some.inj H
  go_enter Try.func18, Try.ntmps18
  go_wp2
  repeat (go_quiet (fail); try go_wp2)
  go_ret
  exact ⟨TF, TN⟩
end
section
/-! ### laws_markIntS: function 33 -/
def laws_markIntS.l0 : Nat → List Int → Int → Int → Option (Int × List Int)
 | 0, _, _, _ => none
 | k + 1, x0, x1, x5 => if x5 < (x0.length : Int) then (if 0 ≤ x5 then (laws_markIntS.l0 k (x0.set (x5 : Int).toNat x1) (wrap64 (x1 + 1)) (wrap64 (x5 + 1))) else (none)) else (some (x1, x0))
def laws_markIntS.f (k : Nat) (l0 : List Int) (a1 : Int) : Option (Int × List Int) := laws_markIntS.l0 k l0 a1 0
theorem laws_markIntS.calls (k : Nat) (P0_ : Nat → Prop) (u9000_ : Value) (l0 : List Int) (a1 : Int) (r1 : Int) (r2 : List Int) (w0 w : World) (hB : Below w0.heap.size w0 w) (ho0 : Kd.R (Kd.int .i64) 3 w w0.heap.size P0_ u9000_ l0) (h : laws_markIntS.f k l0 a1 = some (r1, r2)) :
  Calls Try.prog 33 #[u9000_, .int .i64 a1] w fun e w' => e = .returned (.int .i64 r1) ∧ Kd.R (Kd.int .i64) 3 w' w0.heap.size (fun k_ => (P0_ k_ ∨ w.heap.size ≤ k_)) u9000_ r2 ∧ Below w0.heap.size w0 w' ∧ Kept w w' (fun k_ => P0_ k_) := by
 have HO0 := Aside0.mk (show Kd.R (Kd.int .i64) 3 w w0.heap.size (fun k_ => (P0_ k_ ∨ w.heap.size ≤ k_)) u9000_ l0 from Kd.R_mono ho0 (fun k_ hk => (.inl hk)))
 have HK := Aside0.mk (Kept.refl w (fun k_ => P0_ k_))
 have HW0 := Aside0.mk hB.size
 have HB := Aside0.mk hB
 clear hB
 have H : (laws_markIntS.l0 k l0 a1 0) = some (r1, r2) := h
 clear h
 have H' := Aside0.mk H
 clear H
 go_enter Try.func33, Try.ntmps33
 go_wp2
 go_loopg [1, 5] k (fun kq v1 v5 w' => ∃ (x0_1 : List Int) (x1_1 : Int) (x5_1 : Int), v1 = .int .i64 x1_1 ∧ v5 = .int .i64 x5_1 ∧ Aside0 (laws_markIntS.l0 kq x0_1 x1_1 x5_1 = some (r1, r2)) ∧ Aside0 (kq ≤ k) ∧ Aside0 (Kd.R (Kd.int .i64) 3 w' w0.heap.size (fun k_ => (P0_ k_ ∨ w.heap.size ≤ k_)) u9000_ x0_1) ∧ Aside0 (Kept w w' (fun k_ => P0_ k_)) ∧ Aside0 (Below w0.heap.size w0 w'))
 case atStart => exact ⟨(l0), (a1), (0), TF, TF, H', ⟨Nat.le_refl _⟩, RW HO0, ⟨TK⟩, ⟨TB⟩⟩
 case round =>
  clear H'
  obtain ⟨x0_1, x1_1, x5_1, rfl, rfl, HA, HK1, HO_0, HK, HB⟩ := hrel
  cases gk with
  | zero => exact absurd HA.out (by simp [laws_markIntS.l0])
  | succ k1 =>
   have H := HA.out
   clear HA
   simp only [laws_markIntS.l0] at H
   by_cases c3 : x5_1 < (x0_1.length : Int)
   ·rw [if_pos c3] at H
    have c3b0 : decide (x5_1 < (x0_1.length : Int)) = true := decide_eq_true c3
    clear c3
    obtain ⟨c4, H⟩ := ifn H
    have c4b0 : decide (0 ≤ x5_1) = true := decide_eq_true c4
    clear c4
    obtain ⟨y383, hy383⟩ : ∃ y_ : List Int, y_ = (x0_1.set (x5_1 : Int).toNat x1_1) := ⟨_, rfl⟩
    replace H : (laws_markIntS.l0 k1 y383 (wrap64 (x1_1 + 1)) (wrap64 (x5_1 + 1))) = some (r1, r2) := by first | (rw [hy383]; with_reducible exact H) | (have H2_ := (Option.bind_some _ _).symm.trans H; rw [hy383]; with_reducible exact H2_) | (have H2_ := (Option.bind_some _ _).symm.trans H; with_reducible exact H2_) | with_reducible exact H | (rw [hy383]; exact H) | exact H
    have Ny383 := Aside0.mk hy383
    clear hy383
    have H' := Aside0.mk H
    clear H
    obtain ⟨Ao6, co6, eo6⟩ := Kd.R_slice HO_0.out
    subst eo6
    have p5 : 0 ≤ (x5_1 : Int) := TD
    have q5 : (x5_1 : Int) < ((x0_1.length : Int) : Int) := TD
    obtain ⟨go5, co5, eo5, gb5, gl5, cl5, HG5⟩ := Kd.R_form HO_0.out (by omega)
    (first | cases eo5 | (injection eo5 with ea_ en_ ec_; (first | subst ea_ | (injection ea_ with ea_; subst ea_)); subst ec_; clear en_))
    have GB5 := Aside0.mk gb5
    have GG5 := Aside0.mk HG5
    clear gb5 gl5 HG5
    have HMgo5 := Aside0.mk (show (P0_ go5 ∨ w.heap.size ≤ go5) from (HO_0.out.1 _ rfl))
    obtain ⟨hx5_0, hf5_0⟩ := Kd.R_celln 0 HO_0.out (x5_1 : Int) p5 q5
    replace p5 := eq_true p5
    replace q5 := eq_true q5
    have HP7 := Kd.R_putg HO_0.out (x5_1 : Int) x1_1
    go_wp2_with (first | ((with_reducible refine gate_store (t := 3) (p := 15) rfl ?_); refine store_event (t := 3) (p := 15) (v := ?vo_w8) (w1 := (wr.setCell ⟨go5, (x5_1 : Int).toNat, none⟩ (.int .i64 x1_1))) ?hg ?ho ?hn ?hr ?_; (case ho => rfl); (case hg => rfl); (case hn => rfl); (case hr => first | (go_simp; done) | (go_simp; rfl)); intro w8 hw; have hg : wr.grownBy w8 (some go5) := (by rw [hw]; exact HP7.2); have hp_ : Kd.R (Kd.int .i64) 3 w8 w0.heap.size (fun k_ => (P0_ k_ ∨ w.heap.size ≤ k_)) (.slice (some ⟨go5, 0, none⟩) x0_1.length co6) y383 := (by rw [hw, Ny383.out]; exact HP7.1); clear HP7; replace HB := Aside0.mk ((by rw [hw]; exact below_set (HB.out) GB5.out : Below w0.heap.size w0 w8)); replace HK := Aside0.mk (Kept.of_grown (S := (fun k_ => P0_ k_)) hg TK (fun k_ e_ => (HO_0.out.1 k_ e_))); replace HO_0 := Aside0.mk (hp_); clear hg hw hp_))
    go_roundg k1
    case measure => have := HK1.out; omega
    case rel => exact ⟨(y383), (wrap64 (x1_1 + 1)), (wrap64 (x5_1 + 1)), TF, TF, H', ⟨TM⟩, RW HO_0, ⟨TK⟩, ⟨TB⟩⟩
   ·rw [if_neg c3] at H
    have c3b0 : decide (x5_1 < (x0_1.length : Int)) = false := decide_eq_false c3
    clear c3
    simp only [Option.some.injEq, Prod.mk.injEq] at H
    obtain ⟨rfl, rfl⟩ := H
    obtain ⟨Ao9, co9, eo9⟩ := Kd.R_slice HO_0.out
    subst eo9
    go_wp2
    go_ret
    exact ⟨TE, (RW HO_0).out, TB, TK⟩
end
section
/-! ### laws_markColumnS: function 38 -/
def laws_markColumnS.l0 : Nat → List (S_Column) → Int → Int → Option (Int × (List (S_Column)))
 | 0, _, _, _ => none
 | k + 1, x0, x1, x5 => if x5 < (x0.length : Int) then (if 0 ≤ x5 then ((some (x0.set (x5 : Int).toNat (⟨x1, (rd_TColumn x0 x5).f1⟩ : S_Column) : List (S_Column))).bind fun y384 => (laws_markColumnS.l0 k (y384.set (x5 : Int).toNat (⟨(rd_TColumn y384 x5).f0, wrap64 (x1 + 1)⟩ : S_Column)) (wrap64 ((wrap64 (x1 + 1)) + 1)) (wrap64 (x5 + 1)))) else (none)) else (some (x1, x0))
def laws_markColumnS.f (k : Nat) (l0 : List (S_Column)) (a1 : Int) : Option (Int × (List (S_Column))) := laws_markColumnS.l0 k l0 a1 0
theorem laws_markColumnS.calls (k : Nat) (P0_ : Nat → Prop) (u9000_ : Value) (l0 : List (S_Column)) (a1 : Int) (r1 : Int) (r2 : List (S_Column)) (w0 w : World) (hB : Below w0.heap.size w0 w) (ho0 : Kd.R k_Column 65 w w0.heap.size P0_ u9000_ l0) (h : laws_markColumnS.f k l0 a1 = some (r1, r2)) :
  Calls Try.prog 38 #[u9000_, .int .i64 a1] w fun e w' => e = .returned (.int .i64 r1) ∧ Kd.R k_Column 65 w' w0.heap.size (fun k_ => (P0_ k_ ∨ w.heap.size ≤ k_)) u9000_ r2 ∧ Below w0.heap.size w0 w' ∧ Kept w w' (fun k_ => P0_ k_) := by
 have HO0 := Aside0.mk (show Kd.R k_Column 65 w w0.heap.size (fun k_ => (P0_ k_ ∨ w.heap.size ≤ k_)) u9000_ l0 from Kd.R_mono ho0 (fun k_ hk => (.inl hk)))
 have HK := Aside0.mk (Kept.refl w (fun k_ => P0_ k_))
 have HW0 := Aside0.mk hB.size
 have HB := Aside0.mk hB
 clear hB
 have H : (laws_markColumnS.l0 k l0 a1 0) = some (r1, r2) := h
 clear h
 have H' := Aside0.mk H
 clear H
 go_enter Try.func38, Try.ntmps38
 go_wp2
 go_loopg [1, 5] k (fun kq v1 v5 w' => ∃ (x0_1 : List (S_Column)) (x1_1 : Int) (x5_1 : Int), v1 = .int .i64 x1_1 ∧ v5 = .int .i64 x5_1 ∧ Aside0 (laws_markColumnS.l0 kq x0_1 x1_1 x5_1 = some (r1, r2)) ∧ Aside0 (kq ≤ k) ∧ Aside0 (Kd.R k_Column 65 w' w0.heap.size (fun k_ => (P0_ k_ ∨ w.heap.size ≤ k_)) u9000_ x0_1) ∧ Aside0 (Kept w w' (fun k_ => P0_ k_)) ∧ Aside0 (Below w0.heap.size w0 w'))
 case atStart => exact ⟨(l0), (a1), (0), TF, TF, H', ⟨Nat.le_refl _⟩, RW HO0, ⟨TK⟩, ⟨TB⟩⟩
 case round =>
  clear H'
  obtain ⟨x0_1, x1_1, x5_1, rfl, rfl, HA, HK1, HO_0, HK, HB⟩ := hrel
  cases gk with
  | zero => exact absurd HA.out (by simp [laws_markColumnS.l0])
  | succ k1 =>
   have H := HA.out
   clear HA
   simp only [laws_markColumnS.l0] at H
   by_cases c3 : x5_1 < (x0_1.length : Int)
   ·rw [if_pos c3] at H
    have c3b0 : decide (x5_1 < (x0_1.length : Int)) = true := decide_eq_true c3
    clear c3
    obtain ⟨c4, H⟩ := ifn H
    have c4b0 : decide (0 ≤ x5_1) = true := decide_eq_true c4
    clear c4
    obtain ⟨y384, hy384⟩ : ∃ y_ : List (S_Column), y_ = (x0_1.set (x5_1 : Int).toNat (⟨x1_1, (rd_TColumn x0_1 x5_1).f1⟩ : S_Column)) := ⟨_, rfl⟩
    replace H : (laws_markColumnS.l0 k1 (y384.set (x5_1 : Int).toNat (⟨(rd_TColumn y384 x5_1).f0, wrap64 (x1_1 + 1)⟩ : S_Column)) (wrap64 ((wrap64 (x1_1 + 1)) + 1)) (wrap64 (x5_1 + 1))) = some (r1, r2) := by first | (rw [hy384]; with_reducible exact H) | (have H2_ := (Option.bind_some _ _).symm.trans H; rw [hy384]; with_reducible exact H2_) | (have H2_ := (Option.bind_some _ _).symm.trans H; with_reducible exact H2_) | with_reducible exact H | (rw [hy384]; exact H) | exact H
    have Ny384 := Aside0.mk hy384
    clear hy384
    obtain ⟨y385, hy385⟩ : ∃ y_ : List (S_Column), y_ = (y384.set (x5_1 : Int).toNat (⟨(rd_TColumn y384 x5_1).f0, wrap64 (x1_1 + 1)⟩ : S_Column)) := ⟨_, rfl⟩
    replace H : (laws_markColumnS.l0 k1 y385 (wrap64 ((wrap64 (x1_1 + 1)) + 1)) (wrap64 (x5_1 + 1))) = some (r1, r2) := by first | (rw [hy385]; with_reducible exact H) | (have H2_ := (Option.bind_some _ _).symm.trans H; rw [hy385]; with_reducible exact H2_) | (have H2_ := (Option.bind_some _ _).symm.trans H; with_reducible exact H2_) | with_reducible exact H | (rw [hy385]; exact H) | exact H
    have Ny385 := Aside0.mk hy385
    clear hy385
    have H' := Aside0.mk H
    clear H
    obtain ⟨Ao7, co7, eo7⟩ := Kd.R_slice HO_0.out
    subst eo7
    have p5 : 0 ≤ (x5_1 : Int) := TD
    have q5 : (x5_1 : Int) < ((x0_1.length : Int) : Int) := TD
    obtain ⟨go5, co5, eo5, gb5, gl5, cl5, HG5⟩ := Kd.R_form HO_0.out (by omega)
    (first | cases eo5 | (injection eo5 with ea_ en_ ec_; (first | subst ea_ | (injection ea_ with ea_; subst ea_)); subst ec_; clear en_))
    have GB5 := Aside0.mk gb5
    have GG5 := Aside0.mk HG5
    clear gb5 gl5 HG5
    have HMgo5 := Aside0.mk (show (P0_ go5 ∨ w.heap.size ≤ go5) from (HO_0.out.1 _ rfl))
    obtain ⟨ce5, hcl5, hM5, hcc5, hfr5⟩ := Kd.R_elem HO_0.out z_Column (x5_1 : Int) p5 q5
    obtain rfl := k_Column_openM hM5
    have hx5_0 : wr.cell? ⟨go5, (x5_1 : Int).toNat * 2, none⟩ = some (.int .i64 ((rd_TColumn x0_1 x5_1).f0)) := hcc5 0 _ rfl
    have hx5_1 : wr.cell? ⟨go5, (x5_1 : Int).toNat * 2 + 1, none⟩ = some (.int .i64 ((rd_TColumn x0_1 x5_1).f1)) := hcc5 1 _ rfl
    have hf5_0 : wr.frozen? ⟨go5, (x5_1 : Int).toNat * 2, none⟩ = false := hfr5 0
    have hf5_1 : wr.frozen? ⟨go5, (x5_1 : Int).toNat * 2 + 1, none⟩ = false := hfr5 1
    clear hcl5 hcc5 hfr5 hM5
    replace p5 := eq_true p5
    replace q5 := eq_true q5
    have HX8 := Aside0.mk (show Kd.R k_Column 65 wr w0.heap.size (fun k_ => (P0_ k_ ∨ w.heap.size ≤ k_)) (.slice (some ⟨go5, 0, none⟩) x0_1.length co7) x0_1 from (RW HO_0).out)
    obtain ⟨ce8, hcl8, hM8, hcc8, hfr8⟩ := Kd.R_elem HX8.out z_Column (x5_1 : Int) TD (by have h_ : (x5_1 : Int) < ((x0_1.length : Int) : Int) := TD; first | exact h_ | (have e_ := (Kd.R_reads' HO_0.out).1; omega) | simpa using h_)
    obtain rfl := k_Column_openM hM8
    have HP8 := Kd.R_seg HX8.out (x5_1 : Int) TD (by have h_ : (x5_1 : Int) < ((x0_1.length : Int) : Int) := TD; first | exact h_ | (have e_ := (Kd.R_reads' HO_0.out).1; omega) | simpa using h_) (seg := [.int .i64 x1_1]) (j := 0) hcl8 hcc8 (show 1 ≤ 2 from by decide) (x' := (⟨x1_1, (rd_TColumn x0_1 x5_1).f1⟩ : S_Column)) (k_Column_mkM _ _ _ (⟨x1_1, (rd_TColumn x0_1 x5_1).f1⟩ : S_Column) ) (fun _ hk => hk)
    have hx8_0 := hcc8 0 _ rfl
    (try simp only [show (k_Column).sz = 2 from rfl, Nat.mul_one, Nat.add_zero] at hx8_0)
    have hf8_0 := hfr8 0
    (try simp only [show (k_Column).sz = 2 from rfl, Nat.mul_one, Nat.add_zero] at hf8_0)
    clear hcl8 hcc8 hfr8 hM8
    go_wp2_with (first | ((with_reducible refine gate_store (t := 3) (p := 16) rfl ?_); refine store_event (t := 3) (p := 16) (v := ?vo_w9) (w1 := (wr.setCell ⟨go5, (x5_1 : Int).toNat * 2, none⟩ (.int .i64 x1_1))) ?hg ?ho ?hn ?hr ?_; (case ho => rfl); (case hg => rfl); (case hn => rfl); (case hr => first | (go_simp; done) | (go_simp; rfl)); intro w9 hw; have hg : wr.grownBy w9 (some go5) := (by rw [hw]; exact HP8.2); have hp_ : Kd.R k_Column 65 w9 w0.heap.size (fun k_ => (P0_ k_ ∨ w.heap.size ≤ k_)) (.slice (some ⟨go5, 0, none⟩) x0_1.length co7) y384 := (by rw [hw, Ny384.out]; exact HP8.1); clear HP8; replace HB := Aside0.mk ((by rw [hw]; exact below_set (HB.out) GB5.out : Below w0.heap.size w0 w9)); replace HK := Aside0.mk (Kept.of_grown (S := (fun k_ => P0_ k_)) hg TK (fun k_ e_ => (HO_0.out.1 k_ e_))); replace HO_0 := Aside0.mk (hp_); clear hg hw hp_; have p6 : 0 ≤ (x5_1 : Int) := TD; have q6 : (x5_1 : Int) < ((x0_1.length : Int) : Int) := TD; obtain ⟨ce6, hcl6, hM6, hcc6, hfr6⟩ := Kd.R_elem HO_0.out z_Column (x5_1 : Int) p6 q6; obtain rfl := k_Column_openM hM6; have hx6_0 : w9.cell? ⟨go5, (x5_1 : Int).toNat * 2, none⟩ = some (.int .i64 ((rd_TColumn y384 x5_1).f0)) := hcc6 0 _ rfl; have hx6_1 : w9.cell? ⟨go5, (x5_1 : Int).toNat * 2 + 1, none⟩ = some (.int .i64 ((rd_TColumn y384 x5_1).f1)) := hcc6 1 _ rfl; have hf6_0 : w9.frozen? ⟨go5, (x5_1 : Int).toNat * 2, none⟩ = false := hfr6 0; have hf6_1 : w9.frozen? ⟨go5, (x5_1 : Int).toNat * 2 + 1, none⟩ = false := hfr6 1; clear hcl6 hcc6 hfr6 hM6; replace p6 := eq_true p6; replace q6 := eq_true q6; have HX10 := Aside0.mk (show Kd.R k_Column 65 w9 w0.heap.size (fun k_ => (P0_ k_ ∨ w.heap.size ≤ k_)) (.slice (some ⟨go5, 0, none⟩) x0_1.length co7) y384 from (RW HO_0).out); obtain ⟨ce10, hcl10, hM10, hcc10, hfr10⟩ := Kd.R_elem HX10.out z_Column (x5_1 : Int) TD (by have h_ : (x5_1 : Int) < ((x0_1.length : Int) : Int) := TD; first | exact h_ | (have e_ := (Kd.R_reads' HO_0.out).1; omega) | simpa using h_); obtain rfl := k_Column_openM hM10; have HP10 := Kd.R_seg HX10.out (x5_1 : Int) TD (by have h_ : (x5_1 : Int) < ((x0_1.length : Int) : Int) := TD; first | exact h_ | (have e_ := (Kd.R_reads' HO_0.out).1; omega) | simpa using h_) (seg := [.int .i64 (wrap64 (x1_1 + 1))]) (j := 1) hcl10 hcc10 (show 2 ≤ 2 from by decide) (x' := (⟨(rd_TColumn y384 x5_1).f0, wrap64 (x1_1 + 1)⟩ : S_Column)) (k_Column_mkM _ _ _ (⟨(rd_TColumn y384 x5_1).f0, wrap64 (x1_1 + 1)⟩ : S_Column) ) (fun _ hk => hk); have hx10_1 := hcc10 1 _ rfl; (try simp only [show (k_Column).sz = 2 from rfl, Nat.mul_one, Nat.add_zero] at hx10_1); have hf10_1 := hfr10 1; (try simp only [show (k_Column).sz = 2 from rfl, Nat.mul_one, Nat.add_zero] at hf10_1); clear hcl10 hcc10 hfr10 hM10) | ((with_reducible refine gate_store (t := 3) (p := 23) rfl ?_); refine store_event (t := 3) (p := 23) (v := ?vo_w11) (w1 := (w9.setCell ⟨go5, (x5_1 : Int).toNat * 2 + 1, none⟩ (.int .i64 (wrap64 (x1_1 + 1))))) ?hg ?ho ?hn ?hr ?_; (case ho => rfl); (case hg => rfl); (case hn => rfl); (case hr => first | (go_simp; done) | (go_simp; rfl)); intro w11 hw; have hg : w9.grownBy w11 (some go5) := (by rw [hw]; exact HP10.2); have hp_ : Kd.R k_Column 65 w11 w0.heap.size (fun k_ => (P0_ k_ ∨ w.heap.size ≤ k_)) (.slice (some ⟨go5, 0, none⟩) x0_1.length co7) y385 := (by rw [hw, Ny385.out]; exact HP10.1); clear HP10; replace HB := Aside0.mk ((by rw [hw]; exact below_set (HB.out) GB5.out : Below w0.heap.size w0 w11)); replace HK := Aside0.mk (Kept.of_grown (S := (fun k_ => P0_ k_)) hg TK (fun k_ e_ => (HO_0.out.1 k_ e_))); replace HO_0 := Aside0.mk (hp_); clear hg hw hp_))
    go_roundg k1
    case measure => have := HK1.out; omega
    case rel => exact ⟨(y385), (wrap64 ((wrap64 (x1_1 + 1)) + 1)), (wrap64 (x5_1 + 1)), TF, TF, H', ⟨TM⟩, RW HO_0, ⟨TK⟩, ⟨TB⟩⟩
   ·rw [if_neg c3] at H
    have c3b0 : decide (x5_1 < (x0_1.length : Int)) = false := decide_eq_false c3
    clear c3
    simp only [Option.some.injEq, Prod.mk.injEq] at H
    obtain ⟨rfl, rfl⟩ := H
    obtain ⟨Ao12, co12, eo12⟩ := Kd.R_slice HO_0.out
    subst eo12
    go_wp2
    go_ret
    exact ⟨TE, (RW HO_0).out, TB, TK⟩
end
section
/-! ### laws_heldColumnS: function 44 -/
def laws_heldColumnS.l0 : Nat → List (S_Column) → Int → Int → Option (Int)
 | 0, _, _, _ => none
 | k + 1, x0, x1, x5 => if x5 < (x0.length : Int) then (if 0 ≤ x5 then (if ((rd_TColumn x0 x5).f0) = x1 then (if ((rd_TColumn x0 x5).f1) = (wrap64 (x1 + 1)) then (laws_heldColumnS.l0 k x0 (wrap64 ((wrap64 (x1 + 1)) + 1)) (wrap64 (x5 + 1))) else (some (-1))) else (some (-1))) else (none)) else (some x1)
def laws_heldColumnS.f (k : Nat) (l0 : List (S_Column)) (a1 : Int) : Option (Int) := laws_heldColumnS.l0 k l0 a1 0
theorem laws_heldColumnS.calls (k : Nat) (A0 : Option Addr) (c0 : Nat) (l0 : List (S_Column)) (a1 : Int) (r : Int) (w : World) (hr0 : Kd.C k_Column w A0 l0.length l0) (hc0 : l0.length ≤ c0) (h : laws_heldColumnS.f k l0 a1 = some r) :
  Calls Try.prog 44 #[.slice A0 l0.length c0, .int .i64 a1] w fun e w' => e = .returned (.int .i64 r) ∧ Drawn0 w w' := by
 have HR0 := Aside0.mk hr0
 have HC0 := Aside0.mk hc0
 clear hr0 hc0
 have H : (laws_heldColumnS.l0 k l0 a1 0) = some r := h
 clear h
 have H' := Aside0.mk H
 clear H
 go_enter Try.func44, Try.ntmps44
 go_wp2
 go_loopg [1, 5] k (fun kq v1 v5 w' => ∃ (x1_1 : Int) (x5_1 : Int), v1 = .int .i64 x1_1 ∧ v5 = .int .i64 x5_1 ∧ Aside0 (laws_heldColumnS.l0 kq l0 x1_1 x5_1 = some r) ∧ Aside0 (kq ≤ k) ∧ Drawn0 w w')
 case atStart => exact ⟨(a1), (0), TF, TF, H', ⟨Nat.le_refl _⟩, TN⟩
 case round =>
  clear H'
  obtain ⟨x1_1, x5_1, rfl, rfl, HA, HK1, ⟨m1, rfl⟩⟩ := hrel
  cases gk with
  | zero => exact absurd HA.out (by simp [laws_heldColumnS.l0])
  | succ k1 =>
   have H := HA.out
   clear HA
   simp only [laws_heldColumnS.l0] at H
   by_cases c3 : x5_1 < (l0.length : Int)
   ·rw [if_pos c3] at H
    have c3b0 : decide (x5_1 < (l0.length : Int)) = true := decide_eq_true c3
    clear c3
    obtain ⟨c4, H⟩ := ifn H
    have c4b0 : decide (0 ≤ x5_1) = true := decide_eq_true c4
    clear c4
    by_cases c5 : ((rd_TColumn l0 x5_1).f0) = x1_1
    ·rw [if_pos c5] at H
     have c5b0 : (((rd_TColumn l0 x5_1).f0) == x1_1) = true := beq_iff_eq.mpr c5
     have c5b1 : (((rd_TColumn l0 x5_1).f0) != x1_1) = false := bne_eq_false_iff_eq.mpr c5
     clear c5
     by_cases c6 : ((rd_TColumn l0 x5_1).f1) = (wrap64 (x1_1 + 1))
     ·rw [if_pos c6] at H
      have c6b0 : (((rd_TColumn l0 x5_1).f1) == (wrap64 (x1_1 + 1))) = true := beq_iff_eq.mpr c6
      have c6b1 : (((rd_TColumn l0 x5_1).f1) != (wrap64 (x1_1 + 1))) = false := bne_eq_false_iff_eq.mpr c6
      clear c6
      have H' := Aside0.mk H
      clear H
      have p386 : 0 ≤ (x5_1 : Int) := TD
      have q386 : x5_1 < (l0.length : Int) := TD
      obtain ⟨ad386, e386, hx386_0, hx386_1⟩ := at_TColumn HR0.out x5_1 p386 q386
      cases e386
      replace p386 := eq_true p386
      replace q386 := eq_true q386
      have p387 : 0 ≤ (x5_1 : Int) := TD
      have q387 : x5_1 < (l0.length : Int) := TD
      obtain ⟨ad387, e387, hx387_0, hx387_1⟩ := at_TColumn HR0.out x5_1 p387 q387
      obtain rfl : ad386 = ad387 := (by injection e387)
      replace p387 := eq_true p387
      replace q387 := eq_true q387
      go_wp2
      go_roundg k1
      case measure => have := HK1.out; omega
      case rel => exact ⟨(wrap64 ((wrap64 (x1_1 + 1)) + 1)), (wrap64 (x5_1 + 1)), TF, TF, H', ⟨TM⟩, TN⟩
     ·rw [if_neg c6] at H
      have c6b0 : (((rd_TColumn l0 x5_1).f1) == (wrap64 (x1_1 + 1))) = false := beq_eq_false_iff_ne.mpr c6
      have c6b1 : (((rd_TColumn l0 x5_1).f1) != (wrap64 (x1_1 + 1))) = true := bne_iff_ne.mpr c6
      obtain rfl := Option.some.inj H
      have p386 : 0 ≤ (x5_1 : Int) := TD
      have q386 : x5_1 < (l0.length : Int) := TD
      obtain ⟨ad386, e386, hx386_0, hx386_1⟩ := at_TColumn HR0.out x5_1 p386 q386
      cases e386
      replace p386 := eq_true p386
      replace q386 := eq_true q386
      have p387 : 0 ≤ (x5_1 : Int) := TD
      have q387 : x5_1 < (l0.length : Int) := TD
      obtain ⟨ad387, e387, hx387_0, hx387_1⟩ := at_TColumn HR0.out x5_1 p387 q387
      obtain rfl : ad386 = ad387 := (by injection e387)
      replace p387 := eq_true p387
      replace q387 := eq_true q387
      go_wp2
      go_ret
      exact ⟨TF, TN⟩
    ·rw [if_neg c5] at H
     have c5b0 : (((rd_TColumn l0 x5_1).f0) == x1_1) = false := beq_eq_false_iff_ne.mpr c5
     have c5b1 : (((rd_TColumn l0 x5_1).f0) != x1_1) = true := bne_iff_ne.mpr c5
     obtain rfl := Option.some.inj H
     have p386 : 0 ≤ (x5_1 : Int) := TD
     have q386 : x5_1 < (l0.length : Int) := TD
     obtain ⟨ad386, e386, hx386_0, hx386_1⟩ := at_TColumn HR0.out x5_1 p386 q386
     cases e386
     replace p386 := eq_true p386
     replace q386 := eq_true q386
     go_wp2
     go_ret
     exact ⟨TF, TN⟩
   ·rw [if_neg c3] at H
    have c3b0 : decide (x5_1 < (l0.length : Int)) = false := decide_eq_false c3
    clear c3
    obtain rfl := Option.some.inj H
    go_wp2
    go_ret
    exact ⟨TF, TN⟩
end
section
/-! ### laws_FnExactAliasOf: function 10 -/
mutual
def laws_FnExactAliasOf.j0 : Nat → List Int → List (S_Column) → Bool → List Int → List (S_Column) → Bool → Bool → Option (Bool)
 | 0, _, _, _, _, _, _, _ => none
 | k + 1, x0, x3, x4, x5, x6, x7, x37 => if x37 = true then (some false) else ((laws_toIntS.f k x0).bind fun t403 => ((laws_eqIntS.f k x5 t403).bind fun t406 => (if t406 = true then ((laws_markIntS.f k x5 1).bind fun bt407 => (if bt407.1 < 0 then (laws_FnExactAliasOf.j1 k x0 x3 x4 x6 true) else ((laws_eqColumnS.f k x6 x3).bind fun t409 => (if t409 = true then (laws_FnExactAliasOf.j1 k x0 x3 x4 x6 (x7 != x4)) else (laws_FnExactAliasOf.j1 k x0 x3 x4 x6 true))))) else (some false))))
def laws_FnExactAliasOf.j1 : Nat → List Int → List (S_Column) → Bool → List (S_Column) → Bool → Option (Bool)
 | 0, _, _, _, _, _ => none
 | k + 1, x0, x3, x4, x6, x58 => if x58 = true then (some false) else ((laws_markColumnS.f k x6 1).bind fun bt410 => ((laws_heldColumnS.f k bt410.2 1).bind fun t412 => (if t412 < 0 then (some false) else (if t412 = bt410.1 then ((laws_toIntS.f k x0).bind fun t413 => ((impl_AliasOf.f k t413).bind fun bt416 => ((laws_eqColumnS.f k bt416.1 x3).bind fun t420 => (if t420 = true then (laws_FnExactAliasOf.j2 k bt410.2 bt410.1 (bt416.2 != x4)) else (laws_FnExactAliasOf.j2 k bt410.2 bt410.1 true))))) else (some false)))))
def laws_FnExactAliasOf.j2 : Nat → List (S_Column) → Int → Bool → Option (Bool)
 | 0, _, _, _ => none
 | k + 1, x6, x9, x84 => if x84 = true then (some false) else ((laws_heldColumnS.f k x6 1).bind fun t421 => (if t421 < 0 then (some false) else (if t421 = x9 then (some true) else (some false))))
end
def laws_FnExactAliasOf.f (k : Nat) (l0 : List Int) : Option (Bool) := if (l0.length : Int) > 1048576 then (some true) else ((laws_toIntS.f k l0).bind fun t388 => ((spec_AliasOf.f k t388).bind fun bt391 => ((laws_toIntS.f k l0).bind fun t395 => ((impl_AliasOf.f k t395).bind fun bt398 => ((laws_eqColumnS.f k bt398.1 bt391.1).bind fun t402 => (if t402 = true then (laws_FnExactAliasOf.j0 k l0 bt391.1 bt391.2 t395 bt398.1 bt398.2 (bt398.2 != bt391.2)) else (laws_FnExactAliasOf.j0 k l0 bt391.1 bt391.2 t395 bt398.1 bt398.2 true)))))))
theorem laws_FnExactAliasOf.calls (k : Nat) (A0 : Option Addr) (c0 : Nat) (l0 : List Int) (r : Bool) (w : World) (hr0 : Kd.C (Kd.int .i64) w A0 l0.length l0) (hc0 : l0.length ≤ c0) (h : laws_FnExactAliasOf.f k l0 = some r) :
  Calls Try.prog 10 #[.slice A0 l0.length c0] w fun e w' => e = .returned (.bool r) ∧ Below w.heap.size w w' := by
 have HR0 := Aside0.mk hr0
 have HC0 := Aside0.mk hc0
 clear hr0 hc0
 have HB := Aside0.mk (Below.refl w.heap.size w)
 have H : (if (l0.length : Int) > 1048576 then (some true) else ((laws_toIntS.f k l0).bind fun t388 => ((spec_AliasOf.f k t388).bind fun bt391 => ((laws_toIntS.f k l0).bind fun t395 => ((impl_AliasOf.f k t395).bind fun bt398 => ((laws_eqColumnS.f k bt398.1 bt391.1).bind fun t402 => (if t402 = true then (laws_FnExactAliasOf.j0 k l0 bt391.1 bt391.2 t395 bt398.1 bt398.2 (bt398.2 != bt391.2)) else (laws_FnExactAliasOf.j0 k l0 bt391.1 bt391.2 t395 bt398.1 bt398.2 true)))))))) = some r := h
 clear h
 by_cases c2 : (l0.length : Int) > 1048576
 ·rw [if_pos c2] at H
  have c2b0 : decide (1048576 < (l0.length : Int)) = true := decide_eq_true c2
  have c2b1 : decide (1048576 < l0.length) = true := decide_eq_true (by omega)
  clear c2
  obtain rfl := Option.some.inj H
  go_enter Try.func10, Try.ntmps10
  go_wp2
  go_ret
  exact ⟨TE, TB⟩
 ·rw [if_neg c2] at H
  have c2b0 : decide (1048576 < (l0.length : Int)) = false := decide_eq_false c2
  have c2b1 : decide (1048576 < l0.length) = false := decide_eq_false (by omega)
  clear c2
  obtain ⟨t388, A3, H⟩ := bnd H
  obtain ⟨⟨t391, t392⟩, A4, H⟩ := bnd H
  try dsimp only at H
  obtain ⟨t395, A5, H⟩ := bnd H
  obtain ⟨⟨t398, t399⟩, A6, H⟩ := bnd H
  try dsimp only at H
  have HC7 := Aside0.mk H
  clear H
  go_enter Try.func10, Try.ntmps10
  go_upto_region 6 with (first | ((with_reducible refine gate_callee (f := 16) rfl ?_); refine goesL_ (some 18) rfl rfl Try.func16 KR rfl #[.slice A0 l0.length c0] rfl TA ?_; (with_reducible refine (laws_toIntS.calls k _ _ l0 t388 _ ?side1 ?side2 A3.out).mono ?_); (case side1 => exact CW (HR0.out)); (case side2 => exact HC0.out); rintro e w8 ⟨v389, rfl, ho0, hb⟩; refine ⟨_, rfl, ?_⟩; have HO390 := RL ho0; replace HB := BS hb; clear hb; (try clear ho0); obtain ⟨Ao9, co9, eo9⟩ := Kd.R_slice HO390.out; subst eo9) | ((with_reducible refine gate_callee (f := 42) rfl ?_); refine goesL_ (some 19) rfl rfl Try.func42 KR rfl #[.slice Ao9 t388.length co9] rfl TA ?_; (with_reducible refine (spec_AliasOf.calls k _ _ t388 t391 t392 _ ?side1 ?side2 A4.out).mono ?_); (case side1 => exact CW ((Kd.R_reads' HO390.out).2.2)); (case side2 => exact RI HO390); rintro e w10 ⟨v393, rfl, ho0, hb⟩; refine ⟨_, rfl, ?_⟩; replace HO390 := RB HO390 hb; have HO394 := RL ho0; replace HB := BS hb; clear hb; (try clear ho0)) | ((with_reducible refine gate_callee (f := 16) rfl ?_); refine goesL_ (some 23) rfl rfl Try.func16 KR rfl #[.slice A0 l0.length c0] rfl TA ?_; (with_reducible refine (laws_toIntS.calls k _ _ l0 t395 _ ?side1 ?side2 A5.out).mono ?_); (case side1 => exact CW ((Kd.C_below HR0.out HB.out))); (case side2 => exact HC0.out); rintro e w11 ⟨v396, rfl, ho0, hb⟩; refine ⟨_, rfl, ?_⟩; replace HO394 := RB HO394 hb; have HO397 := RL (NW ho0 HO390); replace HO390 := EL HO390 ho0 hb; replace HB := BS hb; clear hb; (try clear ho0); obtain ⟨Ao12, co12, eo12⟩ := Kd.R_slice HO397.out; subst eo12) | ((with_reducible refine gate_callee (f := 43) rfl ?_); refine goesL_ (some 26) rfl rfl Try.func43 KR rfl #[.slice Ao12 t395.length co12] rfl TA ?_; (with_reducible refine (impl_AliasOf.calls k _ _ t395 t398 t399 _ ?side1 ?side2 A6.out).mono ?_); (case side1 => exact CW ((Kd.R_reads' HO397.out).2.2)); (case side2 => exact RI HO397); rintro e w13 ⟨v400, rfl, ho0, hb⟩; refine ⟨_, rfl, ?_⟩; replace HO390 := RB HO390 hb; replace HO397 := RB HO397 hb; have HO401 := RL (NW ho0 HO394); replace HO394 := EL HO394 ho0 hb; replace HB := BS hb; clear hb; (try clear ho0)))
  (try simp only [Act.put, List.setIfInBounds_toArray, List.set_cons_zero, List.set_cons_succ])
  go_cut [37] (fun v37 wc => ∃ (kq : Nat) (x37_6 : Bool), v37 = .bool x37_6 ∧ Aside0 (laws_FnExactAliasOf.j0 kq l0 t391 t392 t395 t398 t399 x37_6 = some r) ∧ Aside0 (kq ≤ k) ∧ Aside0 (Kd.R k_Column 65 wc w.heap.size (fun k_ => some k_ ≠ (v400 : Value).ownBlock) v393 t391) ∧ Aside0 (Kd.R (Kd.int .i64) 3 wc w.heap.size (fun _ => True) (.slice Ao12 t395.length co12) t395) ∧ Aside0 (Kd.R k_Column 65 wc w.heap.size (fun k_ => some k_ ≠ (v393 : Value).ownBlock) v400 t398) ∧ Aside0 (Below w.heap.size w wc))
  case first =>
   have H := HC7.out
   clear HC7
   obtain ⟨t402, A14, H⟩ := bnd H
   by_cases c15 : t402 = true
   ·subst c15
    replace H := ift H
    have H' := Aside0.mk H
    clear H
    obtain ⟨Ao16, co16, eo16⟩ := Kd.R_slice HO401.out
    subst eo16
    obtain ⟨Ao17, co17, eo17⟩ := Kd.R_slice HO394.out
    subst eo17
    go_wp2_with (first | ((with_reducible refine gate_callee (f := 23) rfl ?_); refine goesL_ (some 31) rfl rfl Try.func23 KR rfl #[.slice Ao16 t398.length co16, .slice Ao17 t391.length co17] rfl TA ?_; (with_reducible refine (laws_eqColumnS.calls k _ _ t398 _ _ t391 true _ ?side1 ?side2 ?side3 ?side4 A14.out).mono ?_); (case side1 => exact CW ((Kd.R_reads' HO401.out).2.2)); (case side2 => exact RI HO401); (case side3 => exact CW ((Kd.R_reads' HO394.out).2.2)); (case side4 => exact RI HO394); rintro e w18 ⟨rfl, hb⟩; refine ⟨_, rfl, ?_⟩; replace HO390 := RB HO390 hb; replace HO394 := RB HO394 hb; replace HO397 := RB HO397 hb; replace HO401 := RB HO401 hb; replace HB := BS hb; clear hb))
    go_meet
    case rel => exact ⟨_, ((t399 != t392)), TF, H', ⟨by first | omega | exact Nat.le_refl _⟩, MO HO394, ⟨by (with_reducible repeat (first | apply Kd.R_alloc | apply Kd.R_drewN | apply Kd.R_drew)); exact Kd.R_mono HO397.out (fun _ hk => trivial)⟩, MO HO401, ⟨TB⟩⟩
   ·replace c15 := Bool.eq_false_iff.mpr c15
    subst c15
    replace H := iff' H
    have H' := Aside0.mk H
    clear H
    obtain ⟨Ao19, co19, eo19⟩ := Kd.R_slice HO401.out
    subst eo19
    obtain ⟨Ao20, co20, eo20⟩ := Kd.R_slice HO394.out
    subst eo20
    go_wp2_with (first | ((with_reducible refine gate_callee (f := 23) rfl ?_); refine goesL_ (some 31) rfl rfl Try.func23 KR rfl #[.slice Ao19 t398.length co19, .slice Ao20 t391.length co20] rfl TA ?_; (with_reducible refine (laws_eqColumnS.calls k _ _ t398 _ _ t391 false _ ?side1 ?side2 ?side3 ?side4 A14.out).mono ?_); (case side1 => exact CW ((Kd.R_reads' HO401.out).2.2)); (case side2 => exact RI HO401); (case side3 => exact CW ((Kd.R_reads' HO394.out).2.2)); (case side4 => exact RI HO394); rintro e w21 ⟨rfl, hb⟩; refine ⟨_, rfl, ?_⟩; replace HO390 := RB HO390 hb; replace HO394 := RB HO394 hb; replace HO397 := RB HO397 hb; replace HO401 := RB HO401 hb; replace HB := BS hb; clear hb))
    go_meet
    case rel => exact ⟨_, (true), TF, H', ⟨by first | omega | exact Nat.le_refl _⟩, MO HO394, ⟨by (with_reducible repeat (first | apply Kd.R_alloc | apply Kd.R_drewN | apply Kd.R_drew)); exact Kd.R_mono HO397.out (fun _ hk => trivial)⟩, MO HO401, ⟨TB⟩⟩
  case rest =>
   clear HC7
   obtain ⟨kq, x37_6, rfl, HA, HJ6, HO_3, HO_5, HO_6, HB⟩ := hcut
   cases kq with
   | zero => exact absurd HA.out (by simp [laws_FnExactAliasOf.j0])
   | succ kj6 =>
    have H := HA.out
    clear HA
    simp only [laws_FnExactAliasOf.j0] at H
    by_cases c22 : x37_6 = true
    ·subst c22
     replace H := ift H
     obtain rfl := Option.some.inj H
     go_wp2
     go_ret
     exact ⟨TE, TB⟩
    ·replace c22 := Bool.eq_false_iff.mpr c22
     subst c22
     replace H := iff' H
     obtain ⟨t403, A23, H⟩ := bnd H
     obtain ⟨t406, A24, H⟩ := bnd H
     by_cases c25 : t406 = true
     ·subst c25
      replace H := ift H
      obtain ⟨⟨t407, t408⟩, A26, H⟩ := bnd H
      try dsimp only at H
      have HC27 := Aside0.mk H
      clear H
      go_upto_region 12 with (first | ((with_reducible refine gate_callee (f := 16) rfl ?_); refine goesL_ (some 40) rfl rfl Try.func16 KR rfl #[.slice A0 l0.length c0] rfl TA ?_; (with_reducible refine (laws_toIntS.calls kj6 _ _ l0 t403 _ ?side1 ?side2 A23.out).mono ?_); (case side1 => exact CW ((Kd.C_below HR0.out HB.out))); (case side2 => exact HC0.out); rintro e w28 ⟨v404, rfl, ho0, hb⟩; refine ⟨_, rfl, ?_⟩; replace HO_3 := RB HO_3 hb; replace HO_6 := RB HO_6 hb; have HO405 := RL (NW ho0 HO_5); replace HO_5 := EL HO_5 ho0 hb; replace HB := BS hb; clear hb; (try clear ho0); obtain ⟨Ao29, co29, eo29⟩ := Kd.R_slice HO405.out; subst eo29) | ((with_reducible refine gate_callee (f := 18) rfl ?_); refine goesL_ (some 41) rfl rfl Try.func18 KR rfl #[.slice Ao12 t395.length co12, .slice Ao29 t403.length co29] rfl TA ?_; (with_reducible refine (laws_eqIntS.calls kj6 _ _ t395 _ _ t403 true _ ?side1 ?side2 ?side3 ?side4 A24.out).mono ?_); (case side1 => exact CW ((Kd.R_reads' HO_5.out).2.2)); (case side2 => exact RI HO_5); (case side3 => exact CW ((Kd.R_reads' HO405.out).2.2)); (case side4 => exact RI HO405); rintro e w' ⟨rfl, ⟨nd, rfl⟩⟩; refine ⟨_, rfl, ?_⟩) | ((with_reducible refine gate_callee (f := 33) rfl ?_); refine goesL_ (some 45) rfl rfl Try.func33 KR rfl #[.slice Ao12 t395.length co12, .int .i64 1] rfl TA ?_; (with_reducible refine (laws_markIntS.calls kj6 (fun k_ => some k_ = (.slice Ao12 t395.length co12 : Value).ownBlock) (.slice Ao12 t395.length co12) t395 1 t407 t408 w _ ?side1 ?side2 A26.out).mono ?_); (case side1 => repeat (first | (with_reducible first | exact HB.out | apply below_alloc | apply pw_below_drewN | apply below_drew1) | exact HB.out)); (case side2 => exact Kd.R_tight rfl HO_5.out); rintro e w30 ⟨rfl, hy0, hb, hkp⟩; refine ⟨_, rfl, ?_⟩; replace HO_3 := Aside0.mk (Kd.R_mono (ok' := fun k_ => some k_ ≠ (v400 : Value).ownBlock) (Kd.R_keptB ((Kd.R_apart' HO_3.out (Kd.R_typed HO_5.out) (by decide))) hkp (fun k_ hk_ hs_ => (hk_.2) hs_)) (fun k_ hk_ => hk_.1.1)); replace HO_6 := Aside0.mk (Kd.R_mono (ok' := fun k_ => some k_ ≠ (v393 : Value).ownBlock) (Kd.R_keptB ((Kd.R_apart' HO_6.out (Kd.R_typed HO_5.out) (by decide))) hkp (fun k_ hk_ hs_ => (hk_.2) hs_)) (fun k_ hk_ => hk_.1.1)); replace HO_5 := Aside0.mk (Kd.R_reok rfl hy0 (fun k_ e_ => HO_5.out.1 k_ e_)); replace HO405 := RK (fun k_ => some k_ ≠ (.slice Ao12 t395.length co12 : Value).ownBlock) HO405 hkp; replace HB := Aside0.mk (hb); clear hb; (try clear hkp); (try clear hy0)))
      (try simp only [Act.put, List.setIfInBounds_toArray, List.set_cons_zero, List.set_cons_succ])
      go_cut [58] (fun v58 wc => ∃ (kq : Nat) (x58_26 : Bool), v58 = .bool x58_26 ∧ Aside0 (laws_FnExactAliasOf.j1 kq l0 t391 t392 t398 x58_26 = some r) ∧ Aside0 (kq ≤ kj6) ∧ Aside0 (Kd.R k_Column 65 wc w.heap.size (fun k_ => some k_ ≠ (v400 : Value).ownBlock) v393 t391) ∧ Aside0 (Kd.R k_Column 65 wc w.heap.size (fun k_ => some k_ ≠ (v393 : Value).ownBlock) v400 t398) ∧ Aside0 (Below w.heap.size w wc))
      case first =>
       have H := HC27.out
       clear HC27
       by_cases c31 : t407 < 0
       ·rw [if_pos c31] at H
        have c31b0 : decide (t407 < 0) = true := decide_eq_true c31
        clear c31
        (first | rw [c31b0] | (simp only [i64_w, i32_w]; rw [c31b0]) | skip)
        have H' := Aside0.mk H
        clear H
        go_wp2
        go_meet
        case rel => exact ⟨_, (true), TF, H', ⟨by have := HJ6.out; first | omega | exact Nat.le_refl _⟩, RW HO_3, RW HO_6, ⟨TB⟩⟩
       ·rw [if_neg c31] at H
        have c31b0 : decide (t407 < 0) = false := decide_eq_false c31
        clear c31
        (first | rw [c31b0] | (simp only [i64_w, i32_w]; rw [c31b0]) | skip)
        obtain ⟨t409, A32, H⟩ := bnd H
        by_cases c33 : t409 = true
        ·subst c33
         replace H := ift H
         have H' := Aside0.mk H
         clear H
         obtain ⟨Ao34, co34, eo34⟩ := Kd.R_slice HO_6.out
         subst eo34
         obtain ⟨Ao35, co35, eo35⟩ := Kd.R_slice HO_3.out
         subst eo35
         go_wp2_with (first | (go_at_call 23; (with_reducible refine (laws_eqColumnS.calls kj6 _ _ t398 _ _ t391 true _ ?side1 ?side2 ?side3 ?side4 A32.out).mono ?_); (case side1 => exact CW ((Kd.R_reads' HO_6.out).2.2)); (case side2 => exact RI HO_6); (case side3 => exact CW ((Kd.R_reads' HO_3.out).2.2)); (case side4 => exact RI HO_3); rintro e w36 ⟨rfl, hb⟩; replace HO_3 := RB HO_3 hb; replace HO_5 := RB HO_5 hb; replace HO_6 := RB HO_6 hb; replace HO405 := RB HO405 hb; replace HB := BS hb; clear hb))
         go_meet
         case rel => exact ⟨_, ((t399 != t392)), TF, H', ⟨by have := HJ6.out; first | omega | exact Nat.le_refl _⟩, RW HO_3, RW HO_6, ⟨TB⟩⟩
        ·replace c33 := Bool.eq_false_iff.mpr c33
         subst c33
         replace H := iff' H
         have H' := Aside0.mk H
         clear H
         obtain ⟨Ao37, co37, eo37⟩ := Kd.R_slice HO_6.out
         subst eo37
         obtain ⟨Ao38, co38, eo38⟩ := Kd.R_slice HO_3.out
         subst eo38
         go_wp2_with (first | (go_at_call 23; (with_reducible refine (laws_eqColumnS.calls kj6 _ _ t398 _ _ t391 false _ ?side1 ?side2 ?side3 ?side4 A32.out).mono ?_); (case side1 => exact CW ((Kd.R_reads' HO_6.out).2.2)); (case side2 => exact RI HO_6); (case side3 => exact CW ((Kd.R_reads' HO_3.out).2.2)); (case side4 => exact RI HO_3); rintro e w39 ⟨rfl, hb⟩; replace HO_3 := RB HO_3 hb; replace HO_5 := RB HO_5 hb; replace HO_6 := RB HO_6 hb; replace HO405 := RB HO405 hb; replace HB := BS hb; clear hb))
         go_meet
         case rel => exact ⟨_, (true), TF, H', ⟨by have := HJ6.out; first | omega | exact Nat.le_refl _⟩, RW HO_3, RW HO_6, ⟨TB⟩⟩
      case rest =>
       clear HC27
       obtain ⟨kq, x58_26, rfl, HA, HJ26, HO_3, HO_6, HB⟩ := hcut
       cases kq with
       | zero => exact absurd HA.out (by simp [laws_FnExactAliasOf.j1])
       | succ kj26 =>
        have H := HA.out
        clear HA
        simp only [laws_FnExactAliasOf.j1] at H
        by_cases c40 : x58_26 = true
        ·subst c40
         replace H := ift H
         obtain rfl := Option.some.inj H
         go_wp2
         go_ret
         exact ⟨TE, TB⟩
        ·replace c40 := Bool.eq_false_iff.mpr c40
         subst c40
         replace H := iff' H
         obtain ⟨⟨t410, t411⟩, A41, H⟩ := bnd H
         try dsimp only at H
         obtain ⟨t412, A42, H⟩ := bnd H
         by_cases c43 : t412 < 0
         ·rw [if_pos c43] at H
          have c43b0 : decide (t412 < 0) = true := decide_eq_true c43
          clear c43
          obtain rfl := Option.some.inj H
          obtain ⟨Ao44, co44, eo44⟩ := Kd.R_slice HO_6.out
          subst eo44
          go_wp2_with (first | ((with_reducible refine gate_callee (f := 38) rfl ?_); refine goesL_ (some 61) rfl rfl Try.func38 KR rfl #[.slice Ao44 t398.length co44, .int .i64 1] rfl TA ?_; (with_reducible refine (laws_markColumnS.calls kj26 (fun k_ => some k_ = (.slice Ao44 t398.length co44 : Value).ownBlock) (.slice Ao44 t398.length co44) t398 1 t410 t411 w _ ?side1 ?side2 A41.out).mono ?_); (case side1 => repeat (first | (with_reducible first | exact HB.out | apply below_alloc | apply pw_below_drewN | apply below_drew1) | exact HB.out)); (case side2 => exact Kd.R_tight rfl HO_6.out); rintro e w45 ⟨rfl, hy0, hb, hkp⟩; refine ⟨_, rfl, ?_⟩; replace HO_3 := RK (fun k_ => some k_ ≠ (.slice Ao44 t398.length co44 : Value).ownBlock) HO_3 hkp; replace HO_6 := Aside0.mk (Kd.R_reok rfl hy0 (fun k_ e_ => HO_6.out.1 k_ e_)); replace HB := Aside0.mk (hb); clear hb; (try clear hkp); (try clear hy0)) | ((with_reducible refine gate_callee (f := 44) rfl ?_); refine goesL_ (some 64) rfl rfl Try.func44 KR rfl #[.slice Ao44 t411.length co44, .int .i64 1] rfl (by (try simp only [List.map_toArray, List.map_cons, List.map_nil]); first | done | (rw [show t411.length = t398.length from (Kd.R_reads' HO_6.out).1.symm] <;> rfl) | rfl | (simp only [List.length_drop, List.length_take]; rfl)) ?_; (with_reducible refine (laws_heldColumnS.calls kj26 _ _ t411 1 t412 _ ?side1 ?side2 A42.out).mono ?_); (case side1 => exact CW ((Kd.R_reads' HO_6.out).2.2)); (case side2 => rw [show t411.length = t398.length from (Kd.R_reads' HO_6.out).1.symm]; exact RI HO_6); rintro e w' ⟨rfl, ⟨nd, rfl⟩⟩; refine ⟨_, rfl, ?_⟩))
          go_ret
          exact ⟨TE, TB⟩
         ·rw [if_neg c43] at H
          have c43b0 : decide (t412 < 0) = false := decide_eq_false c43
          clear c43
          by_cases c46 : t412 = t410
          ·rw [if_pos c46] at H
           have c46b0 : (t412 == t410) = true := beq_iff_eq.mpr c46
           have c46b1 : (t412 != t410) = false := bne_eq_false_iff_eq.mpr c46
           clear c46
           obtain ⟨t413, A47, H⟩ := bnd H
           obtain ⟨⟨t416, t417⟩, A48, H⟩ := bnd H
           try dsimp only at H
           have HC49 := Aside0.mk H
           clear H
           obtain ⟨Ao50, co50, eo50⟩ := Kd.R_slice HO_6.out
           subst eo50
           go_upto_region 23 with (first | ((with_reducible refine gate_callee (f := 38) rfl ?_); refine goesL_ (some 61) rfl rfl Try.func38 KR rfl #[.slice Ao50 t398.length co50, .int .i64 1] rfl TA ?_; (with_reducible refine (laws_markColumnS.calls kj26 (fun k_ => some k_ = (.slice Ao50 t398.length co50 : Value).ownBlock) (.slice Ao50 t398.length co50) t398 1 t410 t411 w _ ?side1 ?side2 A41.out).mono ?_); (case side1 => repeat (first | (with_reducible first | exact HB.out | apply below_alloc | apply pw_below_drewN | apply below_drew1) | exact HB.out)); (case side2 => exact Kd.R_tight rfl HO_6.out); rintro e w51 ⟨rfl, hy0, hb, hkp⟩; refine ⟨_, rfl, ?_⟩; replace HO_3 := RK (fun k_ => some k_ ≠ (.slice Ao50 t398.length co50 : Value).ownBlock) HO_3 hkp; replace HO_6 := Aside0.mk (Kd.R_reok rfl hy0 (fun k_ e_ => HO_6.out.1 k_ e_)); replace HB := Aside0.mk (hb); clear hb; (try clear hkp); (try clear hy0)) | ((with_reducible refine gate_callee (f := 44) rfl ?_); refine goesL_ (some 64) rfl rfl Try.func44 KR rfl #[.slice Ao50 t411.length co50, .int .i64 1] rfl (by (try simp only [List.map_toArray, List.map_cons, List.map_nil]); first | done | (rw [show t411.length = t398.length from (Kd.R_reads' HO_6.out).1.symm] <;> rfl) | rfl | (simp only [List.length_drop, List.length_take]; rfl)) ?_; (with_reducible refine (laws_heldColumnS.calls kj26 _ _ t411 1 t412 _ ?side1 ?side2 A42.out).mono ?_); (case side1 => exact CW ((Kd.R_reads' HO_6.out).2.2)); (case side2 => rw [show t411.length = t398.length from (Kd.R_reads' HO_6.out).1.symm]; exact RI HO_6); rintro e w' ⟨rfl, ⟨nd, rfl⟩⟩; refine ⟨_, rfl, ?_⟩) | ((with_reducible refine gate_callee (f := 16) rfl ?_); refine goesL_ (some 72) rfl rfl Try.func16 KR rfl #[.slice A0 l0.length c0] rfl TA ?_; (with_reducible refine (laws_toIntS.calls kj26 _ _ l0 t413 _ ?side1 ?side2 A47.out).mono ?_); (case side1 => exact CW ((Kd.C_below HR0.out TB))); (case side2 => exact HC0.out); rintro e w52 ⟨v414, rfl, ho0, hb⟩; refine ⟨_, rfl, ?_⟩; replace HO_3 := RB HO_3 hb; replace HO_6 := RB HO_6 hb; have HO415 := RL ho0; replace HB := BS hb; clear hb; (try clear ho0); obtain ⟨Ao53, co53, eo53⟩ := Kd.R_slice HO415.out; subst eo53) | ((with_reducible refine gate_callee (f := 43) rfl ?_); refine goesL_ (some 73) rfl rfl Try.func43 KR rfl #[.slice Ao53 t413.length co53] rfl TA ?_; (with_reducible refine (impl_AliasOf.calls kj26 _ _ t413 t416 t417 _ ?side1 ?side2 A48.out).mono ?_); (case side1 => exact CW ((Kd.R_reads' HO415.out).2.2)); (case side2 => exact RI HO415); rintro e w54 ⟨v418, rfl, ho0, hb⟩; refine ⟨_, rfl, ?_⟩; replace HO415 := RB HO415 hb; have HO419 := RL (NW (NW ho0 HO_3) HO_6); replace HO_3 := EL HO_3 ho0 hb; replace HO_6 := EL HO_6 ho0 hb; replace HB := BS hb; clear hb; (try clear ho0)))
           (try simp only [Act.put, List.setIfInBounds_toArray, List.set_cons_zero, List.set_cons_succ])
           go_cut [84] (fun v84 wc => ∃ (kq : Nat) (x84_48 : Bool), v84 = .bool x84_48 ∧ Aside0 (laws_FnExactAliasOf.j2 kq t411 t410 x84_48 = some r) ∧ Aside0 (kq ≤ kj26) ∧ Aside0 (Kd.R k_Column 65 wc w.heap.size (fun _ => True) (.slice Ao50 t398.length co50) t411) ∧ Aside0 (Below w.heap.size w wc))
           case first =>
            have H := HC49.out
            clear HC49
            obtain ⟨t420, A55, H⟩ := bnd H
            by_cases c56 : t420 = true
            ·subst c56
             replace H := ift H
             have H' := Aside0.mk H
             clear H
             obtain ⟨Ao57, co57, eo57⟩ := Kd.R_slice HO419.out
             subst eo57
             obtain ⟨Ao58, co58, eo58⟩ := Kd.R_slice HO_3.out
             subst eo58
             go_wp2_with (first | ((with_reducible refine gate_callee (f := 23) rfl ?_); refine goesL_ (some 78) rfl rfl Try.func23 KR rfl #[.slice Ao57 t416.length co57, .slice Ao58 t391.length co58] rfl TA ?_; (with_reducible refine (laws_eqColumnS.calls kj26 _ _ t416 _ _ t391 true _ ?side1 ?side2 ?side3 ?side4 A55.out).mono ?_); (case side1 => exact CW ((Kd.R_reads' HO419.out).2.2)); (case side2 => exact RI HO419); (case side3 => exact CW ((Kd.R_reads' HO_3.out).2.2)); (case side4 => exact RI HO_3); rintro e w59 ⟨rfl, hb⟩; refine ⟨_, rfl, ?_⟩; replace HO_3 := RB HO_3 hb; replace HO_6 := RB HO_6 hb; replace HO415 := RB HO415 hb; replace HO419 := RB HO419 hb; replace HB := BS hb; clear hb))
             go_meet
             case rel => exact ⟨_, ((t417 != t392)), TF, H', ⟨by have := HJ6.out; have := HJ26.out; first | omega | exact Nat.le_refl _⟩, ⟨by (with_reducible repeat (first | apply Kd.R_alloc | apply Kd.R_drewN | apply Kd.R_drew)); exact Kd.R_mono HO_6.out (fun _ hk => trivial)⟩, ⟨TB⟩⟩
            ·replace c56 := Bool.eq_false_iff.mpr c56
             subst c56
             replace H := iff' H
             have H' := Aside0.mk H
             clear H
             obtain ⟨Ao60, co60, eo60⟩ := Kd.R_slice HO419.out
             subst eo60
             obtain ⟨Ao61, co61, eo61⟩ := Kd.R_slice HO_3.out
             subst eo61
             go_wp2_with (first | ((with_reducible refine gate_callee (f := 23) rfl ?_); refine goesL_ (some 78) rfl rfl Try.func23 KR rfl #[.slice Ao60 t416.length co60, .slice Ao61 t391.length co61] rfl TA ?_; (with_reducible refine (laws_eqColumnS.calls kj26 _ _ t416 _ _ t391 false _ ?side1 ?side2 ?side3 ?side4 A55.out).mono ?_); (case side1 => exact CW ((Kd.R_reads' HO419.out).2.2)); (case side2 => exact RI HO419); (case side3 => exact CW ((Kd.R_reads' HO_3.out).2.2)); (case side4 => exact RI HO_3); rintro e w62 ⟨rfl, hb⟩; refine ⟨_, rfl, ?_⟩; replace HO_3 := RB HO_3 hb; replace HO_6 := RB HO_6 hb; replace HO415 := RB HO415 hb; replace HO419 := RB HO419 hb; replace HB := BS hb; clear hb))
             go_meet
             case rel => exact ⟨_, (true), TF, H', ⟨by have := HJ6.out; have := HJ26.out; first | omega | exact Nat.le_refl _⟩, ⟨by (with_reducible repeat (first | apply Kd.R_alloc | apply Kd.R_drewN | apply Kd.R_drew)); exact Kd.R_mono HO_6.out (fun _ hk => trivial)⟩, ⟨TB⟩⟩
           case rest =>
            clear HC49
            obtain ⟨kq, x84_48, rfl, HA, HJ48, HO_6, HB⟩ := hcut
            have hl6_48 := (Kd.R_reads' HO_6.out).1
            rw [hl6_48] at HO_6
            (try simp only [hl6_48])
            cases kq with
            | zero => exact absurd HA.out (by simp [laws_FnExactAliasOf.j2])
            | succ kj48 =>
             have H := HA.out
             clear HA
             simp only [laws_FnExactAliasOf.j2] at H
             by_cases c63 : x84_48 = true
             ·subst c63
              replace H := ift H
              obtain rfl := Option.some.inj H
              go_wp2
              go_ret
              exact ⟨TE, TB⟩
             ·replace c63 := Bool.eq_false_iff.mpr c63
              subst c63
              replace H := iff' H
              obtain ⟨t421, A64, H⟩ := bnd H
              by_cases c65 : t421 < 0
              ·rw [if_pos c65] at H
               have c65b0 : decide (t421 < 0) = true := decide_eq_true c65
               clear c65
               obtain rfl := Option.some.inj H
               go_wp2_with (first | ((with_reducible refine gate_callee (f := 44) rfl ?_); refine goesL_ (some 87) rfl rfl Try.func44 KR rfl #[.slice Ao50 t411.length co50, .int .i64 1] rfl TA ?_; (with_reducible refine (laws_heldColumnS.calls kj48 _ _ t411 1 t421 _ ?side1 ?side2 A64.out).mono ?_); (case side1 => exact CW ((Kd.R_reads' HO_6.out).2.2)); (case side2 => exact RI HO_6); rintro e w' ⟨rfl, ⟨nd, rfl⟩⟩; refine ⟨_, rfl, ?_⟩))
               go_ret
               exact ⟨TE, TB⟩
              ·rw [if_neg c65] at H
               have c65b0 : decide (t421 < 0) = false := decide_eq_false c65
               clear c65
               by_cases c66 : t421 = t410
               ·rw [if_pos c66] at H
                have c66b0 : (t421 == t410) = true := beq_iff_eq.mpr c66
                have c66b1 : (t421 != t410) = false := bne_eq_false_iff_eq.mpr c66
                clear c66
                obtain rfl := Option.some.inj H
                go_wp2_with (first | ((with_reducible refine gate_callee (f := 44) rfl ?_); refine goesL_ (some 87) rfl rfl Try.func44 KR rfl #[.slice Ao50 t411.length co50, .int .i64 1] rfl TA ?_; (with_reducible refine (laws_heldColumnS.calls kj48 _ _ t411 1 t421 _ ?side1 ?side2 A64.out).mono ?_); (case side1 => exact CW ((Kd.R_reads' HO_6.out).2.2)); (case side2 => exact RI HO_6); rintro e w' ⟨rfl, ⟨nd, rfl⟩⟩; refine ⟨_, rfl, ?_⟩))
                go_ret
                exact ⟨TE, TB⟩
               ·rw [if_neg c66] at H
                have c66b0 : (t421 == t410) = false := beq_eq_false_iff_ne.mpr c66
                have c66b1 : (t421 != t410) = true := bne_iff_ne.mpr c66
                obtain rfl := Option.some.inj H
                go_wp2_with (first | ((with_reducible refine gate_callee (f := 44) rfl ?_); refine goesL_ (some 87) rfl rfl Try.func44 KR rfl #[.slice Ao50 t411.length co50, .int .i64 1] rfl TA ?_; (with_reducible refine (laws_heldColumnS.calls kj48 _ _ t411 1 t421 _ ?side1 ?side2 A64.out).mono ?_); (case side1 => exact CW ((Kd.R_reads' HO_6.out).2.2)); (case side2 => exact RI HO_6); rintro e w' ⟨rfl, ⟨nd, rfl⟩⟩; refine ⟨_, rfl, ?_⟩))
                go_ret
                exact ⟨TE, TB⟩
          ·rw [if_neg c46] at H
           have c46b0 : (t412 == t410) = false := beq_eq_false_iff_ne.mpr c46
           have c46b1 : (t412 != t410) = true := bne_iff_ne.mpr c46
           obtain rfl := Option.some.inj H
           obtain ⟨Ao67, co67, eo67⟩ := Kd.R_slice HO_6.out
           subst eo67
           go_wp2_with (first | ((with_reducible refine gate_callee (f := 38) rfl ?_); refine goesL_ (some 61) rfl rfl Try.func38 KR rfl #[.slice Ao67 t398.length co67, .int .i64 1] rfl TA ?_; (with_reducible refine (laws_markColumnS.calls kj26 (fun k_ => some k_ = (.slice Ao67 t398.length co67 : Value).ownBlock) (.slice Ao67 t398.length co67) t398 1 t410 t411 w _ ?side1 ?side2 A41.out).mono ?_); (case side1 => repeat (first | (with_reducible first | exact HB.out | apply below_alloc | apply pw_below_drewN | apply below_drew1) | exact HB.out)); (case side2 => exact Kd.R_tight rfl HO_6.out); rintro e w68 ⟨rfl, hy0, hb, hkp⟩; refine ⟨_, rfl, ?_⟩; replace HO_3 := RK (fun k_ => some k_ ≠ (.slice Ao67 t398.length co67 : Value).ownBlock) HO_3 hkp; replace HO_6 := Aside0.mk (Kd.R_reok rfl hy0 (fun k_ e_ => HO_6.out.1 k_ e_)); replace HB := Aside0.mk (hb); clear hb; (try clear hkp); (try clear hy0)) | ((with_reducible refine gate_callee (f := 44) rfl ?_); refine goesL_ (some 64) rfl rfl Try.func44 KR rfl #[.slice Ao67 t411.length co67, .int .i64 1] rfl (by (try simp only [List.map_toArray, List.map_cons, List.map_nil]); first | done | (rw [show t411.length = t398.length from (Kd.R_reads' HO_6.out).1.symm] <;> rfl) | rfl | (simp only [List.length_drop, List.length_take]; rfl)) ?_; (with_reducible refine (laws_heldColumnS.calls kj26 _ _ t411 1 t412 _ ?side1 ?side2 A42.out).mono ?_); (case side1 => exact CW ((Kd.R_reads' HO_6.out).2.2)); (case side2 => rw [show t411.length = t398.length from (Kd.R_reads' HO_6.out).1.symm]; exact RI HO_6); rintro e w' ⟨rfl, ⟨nd, rfl⟩⟩; refine ⟨_, rfl, ?_⟩))
           go_ret
           exact ⟨TE, TB⟩
     ·replace c25 := Bool.eq_false_iff.mpr c25
      subst c25
      replace H := iff' H
      obtain rfl := Option.some.inj H
      go_wp2_with (first | ((with_reducible refine gate_callee (f := 16) rfl ?_); refine goesL_ (some 40) rfl rfl Try.func16 KR rfl #[.slice A0 l0.length c0] rfl TA ?_; (with_reducible refine (laws_toIntS.calls kj6 _ _ l0 t403 _ ?side1 ?side2 A23.out).mono ?_); (case side1 => exact CW ((Kd.C_below HR0.out HB.out))); (case side2 => exact HC0.out); rintro e w69 ⟨v404, rfl, ho0, hb⟩; refine ⟨_, rfl, ?_⟩; replace HO_3 := RB HO_3 hb; replace HO_6 := RB HO_6 hb; have HO405 := RL (NW ho0 HO_5); replace HO_5 := EL HO_5 ho0 hb; replace HB := BS hb; clear hb; (try clear ho0); obtain ⟨Ao70, co70, eo70⟩ := Kd.R_slice HO405.out; subst eo70) | ((with_reducible refine gate_callee (f := 18) rfl ?_); refine goesL_ (some 41) rfl rfl Try.func18 KR rfl #[.slice Ao12 t395.length co12, .slice Ao70 t403.length co70] rfl TA ?_; (with_reducible refine (laws_eqIntS.calls kj6 _ _ t395 _ _ t403 false _ ?side1 ?side2 ?side3 ?side4 A24.out).mono ?_); (case side1 => exact CW ((Kd.R_reads' HO_5.out).2.2)); (case side2 => exact RI HO_5); (case side3 => exact CW ((Kd.R_reads' HO405.out).2.2)); (case side4 => exact RI HO405); rintro e w' ⟨rfl, ⟨nd, rfl⟩⟩; refine ⟨_, rfl, ?_⟩))
      go_ret
      exact ⟨TE, TB⟩

/-- THE ONE PURE STATEMENT of laws_FnExactAliasOf. -/
def laws_FnExactAliasOf.Pure : Prop := ∀ (l0 : List Int), (l0.length ≤ maxLen ∧ ∀ x_ ∈ l0, (Lit.int .i64 x_).wf = true) → ∃ k, laws_FnExactAliasOf.f k l0 = some true
end
section
/-! ### impl_GoodTurn_1: function 71 -/
def impl_GoodTurn_1.f (a0 : Int) : Option (Bool) := (impl_within.f a0 (-10000) 10000).bind fun t461 => (some (!t461))
theorem impl_GoodTurn_1.calls (a0 : Int) (r : Bool) (w : World) (h : impl_GoodTurn_1.f a0 = some r) :
  Calls Try.prog 71 #[.int .i64 a0] w fun e w' => e = .returned (.bool r) ∧ Drawn0 w w' := by
 have H : ((impl_within.f a0 (-10000) 10000).bind fun t461 => (some (!t461))) = some r := h
 clear h
 obtain ⟨t461, A2, H⟩ := bnd H
 obtain rfl := Option.some.inj H
 go_enter Try.func71, Try.ntmps71
 go_wp2_with (first | ((with_reducible refine gate_callee (f := 59) rfl ?_); refine goesL_ (some 4) rfl rfl Try.func59 KR rfl #[.int .i64 a0, .int .i64 (-10000), .int .i64 10000] rfl TA ?_; (with_reducible refine (impl_within.calls a0 (-10000) 10000 t461 _ A2.out).mono ?_); rintro e w' ⟨rfl, ⟨nd, rfl⟩⟩; refine ⟨_, rfl, ?_⟩))
 go_ret
 exact ⟨TF, TN⟩
end
section
/-! ### slices_IndexFunc_int_int_GoodTurn_1: function 85 -/
def slices_IndexFunc_int_int_GoodTurn_1.l0 : Nat → List Int → Int → Int → Option (Int)
 | 0, _, _, _ => none
 | k + 1, x0, x7, x8 => if x8 < x7 then (if 0 ≤ x8 then (if x8 < (x0.length : Int) then ((impl_GoodTurn_1.f (rd x0 x8)).bind fun t463 => (if t463 = true then (some x8) else (slices_IndexFunc_int_int_GoodTurn_1.l0 k x0 x7 (wrap64 (x8 + 1))))) else (none)) else (none)) else (some (-1))
def slices_IndexFunc_int_int_GoodTurn_1.f (k : Nat) (l0 : List Int)  : Option (Int) := slices_IndexFunc_int_int_GoodTurn_1.l0 k l0 (l0.length : Int) 0
theorem slices_IndexFunc_int_int_GoodTurn_1.calls (k : Nat) (A0 : Option Addr) (c0 : Nat) (l0 : List Int)  (r : Int) (w : World) (hr0 : Kd.C (Kd.int .i64) w A0 l0.length l0) (hc0 : l0.length ≤ c0) (h : slices_IndexFunc_int_int_GoodTurn_1.f k l0 = some r) :
  Calls Try.prog 85 #[.slice A0 l0.length c0, .func (.func 71) #[] #[]] w fun e w' => e = .returned (.int .i64 r) ∧ Drawn0 w w' := by
 have HR0 := Aside0.mk hr0
 have HC0 := Aside0.mk hc0
 clear hr0 hc0
 have H : (slices_IndexFunc_int_int_GoodTurn_1.l0 k l0 (l0.length : Int) 0) = some r := h
 clear h
 have H' := Aside0.mk H
 clear H
 go_enter Try.func85, Try.ntmps85
 go_wp2
 go_loopg [8] k (fun kq v8 w' => ∃ (x8_1 : Int), v8 = .int .i64 x8_1 ∧ Aside0 (slices_IndexFunc_int_int_GoodTurn_1.l0 kq l0 (l0.length : Int) x8_1 = some r) ∧ Aside0 (kq ≤ k) ∧ Drawn0 w w')
 case atStart => exact ⟨(0), TF, H', ⟨Nat.le_refl _⟩, TN⟩
 case round =>
  clear H'
  obtain ⟨x8_1, rfl, HA, HK1, ⟨m1, rfl⟩⟩ := hrel
  cases gk with
  | zero => exact absurd HA.out (by simp [slices_IndexFunc_int_int_GoodTurn_1.l0])
  | succ k1 =>
   have H := HA.out
   clear HA
   simp only [slices_IndexFunc_int_int_GoodTurn_1.l0] at H
   by_cases c3 : x8_1 < (l0.length : Int)
   ·rw [if_pos c3] at H
    have c3b0 : decide (x8_1 < (l0.length : Int)) = true := decide_eq_true c3
    clear c3
    obtain ⟨c4, H⟩ := ifn H
    have c4b0 : decide (0 ≤ x8_1) = true := decide_eq_true c4
    clear c4
    obtain ⟨c5, H⟩ := ifn H
    have c5b0 : decide (x8_1 < (l0.length : Int)) = true := decide_eq_true c5
    clear c5
    obtain ⟨t463, A6, H⟩ := bnd H
    by_cases c7 : t463 = true
    ·subst c7
     replace H := ift H
     obtain rfl := Option.some.inj H
     have p462 : 0 ≤ (x8_1 : Int) := TD
     have q462 : x8_1 < (l0.length : Int) := TD
     obtain ⟨ad462, e462, hx462_0⟩ := Kd.at_int HR0.out x8_1 p462 q462
     cases e462
     replace p462 := eq_true p462
     replace q462 := eq_true q462
     go_wp2_with (first | (go_at_call 71; (with_reducible refine (impl_GoodTurn_1.calls (rd l0 x8_1) true _ A6.out).mono ?_); rintro e w' ⟨rfl, ⟨nd, rfl⟩⟩))
     go_ret
     exact ⟨TF, TN⟩
    ·replace c7 := Bool.eq_false_iff.mpr c7
     subst c7
     replace H := iff' H
     have H' := Aside0.mk H
     clear H
     have p462 : 0 ≤ (x8_1 : Int) := TD
     have q462 : x8_1 < (l0.length : Int) := TD
     obtain ⟨ad462, e462, hx462_0⟩ := Kd.at_int HR0.out x8_1 p462 q462
     cases e462
     replace p462 := eq_true p462
     replace q462 := eq_true q462
     go_wp2_with (first | (go_at_call 71; (with_reducible refine (impl_GoodTurn_1.calls (rd l0 x8_1) false _ A6.out).mono ?_); rintro e w' ⟨rfl, ⟨nd, rfl⟩⟩))
     go_roundg k1
     case measure => have := HK1.out; omega
     case rel => exact ⟨(wrap64 (x8_1 + 1)), TF, H', ⟨TM⟩, TN⟩
   ·rw [if_neg c3] at H
    have c3b0 : decide (x8_1 < (l0.length : Int)) = false := decide_eq_false c3
    clear c3
    obtain rfl := Option.some.inj H
    go_wp2
    go_ret
    exact ⟨TF, TN⟩
end
section
/-! ### slices_ContainsFunc_int_int_GoodTurn_1: function 60 -/
def slices_ContainsFunc_int_int_GoodTurn_1.f (k : Nat) (l0 : List Int)  : Option (Bool) := (slices_IndexFunc_int_int_GoodTurn_1.f k l0).bind fun t464 => (some (decide (t464 ≥ 0)))
theorem slices_ContainsFunc_int_int_GoodTurn_1.calls (k : Nat) (A0 : Option Addr) (c0 : Nat) (l0 : List Int)  (r : Bool) (w : World) (hr0 : Kd.C (Kd.int .i64) w A0 l0.length l0) (hc0 : l0.length ≤ c0) (h : slices_ContainsFunc_int_int_GoodTurn_1.f k l0 = some r) :
  Calls Try.prog 60 #[.slice A0 l0.length c0, .func (.func 71) #[] #[]] w fun e w' => e = .returned (.bool r) ∧ Drawn0 w w' := by
 have HR0 := Aside0.mk hr0
 have HC0 := Aside0.mk hc0
 clear hr0 hc0
 have H : ((slices_IndexFunc_int_int_GoodTurn_1.f k l0).bind fun t464 => (some (decide (t464 ≥ 0)))) = some r := h
 clear h
 obtain ⟨t464, A3, H⟩ := bnd H
 obtain rfl := Option.some.inj H
 go_enter Try.func60, Try.ntmps60
 go_wp2_with (first | ((with_reducible refine gate_callee (f := 85) rfl ?_); refine goesL_ (some 7) rfl rfl Try.func85 KR rfl #[.slice A0 l0.length c0, .func (.func 71) #[] #[]] rfl TA ?_; (with_reducible refine (slices_IndexFunc_int_int_GoodTurn_1.calls k _ _ l0  t464 _ ?side1 ?side2 A3.out).mono ?_); (case side1 => exact CW (HR0.out)); (case side2 => exact HC0.out); rintro e w' ⟨rfl, ⟨nd, rfl⟩⟩; refine ⟨_, rfl, ?_⟩))
 go_ret
 exact ⟨TF, TN⟩
end
section
/-! ### impl_GoodTurn: function 29 -/
def impl_GoodTurn.f (k : Nat) (l0_0 : List Int) (l0_1 : List Int) : Option (Bool) := (impl_GoodWeights.f k l0_0).bind fun t466 => (if t466 = true then (if (l0_1.length : Int) = (l0_0.length : Int) then ((slices_ContainsFunc_int_int_GoodTurn_1.f k l0_1).bind fun t467 => (if t467 = true then (some false) else ((impl_totalOf.f k l0_1).bind fun t468 => (some (t468 == 0))))) else (some false)) else (some false))
theorem impl_GoodTurn.calls (k : Nat) (A0_0 : Option Addr) (c0_0 : Nat) (l0_0 : List Int) (A0_1 : Option Addr) (c0_1 : Nat) (l0_1 : List Int) (r : Bool) (w : World) (hr0_0 : Kd.C (Kd.int .i64) w A0_0 l0_0.length l0_0) (hc0_0 : l0_0.length ≤ c0_0) (hr0_1 : Kd.C (Kd.int .i64) w A0_1 l0_1.length l0_1) (hc0_1 : l0_1.length ≤ c0_1) (h : impl_GoodTurn.f k l0_0 l0_1 = some r) :
  Calls Try.prog 29 #[.agg #[.slice A0_0 l0_0.length c0_0, .slice A0_1 l0_1.length c0_1]] w fun e w' => e = .returned (.bool r) ∧ Below w.heap.size w w' := by
 have hu40 := Try.underlying40
 have HR0_0 := Aside0.mk hr0_0
 have HC0_0 := Aside0.mk hc0_0
 clear hr0_0 hc0_0
 have HR0_1 := Aside0.mk hr0_1
 have HC0_1 := Aside0.mk hc0_1
 clear hr0_1 hc0_1
 have HB := Aside0.mk (Below.refl w.heap.size w)
 have H : ((impl_GoodWeights.f k l0_0).bind fun t466 => (if t466 = true then (if (l0_1.length : Int) = (l0_0.length : Int) then ((slices_ContainsFunc_int_int_GoodTurn_1.f k l0_1).bind fun t467 => (if t467 = true then (some false) else ((impl_totalOf.f k l0_1).bind fun t468 => (some (t468 == 0))))) else (some false)) else (some false))) = some r := h
 clear h
 obtain ⟨t466, A2, H⟩ := bnd H
 by_cases c3 : t466 = true
 ·subst c3
  replace H := ift H
  by_cases c4 : (l0_1.length : Int) = (l0_0.length : Int)
  ·rw [if_pos c4] at H
   have c4b0 : ((l0_1.length : Int) == (l0_0.length : Int)) = true := beq_iff_eq.mpr c4
   have c4b1 : ((l0_1.length : Int) != (l0_0.length : Int)) = false := bne_eq_false_iff_eq.mpr c4
   have c4b2 : (l0_1.length == l0_0.length) = true := by first | simpa using c4 | (simp at c4 ⊢; omega)
   clear c4
   obtain ⟨t467, A5, H⟩ := bnd H
   by_cases c6 : t467 = true
   ·subst c6
    replace H := ift H
    obtain rfl := Option.some.inj H
    go_enter Try.func29, Try.ntmps29
    go_wp2_with (first | ((with_reducible refine gate_dst (N := 1) rfl ?_); (try (refine gate_guard (by rfl) ?_; dsimp only)); refine bE 1 #[.slice A0_0 l0_0.length c0_0, .slice A0_1 l0_1.length c0_1] 40 ?_; intro gb465 hg w7 hbox hb; have BK465 := Aside0.mk (hbox); have GE465 := bG hg; replace HB := BS hb; clear hb hbox hg; have hcz8 := cz2 BK465) | ((with_reducible refine gate_callee (f := 17) rfl ?_); refine goesL_ (some 5) rfl rfl Try.func17 KR rfl #[.slice A0_0 l0_0.length c0_0] rfl TA ?_; (with_reducible refine (impl_GoodWeights.calls k _ _ l0_0 true _ ?side1 ?side2 A2.out).mono ?_); (case side1 => exact CW ((Kd.C_below HR0_0.out HB.out))); (case side2 => exact HC0_0.out); rintro e w' ⟨rfl, ⟨nd, rfl⟩⟩; refine ⟨_, rfl, ?_⟩) | (go_at_call 60; (with_reducible refine (slices_ContainsFunc_int_int_GoodTurn_1.calls k _ _ l0_1  true _ ?side1 ?side2 A5.out).mono ?_); (case side1 => exact CW ((Kd.C_below HR0_1.out TB))); (case side2 => exact HC0_1.out); rintro e w' ⟨rfl, ⟨nd, rfl⟩⟩))
    go_ret
    exact ⟨TE, TB⟩
   ·replace c6 := Bool.eq_false_iff.mpr c6
    subst c6
    replace H := iff' H
    obtain ⟨t468, A9, H⟩ := bnd H
    obtain rfl := Option.some.inj H
    go_enter Try.func29, Try.ntmps29
    go_wp2_with (first | ((with_reducible refine gate_dst (N := 1) rfl ?_); (try (refine gate_guard (by rfl) ?_; dsimp only)); refine bE 1 #[.slice A0_0 l0_0.length c0_0, .slice A0_1 l0_1.length c0_1] 40 ?_; intro gb465 hg w10 hbox hb; have BK465 := Aside0.mk (hbox); have GE465 := bG hg; replace HB := BS hb; clear hb hbox hg; have hcz11 := cz2 BK465) | ((with_reducible refine gate_callee (f := 17) rfl ?_); refine goesL_ (some 5) rfl rfl Try.func17 KR rfl #[.slice A0_0 l0_0.length c0_0] rfl TA ?_; (with_reducible refine (impl_GoodWeights.calls k _ _ l0_0 true _ ?side1 ?side2 A2.out).mono ?_); (case side1 => exact CW ((Kd.C_below HR0_0.out HB.out))); (case side2 => exact HC0_0.out); rintro e w' ⟨rfl, ⟨nd, rfl⟩⟩; refine ⟨_, rfl, ?_⟩) | (go_at_call 60; (with_reducible refine (slices_ContainsFunc_int_int_GoodTurn_1.calls k _ _ l0_1  false _ ?side1 ?side2 A5.out).mono ?_); (case side1 => exact CW ((Kd.C_below HR0_1.out TB))); (case side2 => exact HC0_1.out); rintro e w' ⟨rfl, ⟨nd, rfl⟩⟩) | (go_at_call 62; (with_reducible refine (impl_totalOf.calls k _ _ l0_1 t468 _ ?side1 ?side2 A9.out).mono ?_); (case side1 => exact CW ((Kd.C_below HR0_1.out TB))); (case side2 => exact HC0_1.out); rintro e w' ⟨rfl, ⟨nd, rfl⟩⟩))
    go_ret
    exact ⟨TE, TB⟩
  ·rw [if_neg c4] at H
   have c4b0 : ((l0_1.length : Int) == (l0_0.length : Int)) = false := beq_eq_false_iff_ne.mpr c4
   have c4b1 : ((l0_1.length : Int) != (l0_0.length : Int)) = true := bne_iff_ne.mpr c4
   have c4b2 : (l0_1.length == l0_0.length) = false := by first | simpa using c4 | (simp at c4 ⊢; omega)
   obtain rfl := Option.some.inj H
   go_enter Try.func29, Try.ntmps29
   go_wp2_with (first | ((with_reducible refine gate_dst (N := 1) rfl ?_); (try (refine gate_guard (by rfl) ?_; dsimp only)); refine bE 1 #[.slice A0_0 l0_0.length c0_0, .slice A0_1 l0_1.length c0_1] 40 ?_; intro gb465 hg w12 hbox hb; have BK465 := Aside0.mk (hbox); have GE465 := bG hg; replace HB := BS hb; clear hb hbox hg; have hcz13 := cz2 BK465) | ((with_reducible refine gate_callee (f := 17) rfl ?_); refine goesL_ (some 5) rfl rfl Try.func17 KR rfl #[.slice A0_0 l0_0.length c0_0] rfl TA ?_; (with_reducible refine (impl_GoodWeights.calls k _ _ l0_0 true _ ?side1 ?side2 A2.out).mono ?_); (case side1 => exact CW ((Kd.C_below HR0_0.out HB.out))); (case side2 => exact HC0_0.out); rintro e w' ⟨rfl, ⟨nd, rfl⟩⟩; refine ⟨_, rfl, ?_⟩))
   go_ret
   exact ⟨TE, TB⟩
 ·replace c3 := Bool.eq_false_iff.mpr c3
  subst c3
  replace H := iff' H
  obtain rfl := Option.some.inj H
  go_enter Try.func29, Try.ntmps29
  go_wp2_with (first | ((with_reducible refine gate_dst (N := 1) rfl ?_); (try (refine gate_guard (by rfl) ?_; dsimp only)); refine bE 1 #[.slice A0_0 l0_0.length c0_0, .slice A0_1 l0_1.length c0_1] 40 ?_; intro gb465 hg w14 hbox hb; have BK465 := Aside0.mk (hbox); have GE465 := bG hg; replace HB := BS hb; clear hb hbox hg; have hcz15 := cz2 BK465) | ((with_reducible refine gate_callee (f := 17) rfl ?_); refine goesL_ (some 5) rfl rfl Try.func17 KR rfl #[.slice A0_0 l0_0.length c0_0] rfl TA ?_; (with_reducible refine (impl_GoodWeights.calls k _ _ l0_0 false _ ?side1 ?side2 A2.out).mono ?_); (case side1 => exact CW ((Kd.C_below HR0_0.out HB.out))); (case side2 => exact HC0_0.out); rintro e w' ⟨rfl, ⟨nd, rfl⟩⟩; refine ⟨_, rfl, ?_⟩))
  go_ret
  exact ⟨TE, TB⟩
end
section
/-! ### spec_GoodTurn: function 27 -/
mutual
def spec_GoodTurn.j0 : Nat → Bool → List Int → List Int → Option (Bool)
 | 0, _, _, _ => none
 | k + 1, x18, x458000, x458001 => if x18 = true then (some false) else (spec_GoodTurn.l0 k 0 x458001 (x458001.length : Int) 0)
def spec_GoodTurn.l0 : Nat → Int → List Int → Int → Int → Option (Bool)
 | 0, _, _, _, _ => none
 | k + 1, x3, x20, x21, x22 => if x22 < x21 then (if 0 ≤ x22 then (if x22 < (x20.length : Int) then ((spec_l1In.f (rd x20 x22) (-10000) 10000).bind fun t460 => (if t460 = true then (spec_GoodTurn.l0 k (wrap64 (x3 + (rd x20 x22))) x20 x21 (wrap64 (x22 + 1))) else (some false))) else (none)) else (none)) else (some (x3 == 0))
end
def spec_GoodTurn.f (k : Nat) (l0_0 : List Int) (l0_1 : List Int) : Option (Bool) := (spec_GoodWeights.f k l0_0).bind fun t458 => (if t458 = true then (spec_GoodTurn.j0 k ((l0_1.length : Int) != (l0_0.length : Int)) l0_0 l0_1) else (spec_GoodTurn.j0 k true l0_0 l0_1))
theorem spec_GoodTurn.calls (k : Nat) (A0_0 : Option Addr) (c0_0 : Nat) (l0_0 : List Int) (A0_1 : Option Addr) (c0_1 : Nat) (l0_1 : List Int) (r : Bool) (w : World) (hr0_0 : Kd.C (Kd.int .i64) w A0_0 l0_0.length l0_0) (hc0_0 : l0_0.length ≤ c0_0) (hr0_1 : Kd.C (Kd.int .i64) w A0_1 l0_1.length l0_1) (hc0_1 : l0_1.length ≤ c0_1) (h : spec_GoodTurn.f k l0_0 l0_1 = some r) :
  Calls Try.prog 27 #[.agg #[.slice A0_0 l0_0.length c0_0, .slice A0_1 l0_1.length c0_1]] w fun e w' => e = .returned (.bool r) ∧ Below w.heap.size w w' := by
 have hu40 := Try.underlying40
 have HR0_0 := Aside0.mk hr0_0
 have HC0_0 := Aside0.mk hc0_0
 clear hr0_0 hc0_0
 have HR0_1 := Aside0.mk hr0_1
 have HC0_1 := Aside0.mk hc0_1
 clear hr0_1 hc0_1
 have HB := Aside0.mk (Below.refl w.heap.size w)
 have H : ((spec_GoodWeights.f k l0_0).bind fun t458 => (if t458 = true then (spec_GoodTurn.j0 k ((l0_1.length : Int) != (l0_0.length : Int)) l0_0 l0_1) else (spec_GoodTurn.j0 k true l0_0 l0_1))) = some r := h
 clear h
 have HC2 := Aside0.mk H
 clear H
 go_enter Try.func27, Try.ntmps27
 go_upto_region 1 with (first | ((with_reducible refine gate_dst (N := 1) rfl ?_); (try (refine gate_guard (by rfl) ?_; dsimp only)); refine bE 1 #[.slice A0_0 l0_0.length c0_0, .slice A0_1 l0_1.length c0_1] 40 ?_; intro gb457 hg w3 hbox hb; have BK457 := Aside0.mk (hbox); have GE457 := bG hg; replace HB := BS hb; clear hb hbox hg))
 (try simp only [Act.put, List.setIfInBounds_toArray, List.set_cons_zero, List.set_cons_succ])
 go_cut [18] (fun v18 wc => ∃ (kq : Nat) (x18_1 : Bool), v18 = .bool x18_1 ∧ Aside0 (spec_GoodTurn.j0 kq x18_1 l0_0 l0_1 = some r) ∧ Aside0 (kq ≤ k) ∧ Aside0 (wc.heap[gb457]? = some (.cells #[(.slice A0_0 l0_0.length c0_0), (.slice A0_1 l0_1.length c0_1)] 40 (0, 0))) ∧ Aside0 (Below w.heap.size w wc))
 case first =>
  have H := HC2.out
  clear HC2
  obtain ⟨t458, A4, H⟩ := bnd H
  by_cases c5 : t458 = true
  ·subst c5
   replace H := ift H
   have H' := Aside0.mk H
   clear H
   have hcz6 := cz2 BK457
   go_wp2_with (first | ((with_reducible refine gate_callee (f := 15) rfl ?_); refine goesL_ (some 8) rfl rfl Try.func15 KR rfl #[.slice A0_0 l0_0.length c0_0] rfl TA ?_; (with_reducible refine (spec_GoodWeights.calls k _ _ l0_0 true _ ?side1 ?side2 A4.out).mono ?_); (case side1 => exact CW ((Kd.C_below HR0_0.out HB.out))); (case side2 => exact HC0_0.out); rintro e w' ⟨rfl, ⟨nd, rfl⟩⟩; refine ⟨_, rfl, ?_⟩))
   go_meet
   case rel => exact ⟨_, (((l0_1.length : Int) != (l0_0.length : Int))), TF, H', ⟨by first | omega | exact Nat.le_refl _⟩, KW BK457, ⟨TB⟩⟩
  ·replace c5 := Bool.eq_false_iff.mpr c5
   subst c5
   replace H := iff' H
   have H' := Aside0.mk H
   clear H
   have hcz7 := cz2 BK457
   go_wp2_with (first | ((with_reducible refine gate_callee (f := 15) rfl ?_); refine goesL_ (some 8) rfl rfl Try.func15 KR rfl #[.slice A0_0 l0_0.length c0_0] rfl TA ?_; (with_reducible refine (spec_GoodWeights.calls k _ _ l0_0 false _ ?side1 ?side2 A4.out).mono ?_); (case side1 => exact CW ((Kd.C_below HR0_0.out HB.out))); (case side2 => exact HC0_0.out); rintro e w' ⟨rfl, ⟨nd, rfl⟩⟩; refine ⟨_, rfl, ?_⟩))
   go_meet
   case rel => exact ⟨_, (true), TF, H', ⟨by first | omega | exact Nat.le_refl _⟩, KW BK457, ⟨TB⟩⟩
 case rest =>
  clear HC2
  obtain ⟨kq, x18_1, rfl, HA, HJ1, BK457, HB⟩ := hcut
  cases kq with
  | zero => exact absurd HA.out (by simp [spec_GoodTurn.j0])
  | succ kj1 =>
   have H := HA.out
   clear HA
   simp only [spec_GoodTurn.j0] at H
   by_cases c8 : x18_1 = true
   ·subst c8
    replace H := ift H
    obtain rfl := Option.some.inj H
    go_wp2
    go_ret
    exact ⟨TE, TB⟩
   ·replace c8 := Bool.eq_false_iff.mpr c8
    subst c8
    replace H := iff' H
    have H' := Aside0.mk H
    clear H
    have hcz9 := cz2 BK457
    go_wp2
    go_loopg [3, 22] kj1 (fun kq v3 v22 w' => ∃ (x3_2 : Int) (x22_2 : Int), v3 = .int .i64 x3_2 ∧ v22 = .int .i64 x22_2 ∧ Aside0 (spec_GoodTurn.l0 kq x3_2 l0_1 (l0_1.length : Int) x22_2 = some r) ∧ Aside0 (kq ≤ kj1) ∧ Aside0 (w'.heap[gb457]? = some (.cells #[(.slice A0_0 l0_0.length c0_0), (.slice A0_1 l0_1.length c0_1)] 40 (0, 0))) ∧ Aside0 (Below w.heap.size w w'))
    case atStart => exact ⟨(0), (0), TF, TF, H', ⟨Nat.le_refl _⟩, KW BK457, ⟨TB⟩⟩
    case round =>
     clear H'
     obtain ⟨x3_2, x22_2, rfl, rfl, HA, HK2, BK457, HB⟩ := hrel
     cases gk with
     | zero => exact absurd HA.out (by simp [spec_GoodTurn.l0])
     | succ k2 =>
      have H := HA.out
      clear HA
      simp only [spec_GoodTurn.l0] at H
      by_cases c10 : x22_2 < (l0_1.length : Int)
      ·rw [if_pos c10] at H
       have c10b0 : decide (x22_2 < (l0_1.length : Int)) = true := decide_eq_true c10
       clear c10
       obtain ⟨c11, H⟩ := ifn H
       have c11b0 : decide (0 ≤ x22_2) = true := decide_eq_true c11
       clear c11
       obtain ⟨c12, H⟩ := ifn H
       have c12b0 : decide (x22_2 < (l0_1.length : Int)) = true := decide_eq_true c12
       clear c12
       obtain ⟨t460, A13, H⟩ := bnd H
       by_cases c14 : t460 = true
       ·subst c14
        replace H := ift H
        have H' := Aside0.mk H
        clear H
        have p459 : 0 ≤ (x22_2 : Int) := TD
        have q459 : x22_2 < (l0_1.length : Int) := TD
        obtain ⟨ad459, e459, hx459_0⟩ := Kd.at_int (Kd.C_below HR0_1.out HB.out) x22_2 p459 q459
        cases e459
        replace p459 := eq_true p459
        replace q459 := eq_true q459
        go_wp2_with (first | ((with_reducible refine gate_callee (f := 58) rfl ?_); refine goesL_ (some 27) rfl rfl Try.func58 KR rfl #[.int .i64 (rd l0_1 x22_2), .int .i64 (-10000), .int .i64 10000] rfl TA ?_; (with_reducible refine (spec_l1In.calls (rd l0_1 x22_2) (-10000) 10000 true _ A13.out).mono ?_); rintro e w' ⟨rfl, ⟨nd, rfl⟩⟩; refine ⟨_, rfl, ?_⟩))
        go_roundg k2
        case measure => have := HJ1.out; have := HK2.out; omega
        case rel => exact ⟨(wrap64 (x3_2 + (rd l0_1 x22_2))), (wrap64 (x22_2 + 1)), TF, TF, H', ⟨by have := HJ1.out; have := HK2.out; omega⟩, KW BK457, ⟨TB⟩⟩
       ·replace c14 := Bool.eq_false_iff.mpr c14
        subst c14
        replace H := iff' H
        obtain rfl := Option.some.inj H
        have p459 : 0 ≤ (x22_2 : Int) := TD
        have q459 : x22_2 < (l0_1.length : Int) := TD
        obtain ⟨ad459, e459, hx459_0⟩ := Kd.at_int (Kd.C_below HR0_1.out HB.out) x22_2 p459 q459
        cases e459
        replace p459 := eq_true p459
        replace q459 := eq_true q459
        go_wp2_with (first | ((with_reducible refine gate_callee (f := 58) rfl ?_); refine goesL_ (some 27) rfl rfl Try.func58 KR rfl #[.int .i64 (rd l0_1 x22_2), .int .i64 (-10000), .int .i64 10000] rfl TA ?_; (with_reducible refine (spec_l1In.calls (rd l0_1 x22_2) (-10000) 10000 false _ A13.out).mono ?_); rintro e w' ⟨rfl, ⟨nd, rfl⟩⟩; refine ⟨_, rfl, ?_⟩))
        go_ret
        exact ⟨TE, TB⟩
      ·rw [if_neg c10] at H
       have c10b0 : decide (x22_2 < (l0_1.length : Int)) = false := decide_eq_false c10
       clear c10
       obtain rfl := Option.some.inj H
       go_wp2
       go_ret
       exact ⟨TE, TB⟩
end
section
/-! ### slices_Clone_int_int: function 72 -/
def slices_Clone_int_int.f (l0 : List Int) : Option (List Int) := (some (([] : List Int) : List Int)).bind fun y577 => (if y577.length + l0.length < 17592186044416 then (some (y577 ++ l0)) else (none))
theorem slices_Clone_int_int.calls (A0 : Option Addr) (c0 : Nat) (l0 : List Int) (r : List Int) (w : World) (hr0 : Kd.C (Kd.int .i64) w A0 l0.length l0) (hc0 : l0.length ≤ c0) (h : slices_Clone_int_int.f l0 = some r) :
  Calls Try.prog 72 #[.slice A0 l0.length c0] w fun e w' => ∃ v0_ : Value, e = .returned (v0_) ∧ Kd.R (Kd.int .i64) 3 w' w.heap.size (fun _ => True) v0_ r ∧ Below w.heap.size w w' := by
 have HR0 := Aside0.mk hr0
 have HC0 := Aside0.mk hc0
 clear hr0 hc0
 have HB := Aside0.mk (Below.refl w.heap.size w)
 have H : ((some (([] : List Int) : List Int)).bind fun y577 => (if y577.length + l0.length < 17592186044416 then (some (y577 ++ l0)) else (none))) = some r := h
 clear h
 cases A0 with
 | none =>
  have hz_ : l0 = [] := Kd.C_none_nil HR0.out
  subst hz_
  have hnq_ : ∀ W, (Go.binOp .eql 22 (.slice none 0 c0) (.slice none 0 0)).run Try.prog W = .ok (.bool true) W := fun W => Go.Lib.run_eql_slice_nil W 22 3 none 0 c0 0 0 Try.underlying22
  replace H : (some ([] : List Int)) = some r := by simpa using H
  obtain rfl := Option.some.inj H
  go_enter Try.func72, Try.ntmps72
  go_wp2
  go_ret
  exact ⟨_, TE, TZ, TB⟩
 | some adq_ =>
  have hnq_ : ∀ W, (Go.binOp .eql 22 (.slice (some adq_) l0.length c0) (.slice none 0 0)).run Try.prog W = .ok (.bool false) W := fun W => Go.Lib.run_eql_slice_nil W 22 3 (some adq_) l0.length c0 0 0 Try.underlying22
  obtain ⟨y577, hy577⟩ : ∃ y_ : List Int, y_ = (([] : List Int)) := ⟨_, rfl⟩
  replace H : (if y577.length + l0.length < 17592186044416 then (some (y577 ++ l0)) else (none)) = some r := by first | (rw [hy577]; with_reducible exact H) | (have H2_ := (Option.bind_some _ _).symm.trans H; rw [hy577]; with_reducible exact H2_) | (have H2_ := (Option.bind_some _ _).symm.trans H; with_reducible exact H2_) | with_reducible exact H | (rw [hy577]; exact H) | exact H
  have Ny577 := Aside0.mk hy577
  clear hy577
  obtain ⟨c2, H⟩ := ifn H
  have LMc2 := Aside0.mk c2
  clear c2
  obtain ⟨y580, hy580⟩ : ∃ y_ : List Int, y_ = (y577 ++ l0) := ⟨_, rfl⟩
  replace H : (some y580) = some r := by first | (rw [hy580]; with_reducible exact H) | (have H2_ := (Option.bind_some _ _).symm.trans H; rw [hy580]; with_reducible exact H2_) | (have H2_ := (Option.bind_some _ _).symm.trans H; with_reducible exact H2_) | with_reducible exact H | (rw [hy580]; exact H) | exact H
  have Ny580 := Aside0.mk hy580
  clear hy580
  obtain rfl := Option.some.inj H
  go_enter Try.func72, Try.ntmps72
  go_wp2_with (first | ((with_reducible refine gate_dst (N := 5) rfl ?_); refine Kd.R_lit (Kd.int .i64) _ 3 ?hg (N := 5) ?hd (xs := ([] : List Int)) (inner := []) (ok := fun _ => True) (okp := fun _ => True) ?hr ?hp (fun _ hk => hk) trivial (Below.refl _ _) (Nat.le_refl _) (by simp) ?_; (case hd => rfl); (case hg => rfl); (case hr => first | (go_simp; done) | (go_simp; rfl)); (case hp => exact (Reps.none _ _)); intro v578 w3 ho4 hb hg_ hnew_; clear hg_ hnew_; (first | rw [← Ny577.out] at ho4 | (simp only [Int.reduceToNat] at ho4; rw [← Ny577.out] at ho4)); have HO579 := RL ho4; replace HB := BS hb; clear hb ho4) | ((with_reducible refine gate_builtin (b := .append) (xs := #[.tmp 5, .tmp 6]) rfl ?_); at_builtin; refine Kd.R_append_rows (Kd.int .i64) (w0 := w) w.heap.size rfl (.tmp 5) (.tmp 6) 22 3 (.int .i64 0) 8 rfl Try.underlying22 info3 rfl (by decide) (by omega) v578 y577 l0 _ _ _ (fun _ => True) (fun _ => False) rfl rfl ?aO ?aR (fun _ _ h => h) (fun _ h => h.elim) ?aF ?aB ?aS ?aL ?_; (case aR => repeat (first | exact (Kd.C_below HR0.out HB.out) | (with_reducible refine Kd.C_alloc ?_ _) | (with_reducible refine Kd.C_drewN ?_ _) | (with_reducible refine Kd.C_drew ?_))); (case aB => exact TB); (case aF => exact (fun _ _ => trivial)); (case aO => exact (RW HO579).out); (case aS => exact (below_size TB)); (case aL => have := LMc2.out; omega); intro v581 w5 ho hb hg hat; rw [← Ny580.out] at ho; have n0_ := Aside0.mk (hb); have n1_ := Aside0.mk (ho); clear HB; clear HO579; have HB := n0_; have HO582 := n1_; clear n0_ n1_; clear ho hb hg hat))
  go_ret
  exact ⟨_, TE, (RW HO582).out, TB⟩
end
section
/-! ### impl_NewTurn: function 32 -/
def impl_NewTurn.f (k : Nat) (l0 : List Int) : Option (List Int × List Int × Bool) := (impl_GoodWeights.f k l0).bind fun t584 => (if t584 = true then ((slices_Clone_int_int.f l0).bind fun t585 => (if 0 ≤ (l0.length : Int) then (if ((l0.length : Int) : Int).toNat ≤ 35184372088832 then (some (t585, (List.replicate ((l0.length : Int) : Int).toNat 0), true)) else (none)) else (none))) else (some (([] : List Int), ([] : List Int), false)))
def impl_NewTurn.T3 : Bool × List (List Nat × List Nat) := (true, [([], []), ([0], [0]), ([], []), ([2], [2]), ([3, 3], [3]), ([1, 4], [1, 4]), ([5, 1, 0, 1, 2, 3, 4, 5], [5]), ([6, 0, 1, 2, 3, 4, 5, 6], [])])
def impl_NewTurn.B3 : List Nat := [0, 1, 0, 4, 12, 31, 63, 127]
theorem impl_NewTurn.tab3 : rtab .any (opsOf Try.f32 3) = impl_NewTurn.T3 := by kernel_rfl
theorem impl_NewTurn.bits3 : waitsOk impl_NewTurn.T3.2 impl_NewTurn.B3 = true := by kernel_rfl
theorem impl_NewTurn.calls (k : Nat) (A0 : Option Addr) (c0 : Nat) (l0 : List Int) (r1 : List Int) (r2 : List Int) (r3 : Bool) (w : World) (hr0 : Kd.C (Kd.int .i64) w A0 l0.length l0) (hc0 : l0.length ≤ c0) (h : impl_NewTurn.f k l0 = some (r1, r2, r3)) :
  Calls Try.prog 32 #[.slice A0 l0.length c0] w fun e w' => ∃ v0_ v1_ : Value, e = .returned (.tuple #[.agg #[v0_, v1_], .bool r3]) ∧ Kd.R (Kd.int .i64) 3 w' w.heap.size (fun k_ => some k_ ≠ (v1_ : Value).ownBlock) v0_ r1 ∧ Kd.R (Kd.int .i64) 3 w' w.heap.size (fun k_ => some k_ ≠ (v0_ : Value).ownBlock) v1_ r2 ∧ Below w.heap.size w w' := by
 have hu40 := Try.underlying40
 have HR0 := Aside0.mk hr0
 have HC0 := Aside0.mk hc0
 clear hr0 hc0
 have HB := Aside0.mk (Below.refl w.heap.size w)
 have H : ((impl_GoodWeights.f k l0).bind fun t584 => (if t584 = true then ((slices_Clone_int_int.f l0).bind fun t585 => (if 0 ≤ (l0.length : Int) then (if ((l0.length : Int) : Int).toNat ≤ 35184372088832 then (some (t585, (List.replicate ((l0.length : Int) : Int).toNat 0), true)) else (none)) else (none))) else (some (([] : List Int), ([] : List Int), false)))) = some (r1, r2, r3) := h
 clear h
 obtain ⟨t584, A2, H⟩ := bnd H
 by_cases c3 : t584 = true
 ·subst c3
  replace H := ift H
  obtain ⟨t585, A4, H⟩ := bnd H
  obtain ⟨c5, H⟩ := ifn H
  have c5b0 := eq_true c5
  have c5b1 : decide (0 ≤ (l0.length : Int)) = true := decide_eq_true c5
  clear c5
  obtain ⟨c6, H⟩ := ifn H
  have c6b0 := eq_true c6
  have c6b1 : decide (((l0.length : Int) : Int).toNat ≤ 35184372088832) = true := decide_eq_true c6
  clear c6
  obtain ⟨y588, hy588⟩ : ∃ y_ : List Int, y_ = (List.replicate ((l0.length : Int) : Int).toNat 0) := ⟨_, rfl⟩
  replace H : (some (t585, y588, true)) = some (r1, r2, r3) := by first | (rw [hy588]; with_reducible exact H) | (have H2_ := (Option.bind_some _ _).symm.trans H; rw [hy588]; with_reducible exact H2_) | (have H2_ := (Option.bind_some _ _).symm.trans H; with_reducible exact H2_) | with_reducible exact H | (rw [hy588]; exact H) | exact H
  have Ny588 := Aside0.mk hy588
  clear hy588
  simp only [Option.some.injEq, Prod.mk.injEq] at H
  obtain ⟨rfl, rfl, rfl⟩ := H
  go_enter Try.func32, Try.ntmps32
  try go_wp2_with (first | ((with_reducible refine gate_dst (N := 2) rfl ?_); refine bE 2 #[.slice none 0 0, .slice none 0 0] 40 ?_; intro gb583 hg w7 hbox hb; have BK583 := Aside0.mk (hbox); have GE583 := bG hg; replace HB := BS hb; clear hb hbox hg) | ((with_reducible refine gate_callee (f := 17) rfl ?_); refine goesL_ (some 5) rfl rfl Try.func17 KR rfl #[.slice A0 l0.length c0] rfl TA ?_; (with_reducible refine (impl_GoodWeights.calls k _ _ l0 true _ ?side1 ?side2 A2.out).mono ?_); (case side1 => exact CW ((Kd.C_below HR0.out HB.out))); (case side2 => exact HC0.out); rintro e w' ⟨rfl, ⟨nd, rfl⟩⟩; refine ⟨_, rfl, ?_⟩; (try (rw [drewN_self w7]; generalize hq_ : World.drewN w7 _ = w7; have n0_ : Aside0 (w7.heap[gb583]? = some (.cells #[.slice none 0 0, .slice none 0 0] 40 (0, 0))) := ⟨by rw [← hq_]; exact (KW BK583).out⟩; have n1_ : Aside0 (Below w.heap.size w w7) := ⟨by rw [← hq_]; exact TB⟩; clear BK583 HB hq_; have BK583 := n0_; have HB := n1_; clear n0_ n1_))))
  replace BK583 := Aside0.mk (blk_drew BK583.out)
  replace HB := Aside0.mk (below_drew1 HB.out)
  refine start_ (n := 8) (S := fun w' => True) (ds := []) #[false, false, false, false, false, false, false, false] KR rfl rfl trivial (fun hHeld => ?_); refine with_tabW impl_NewTurn.tab3 impl_NewTurn.bits3 (fun HT_ HW_ => ?_)
  generalize w7.drew = w8 at BK583 HB hHeld ⊢
  refine pA 0 8 (mL 8 1) HT_ rfl rfl ?_
  refine pA 2 10 (mL 8 5) HT_ rfl rfl ?_
  refine pA 3 11 (mL 8 13) HT_ rfl rfl ?_
  refine join_ (σ := Value × Value) 3 #[true, true, true, true, true, false, false, false] (fun s_ => [(9, s_.1), (12, s_.2)]) (fun s_ w' => (Kd.R (Kd.int .i64) 3 w' w.heap.size (fun k_ => some k_ ≠ (s_.2 : Value).ownBlock) s_.1 t585) ∧ (Kd.R (Kd.int .i64) 3 w' w.heap.size (fun k_ => some k_ ≠ (s_.1 : Value).ownBlock) s_.2 y588) ∧ (w'.heap[gb583]? = some (.cells #[.slice none 0 0, .slice none 0 0] 40 (0, 0))) ∧ (Below w.heap.size w w')) ?_ ?_
  rotate_left
  ·intro hCont
   refine two_ (i := 1) (j := 4) (Ni := some 9) (Nj := some 12) #[true, true, true, true, false, false, false, false] #[true, false, true, true, true, false, false, false] rfl rfl rfl rfl (two_of HT_.out KR) (by decide) (by decide) (fun K hK => ?_) (fun K hK => ?_)
   ·skip
    refine goes_ Try.func72 KR rfl #[.slice A0 l0.length c0] (by rfl) rfl rfl TA ?_
    with_reducible refine (slices_Clone_int_int.calls _ _ l0 t585 _ ?side1 ?side2 A4.out).mono ?_
    (case side1 => exact CW ((Kd.C_below HR0.out HB.out)))
    (case side2 => exact HC0.out)
    rintro e w9 ⟨v586, rfl, ho0, hb⟩
    refine ⟨_, rfl, ?_⟩
    have HO587 := RL ho0
    replace BK583 := KB BK583 hb
    replace HB := BS hb
    (try clear hb)
    (try clear hb2)
    (try clear hk)
    (try clear hi)
    (try clear ho0)
    refine hK.out _ _ trivial (fun hHeld => ?_)
    clear hK K
    refine nA ?_
    refine one_ (i := 4) (N := some 12) (mL 8 31) rfl rfl (one_of HT_.out KR) (by decide) (fun K hK => ?_)
    refine Kd.R_make_step (Kd.int .i64) _ 3 (by rfl) (N := 12) rfl 22 _ _ rfl (l0.length : Int) rfl rfl Try.underlying22 (.int .i64 0) 8 info3 rfl (by decide) (by omega) 0 (ok := fun _ => True) (okp := fun _ => True) rfl (fun _ hk => hk) trivial TD (Nat.le_trans (Nat.mul_le_mul_right _ (TD : (l0.length : Int).toNat ≤ 35184372088832)) (by omega)) (Below.refl _ _) (Nat.le_refl _) ?_
    intro v589 w10 ho11 hb hg_ hnew_
    clear hg_ hnew_
    (first | rw [← Ny588.out] at ho11 | (simp only [Int.reduceToNat] at ho11; rw [← Ny588.out] at ho11))
    have HO590 := RL (NW ho11 HO587)
    replace HO587 := EL HO587 ho11 hb
    replace BK583 := KB BK583 hb
    replace HB := BS hb
    clear hb ho11
    obtain ⟨Ao12, co12, eo12⟩ := Kd.R_slice HO590.out
    (first | subst eo12 | (injection eo12 with f1_ f2_ f3_; have f4_ := f1_.symm; have f5_ := f3_.symm; clear f1_ f2_ f3_; subst f4_; subst f5_))
    obtain ⟨Ao13, co13, eo13⟩ := Kd.R_slice HO587.out
    (first | subst eo13 | (injection eo13 with f1_ f2_ f3_; have f4_ := f1_.symm; have f5_ := f3_.symm; clear f1_ f2_ f3_; subst f4_; subst f5_))
    refine hK.out _ _ trivial (fun hHeld => ?_)
    clear hK K
    refine nA ?_
    exact norm_ (by simp only [putAll, Act.put, List.setIfInBounds_toArray, List.set_cons_zero, List.set_cons_succ]) (hCont (.slice Ao13 t585.length co13, .slice Ao12 y588.length co12) _ ⟨(MO HO587).out, (MO HO590).out, (KW BK583).out, TB⟩)
   ·skip
    refine Kd.R_make_step (Kd.int .i64) _ 3 (by rfl) (N := 12) rfl 22 _ _ rfl (l0.length : Int) rfl rfl Try.underlying22 (.int .i64 0) 8 info3 rfl (by decide) (by omega) 0 (ok := fun _ => True) (okp := fun _ => True) rfl (fun _ hk => hk) trivial TD (Nat.le_trans (Nat.mul_le_mul_right _ (TD : (l0.length : Int).toNat ≤ 35184372088832)) (by omega)) (Below.refl _ _) (Nat.le_refl _) ?_
    intro v589 w9 ho10 hb hg_ hnew_
    clear hg_ hnew_
    (first | rw [← Ny588.out] at ho10 | (simp only [Int.reduceToNat] at ho10; rw [← Ny588.out] at ho10))
    have HO590 := RL ho10
    replace BK583 := KB BK583 hb
    replace HB := BS hb
    clear hb ho10
    refine hK.out _ _ trivial (fun hHeld => ?_)
    clear hK K
    refine nA ?_
    refine one_ (i := 1) (N := some 9) (mL 8 31) rfl rfl (one_of HT_.out KR) (by decide) (fun K hK => ?_)
    refine goes_ Try.func72 KR rfl #[.slice A0 l0.length c0] (by rfl) rfl rfl TA ?_
    with_reducible refine (slices_Clone_int_int.calls _ _ l0 t585 _ ?side1 ?side2 A4.out).mono ?_
    (case side1 => exact CW ((Kd.C_below HR0.out HB.out)))
    (case side2 => exact HC0.out)
    rintro e w11 ⟨v586, rfl, ho0, hb⟩
    refine ⟨_, rfl, ?_⟩
    have HO587 := RL (NW ho0 HO590)
    replace HO590 := EL HO590 ho0 hb
    replace BK583 := KB BK583 hb
    replace HB := BS hb
    (try clear hb)
    (try clear hb2)
    (try clear hk)
    (try clear hi)
    (try clear ho0)
    obtain ⟨Ao12, co12, eo12⟩ := Kd.R_slice HO590.out
    (first | subst eo12 | (injection eo12 with f1_ f2_ f3_; have f4_ := f1_.symm; have f5_ := f3_.symm; clear f1_ f2_ f3_; subst f4_; subst f5_))
    obtain ⟨Ao13, co13, eo13⟩ := Kd.R_slice HO587.out
    (first | subst eo13 | (injection eo13 with f1_ f2_ f3_; have f4_ := f1_.symm; have f5_ := f3_.symm; clear f1_ f2_ f3_; subst f4_; subst f5_))
    refine hK.out _ _ trivial (fun hHeld => ?_)
    clear hK K
    refine nA ?_
    exact norm_ (by simp only [putAll, Act.put, List.setIfInBounds_toArray, List.set_cons_zero, List.set_cons_succ]) (hCont (.slice Ao13 t585.length co13, .slice Ao12 y588.length co12) _ ⟨(MO HO587).out, (MO HO590).out, (KW BK583).out, TB⟩)
  rintro ⟨v586, v589⟩ w14 ⟨h0_, h1_, h2_, h3_⟩
  have n0_ : Aside0 (Kd.R (Kd.int .i64) 3 w14 w.heap.size (fun k_ => some k_ ≠ (v589 : Value).ownBlock) v586 t585) := ⟨h0_⟩
  have n1_ : Aside0 (Kd.R (Kd.int .i64) 3 w14 w.heap.size (fun k_ => some k_ ≠ (v586 : Value).ownBlock) v589 y588) := ⟨h1_⟩
  have n2_ : Aside0 (w14.heap[gb583]? = some (.cells #[.slice none 0 0, .slice none 0 0] 40 (0, 0))) := ⟨h2_⟩
  have n3_ : Aside0 (Below w.heap.size w w14) := ⟨h3_⟩
  clear BK583
  clear HB
  clear h0_ h1_ h2_ h3_
  have HO587 := n0_
  have HO590 := n1_
  have BK583 := n2_
  have HB := n3_
  clear n0_ n1_ n2_ n3_
  have hHeld := trivial
  obtain ⟨Ao15, co15, eo15⟩ := Kd.R_slice HO590.out
  (first | subst eo15 | (injection eo15 with f1_ f2_ f3_; have f4_ := f1_.symm; have f5_ := f3_.symm; clear f1_ f2_ f3_; subst f4_; subst f5_))
  obtain ⟨Ao16, co16, eo16⟩ := Kd.R_slice HO587.out
  (first | subst eo16 | (injection eo16 with f1_ f2_ f3_; have f4_ := f1_.symm; have f5_ := f3_.symm; clear f1_ f2_ f3_; subst f4_; subst f5_))
  refine norm_ (a' := ?_) ?_ ?_
  rotate_left
  ·simp only [putAll, Act.put, List.setIfInBounds_toArray, List.set_cons_zero, List.set_cons_succ]
   rfl
  refine pA 5 13 (mL 8 63) HT_ rfl rfl ?_
  refine one_ (i := 6) (N := none) (mL 8 127) rfl rfl (one_of HT_.out KR) (by decide) (fun K hK => ?_)
  have hs17 := bc 0 BK583
  have hfs17 := blk_frozen BK583.out 0
  have hs18 := bc 1 BK583
  have hfs18 := blk_frozen BK583.out 1
  refine skip_ (w1 := ?_) (by rfl) rfl ?_ ?_
  rotate_left
  ·go_simp
   rfl
  refine hK.out _ _ trivial (fun hHeld => ?_)
  clear hK K
  refine pA 7 3 (mL 8 255) HT_ rfl rfl ?_
  refine done_ (done_of HT_.out KR) ?_
  try go_wp2
  refine bodyPost_ret (results_ct rfl _ _ gb583 40 #[.slice Ao16 t585.length co16, .slice Ao15 y588.length co15] (0, 0) _ rfl (by (with_reducible repeat (first | refine blk_drewN ?_ _ | refine blk_drew ?_ | refine blk_alloc ?_ _)); refine blk_put (cs := #[.slice Ao16 t585.length co16, .slice none 0 0]) ?_ 1 _ rfl; (with_reducible repeat (first | refine blk_drewN ?_ _ | refine blk_drew ?_ | refine blk_alloc ?_ _)); refine blk_put (cs := #[.slice none 0 0, .slice none 0 0]) ?_ 0 _ rfl; (with_reducible repeat (first | refine blk_drewN ?_ _ | refine blk_drew ?_ | refine blk_alloc ?_ _)); exact BK583.out) Try.underlying40 rfl KR) rfl ?_
  exact ⟨_, _, TE, by (with_reducible repeat (first | apply Kd.R_alloc | apply Kd.R_drewN | apply Kd.R_drew)); exact Kd.R_mono (Kd.R_far (p := ⟨gb583, 1, none⟩) (Kd.R_far (p := ⟨gb583, 0, none⟩) (Kd.R_types HO587.out BK583.out (by decide)) (fun _ hk => hk.2) (.slice Ao16 t585.length co16)) (fun _ hk => hk.2) (.slice Ao15 y588.length co15)) (fun _ hk => hk.1), by (with_reducible repeat (first | apply Kd.R_alloc | apply Kd.R_drewN | apply Kd.R_drew)); exact Kd.R_mono (Kd.R_far (p := ⟨gb583, 1, none⟩) (Kd.R_far (p := ⟨gb583, 0, none⟩) (Kd.R_types HO590.out BK583.out (by decide)) (fun _ hk => hk.2) (.slice Ao16 t585.length co16)) (fun _ hk => hk.2) (.slice Ao15 y588.length co15)) (fun _ hk => hk.1), TB⟩
 ·replace c3 := Bool.eq_false_iff.mpr c3
  subst c3
  replace H := iff' H
  simp only [Option.some.injEq, Prod.mk.injEq] at H
  obtain ⟨rfl, rfl, rfl⟩ := H
  go_enter Try.func32, Try.ntmps32
  go_wp2_with (first | ((with_reducible refine gate_dst (N := 2) rfl ?_); refine bE 2 #[.slice none 0 0, .slice none 0 0] 40 ?_; intro gb583 hg w19 hbox hb; have BK583 := Aside0.mk (hbox); have GE583 := bG hg; replace HB := BS hb; clear hb hbox hg) | ((with_reducible refine gate_callee (f := 17) rfl ?_); refine goesL_ (some 5) rfl rfl Try.func17 KR rfl #[.slice A0 l0.length c0] rfl TA ?_; (with_reducible refine (impl_GoodWeights.calls k _ _ l0 false _ ?side1 ?side2 A2.out).mono ?_); (case side1 => exact CW ((Kd.C_below HR0.out HB.out))); (case side2 => exact HC0.out); rintro e w' ⟨rfl, ⟨nd, rfl⟩⟩; refine ⟨_, rfl, ?_⟩; (try (rw [drewN_self w19]; generalize hq_ : World.drewN w19 _ = w19; have n0_ : Aside0 (w19.heap[gb583]? = some (.cells #[.slice none 0 0, .slice none 0 0] 40 (0, 0))) := ⟨by rw [← hq_]; exact (KW BK583).out⟩; have n1_ : Aside0 (Below w.heap.size w w19) := ⟨by rw [← hq_]; exact TB⟩; clear BK583 HB hq_; have BK583 := n0_; have HB := n1_; clear n0_ n1_)); have hcz20 := cz2 BK583))
  refine bodyPost_ret (results_ct rfl _ _ gb583 40 #[.slice none 0 0, .slice none 0 0] (0, 0) _ rfl (by (with_reducible repeat (first | refine blk_drewN ?_ _ | refine blk_drew ?_ | refine blk_alloc ?_ _)); refine blk_put (cs := #[.slice none 0 0, .slice none 0 0]) ?_ 1 _ rfl; (with_reducible repeat (first | refine blk_drewN ?_ _ | refine blk_drew ?_ | refine blk_alloc ?_ _)); refine blk_put (cs := #[.slice none 0 0, .slice none 0 0]) ?_ 0 _ rfl; (with_reducible repeat (first | refine blk_drewN ?_ _ | refine blk_drew ?_ | refine blk_alloc ?_ _)); exact BK583.out) Try.underlying40 rfl KR) rfl ?_
  exact ⟨_, _, TE, TZ, TZ, TB⟩
end
end Go.Proofs.Ytioeomjjfajldaa.Pp
