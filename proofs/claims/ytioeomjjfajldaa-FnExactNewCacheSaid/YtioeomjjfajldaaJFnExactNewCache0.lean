/- The functions that the law reaches, one Lean function and its proof for each; written by wip/pp of this workplace, joined by claimit.py. -/
import Derived.Test.YtioeomjjfajldaaProg
import Derived.Below
import Derived.Deep.Draws
import Derived.Deep.AppendLies
import Derived.Maps.AppendAt
import Derived.OwnWalk
import Derived.Laws.BytesArg
import Derived.Laws.MakeOwn
import Derived.Laws.OwnMore
import Derived.Deep.OwnRows
import Derived.Tactics
import Derived.Lib.ConvBytes
import Derived.Laws.Slices
import Derived.WalkKit
import Derived.KernelRfl
import Derived.RowKit3
import Derived.Deep.LoopGhost
import Derived.Deep.QuietTactic
import Derived.BigQuiet
import Derived.WideLaws
import Derived.Deep.DeepCutAuto
import Derived.Deep.CutBlock
import Derived.Deep.RegionHeld3
import Derived.Laws.Rows
import Derived.Lib.AppendStr
import Derived.ArgAppend
import Derived.Laws.IdiomCopy
import Derived.OrdersHeld
import Derived.Laws.BitsLemmas
import Derived.RowKit
import Derived.Test.YtioeomjjfajldaaXWords
import Derived.Test.YtioeomjjfajldaaXSq
import Derived.Test.YtioeomjjfajldaaWWords
import Derived.Test.YtioeomjjfajldaaWLast
import Derived.Test.YtioeomjjfajldaaWTab
import Derived.Test.YtioeomjjfajldaaWFour
import Derived.Test.YtioeomjjfajldaaWQPut
import Derived.Test.YtioeomjjfajldaaWApart
import Derived.Test.YtioeomjjfajldaaWArr
import Derived.Test.YtioeomjjfajldaaWZeros
import Derived.Test.YtioeomjjfajldaaWFoot
import Derived.Test.YtioeomjjfajldaaWKept
import Derived.Test.YtioeomjjfajldaaWShare
import Derived.Test.YtioeomjjfajldaaWN
import Derived.Test.YtioeomjjfajldaaWFootNe
import Derived.Test.YtioeomjjfajldaaWAt
import Derived.Test.YtioeomjjfajldaaWEqStruct
import Derived.Test.YtioeomjjfajldaaWRepsOne
import Derived.Test.YtioeomjjfajldaaWInv
import Derived.Test.YtioeomjjfajldaaWInvWords
import Derived.Test.YtioeomjjfajldaaWGuard
import Derived.Test.YtioeomjjfajldaaWNEv
import Derived.Test.YtioeomjjfajldaaWMore
namespace Go.Proofs.Ytioeomjjfajldaa.Pp
open Go.RowKit Go.Proofs.YtioeomjjfajldaaW.PrintWords Go.Proofs.YtioeomjjfajldaaW.PrintLast Go.Proofs.YtioeomjjfajldaaW.PrintMore
attribute [local go_sem] max2_int min2_int max_two min_two max_three min_three max_four min_four   -- for this text's walks alone
set_option linter.unusedVariables false
set_option linter.unusedSimpArgs false



set_option maxHeartbeats 8000000
set_option maxRecDepth 100000
section
def errW : Option Int → Value
 | none => .nilIface
 | some c => .iface 0 (.int .i64 c)
theorem errW_none : errW none = .nilIface := rfl
theorem errW_some (c : Int) : errW (some c) = .iface 0 (.int .i64 c) := rfl

theorem info3 : (Try.prog.info? 3).map (fun i => (i.zero, i.size, i.bytes)) = some (some (.int .i64 0), 1, 8) := by kernel_rfl
theorem info4 : (Try.prog.info? 4).map (fun i => (i.zero, i.size, i.bytes)) = some (some (.bool false), 1, 1) := by kernel_rfl
theorem info5 : (Try.prog.info? 5).map (fun i => (i.zero, i.size, i.bytes)) = some (some (.int .u8 0), 1, 1) := by kernel_rfl
theorem info65 : (Try.prog.info? 65).map (fun i => (i.zero, i.size, i.bytes)) = some (some (.agg #[(.int .i64 0), (.int .i64 0)]), 2, 16) := by kernel_rfl
-- the values' own types
/-! #### struct type 65 -/
structure S_Column where
 f0 : Int
 f1 : Int
def z_Column : S_Column := ⟨(0 : Int), (0 : Int)⟩
def k_Column : Kd S_Column := Kd.iso (Kd.pair (Kd.int .i64) (Kd.int .i64)) (fun x : S_Column => (x.f0, x.f1))
theorem k_Column_open {w : World} {x : S_Column} {cs : List Value} (h : k_Column.K w x cs) : cs = [.int .i64 x.f0, .int .i64 x.f1] := by
 obtain ⟨_, _, rfl, rfl, rfl⟩ := h
 exact rfl
theorem k_Column_openM {w : World} {base : Nat} {ok : Nat → Prop} {x : S_Column} {cs : List Value} (h : k_Column.M w base ok x cs) : cs = [.int .i64 x.f0, .int .i64 x.f1] := by
 obtain ⟨_, _, rfl, rfl, rfl⟩ := h
 exact rfl
theorem k_Column_mk (w : World) (x : S_Column)  : k_Column.K w x [.int .i64 x.f0, .int .i64 x.f1] := ⟨[.int .i64 x.f0], [.int .i64 x.f1], rfl, rfl, rfl⟩
theorem k_Column_mkM (w : World) (base : Nat) (ok : Nat → Prop) (x : S_Column)  : k_Column.M w base ok x [.int .i64 x.f0, .int .i64 x.f1] := ⟨[.int .i64 x.f0], [.int .i64 x.f1], rfl, rfl, rfl⟩
def rd_TColumn (xs : List S_Column) (i : Int) : S_Column := xs.getD i.toNat z_Column
theorem at_TColumn {w : World} {A : Option Addr} {n : Nat} {xs : List S_Column} (h : Kd.C k_Column w A n xs) (i : Int) (h0 : 0 ≤ i) (h1 : i < n) : ∃ ad , A = some ad ∧ w.cell? (ad.add (i.toNat * 2)) = some (.int .i64 (rd_TColumn xs i).f0) ∧ w.cell? ⟨(ad.add (i.toNat * 2)).block, (ad.add (i.toNat * 2)).off + 1, none⟩ = some (.int .i64 (rd_TColumn xs i).f1) := by
 obtain ⟨ad, c, e, _, hK, hc0⟩ := Kd.C_get h z_Column i h0 h1
 have hc : ∀ j u, c[j]? = some u → w.cell? (ad.add (i.toNat * 2 + j)) = some u := hc0
 obtain rfl := k_Column_open hK
 exact ⟨ad, e, hc 0 _ rfl, by rw [← add_field _ _ 1 (by omega)]; exact hc 1 _ rfl⟩

/-! #### struct type 80 -/
structure S_LColumn where
 f0 : Int
 f1 : Int
def z_LColumn : S_LColumn := ⟨(0 : Int), (0 : Int)⟩
def k_LColumn : Kd S_LColumn := Kd.iso (Kd.pair (Kd.int .i64) (Kd.int .i64)) (fun x : S_LColumn => (x.f0, x.f1))
theorem k_LColumn_open {w : World} {x : S_LColumn} {cs : List Value} (h : k_LColumn.K w x cs) : cs = [.int .i64 x.f0, .int .i64 x.f1] := by
 obtain ⟨_, _, rfl, rfl, rfl⟩ := h
 exact rfl
theorem k_LColumn_openM {w : World} {base : Nat} {ok : Nat → Prop} {x : S_LColumn} {cs : List Value} (h : k_LColumn.M w base ok x cs) : cs = [.int .i64 x.f0, .int .i64 x.f1] := by
 obtain ⟨_, _, rfl, rfl, rfl⟩ := h
 exact rfl
theorem k_LColumn_mk (w : World) (x : S_LColumn)  : k_LColumn.K w x [.int .i64 x.f0, .int .i64 x.f1] := ⟨[.int .i64 x.f0], [.int .i64 x.f1], rfl, rfl, rfl⟩
theorem k_LColumn_mkM (w : World) (base : Nat) (ok : Nat → Prop) (x : S_LColumn)  : k_LColumn.M w base ok x [.int .i64 x.f0, .int .i64 x.f1] := ⟨[.int .i64 x.f0], [.int .i64 x.f1], rfl, rfl, rfl⟩
def rd_TLColumn (xs : List S_LColumn) (i : Int) : S_LColumn := xs.getD i.toNat z_LColumn
theorem at_TLColumn {w : World} {A : Option Addr} {n : Nat} {xs : List S_LColumn} (h : Kd.C k_LColumn w A n xs) (i : Int) (h0 : 0 ≤ i) (h1 : i < n) : ∃ ad , A = some ad ∧ w.cell? (ad.add (i.toNat * 2)) = some (.int .i64 (rd_TLColumn xs i).f0) ∧ w.cell? ⟨(ad.add (i.toNat * 2)).block, (ad.add (i.toNat * 2)).off + 1, none⟩ = some (.int .i64 (rd_TLColumn xs i).f1) := by
 obtain ⟨ad, c, e, _, hK, hc0⟩ := Kd.C_get h z_LColumn i h0 h1
 have hc : ∀ j u, c[j]? = some u → w.cell? (ad.add (i.toNat * 2 + j)) = some u := hc0
 obtain rfl := k_LColumn_open hK
 exact ⟨ad, e, hc 0 _ rfl, by rw [← add_field _ _ 1 (by omega)]; exact hc 1 _ rfl⟩

/-! #### struct type 113 -/
structure S_Record where
 f0 : ByteArray
 f1 : Int
 f2 : Int
 f3 : ByteArray
def z_Record : S_Record := ⟨(⟨#[]⟩ : ByteArray), (0 : Int), (0 : Int), (⟨#[]⟩ : ByteArray)⟩
def k_Record : Kd S_Record := Kd.iso (Kd.pair Kd.string (Kd.pair (Kd.int .i64) (Kd.pair (Kd.int .i64) Kd.string))) (fun x : S_Record => (x.f0, x.f1, x.f2, x.f3))
theorem k_Record_open {w : World} {x : S_Record} {cs : List Value} (h : k_Record.K w x cs) : cs = [.string x.f0, .int .i64 x.f1, .int .i64 x.f2, .string x.f3] := by
 obtain ⟨_, _, rfl, rfl, ⟨_, _, rfl, rfl, ⟨_, _, rfl, rfl, rfl⟩⟩⟩ := h
 exact rfl
theorem k_Record_openM {w : World} {base : Nat} {ok : Nat → Prop} {x : S_Record} {cs : List Value} (h : k_Record.M w base ok x cs) : cs = [.string x.f0, .int .i64 x.f1, .int .i64 x.f2, .string x.f3] := by
 obtain ⟨_, _, rfl, rfl, ⟨_, _, rfl, rfl, ⟨_, _, rfl, rfl, rfl⟩⟩⟩ := h
 exact rfl
theorem k_Record_mk (w : World) (x : S_Record)  : k_Record.K w x [.string x.f0, .int .i64 x.f1, .int .i64 x.f2, .string x.f3] := ⟨[.string x.f0], [.int .i64 x.f1, .int .i64 x.f2, .string x.f3], rfl, rfl, ⟨[.int .i64 x.f1], [.int .i64 x.f2, .string x.f3], rfl, rfl, ⟨[.int .i64 x.f2], [.string x.f3], rfl, rfl, rfl⟩⟩⟩
theorem k_Record_mkM (w : World) (base : Nat) (ok : Nat → Prop) (x : S_Record)  : k_Record.M w base ok x [.string x.f0, .int .i64 x.f1, .int .i64 x.f2, .string x.f3] := ⟨[.string x.f0], [.int .i64 x.f1, .int .i64 x.f2, .string x.f3], rfl, rfl, ⟨[.int .i64 x.f1], [.int .i64 x.f2, .string x.f3], rfl, rfl, ⟨[.int .i64 x.f2], [.string x.f3], rfl, rfl, rfl⟩⟩⟩
def rd_TRecord (xs : List S_Record) (i : Int) : S_Record := xs.getD i.toNat z_Record
theorem at_TRecord {w : World} {A : Option Addr} {n : Nat} {xs : List S_Record} (h : Kd.C k_Record w A n xs) (i : Int) (h0 : 0 ≤ i) (h1 : i < n) : ∃ ad , A = some ad ∧ w.cell? (ad.add (i.toNat * 4)) = some (.string (rd_TRecord xs i).f0) ∧ w.cell? ⟨(ad.add (i.toNat * 4)).block, (ad.add (i.toNat * 4)).off + 1, none⟩ = some (.int .i64 (rd_TRecord xs i).f1) ∧ w.cell? ⟨(ad.add (i.toNat * 4)).block, (ad.add (i.toNat * 4)).off + 2, none⟩ = some (.int .i64 (rd_TRecord xs i).f2) ∧ w.cell? ⟨(ad.add (i.toNat * 4)).block, (ad.add (i.toNat * 4)).off + 3, none⟩ = some (.string (rd_TRecord xs i).f3) := by
 obtain ⟨ad, c, e, _, hK, hc0⟩ := Kd.C_get h z_Record i h0 h1
 have hc : ∀ j u, c[j]? = some u → w.cell? (ad.add (i.toNat * 4 + j)) = some u := hc0
 obtain rfl := k_Record_open hK
 exact ⟨ad, e, hc 0 _ rfl, by rw [← add_field _ _ 1 (by omega)]; exact hc 1 _ rfl, by rw [← add_field _ _ 2 (by omega)]; exact hc 2 _ rfl, by rw [← add_field _ _ 3 (by omega)]; exact hc 3 _ rfl⟩

def rd_L7 (xs : List (List S_Record)) (i : Int) : (List S_Record) := xs.getD i.toNat ([] : List S_Record)
theorem at_L7 {w : World} {A : Option Addr} {n : Nat} {xs : List (List S_Record)} (h : Kd.C (Kd.slice 113 k_Record) w A n xs) (i : Int) (h0 : 0 ≤ i) (h1 : i < n) : ∃ ad A0 c0, A = some ad ∧ w.cell? (ad.add i.toNat) = some (.slice A0 (rd_L7 xs i).length c0) ∧ (rd_L7 xs i).length ≤ c0 ∧ k_Record.C w A0 (rd_L7 xs i).length (rd_L7 xs i) := by
 obtain ⟨ad, c, e, _, hK, hc0⟩ := Kd.C_get h ([] : List S_Record) i h0 h1
 have hc : ∀ j u, c[j]? = some u → w.cell? (ad.add (i.toNat * 1 + j)) = some u := hc0
 obtain ⟨A0, c0, rfl, l0, g0⟩ := hK
 exact ⟨ad, A0, c0, e, by have hq := hc 0 _ rfl; rwa [Nat.mul_one, Nat.add_zero] at hq, l0, g0⟩

/-! #### struct type 107 -/
structure S_Entry where
 f0 : ByteArray
 f1 : Int
 f2 : Bool
 f3 : (List S_Record)
 f4 : Int
 f5 : Int
def z_Entry : S_Entry := ⟨(⟨#[]⟩ : ByteArray), (0 : Int), false, ([] : List S_Record), (0 : Int), (0 : Int)⟩
def k_Entry : Kd S_Entry := Kd.iso (Kd.pair Kd.string (Kd.pair (Kd.int .i64) (Kd.pair Kd.bool (Kd.pair (Kd.slice 113 k_Record) (Kd.pair (Kd.int .i64) (Kd.int .i64)))))) (fun x : S_Entry => (x.f0, x.f1, x.f2, x.f3, x.f4, x.f5))
theorem k_Entry_open {w : World} {x : S_Entry} {cs : List Value} (h : k_Entry.K w x cs) : ∃ A3 c3, cs = [.string x.f0, .int .i64 x.f1, .bool x.f2, .slice A3 x.f3.length c3, .int .i64 x.f4, .int .i64 x.f5] ∧ x.f3.length ≤ c3 ∧ k_Record.C w A3 x.f3.length x.f3 := by
 obtain ⟨_, _, rfl, rfl, ⟨_, _, rfl, rfl, ⟨_, _, rfl, rfl, ⟨_, _, rfl, ⟨A3, c3, rfl, l3, g3⟩, ⟨_, _, rfl, rfl, rfl⟩⟩⟩⟩⟩ := h
 exact ⟨A3, c3, rfl, l3, g3⟩
theorem k_Entry_openM {w : World} {base : Nat} {ok : Nat → Prop} {x : S_Entry} {cs : List Value} (h : k_Entry.M w base ok x cs) : ∃ v3, cs = [.string x.f0, .int .i64 x.f1, .bool x.f2, v3, .int .i64 x.f4, .int .i64 x.f5] ∧ k_Record.R 113 w base ok v3 x.f3 := by
 obtain ⟨_, _, rfl, rfl, ⟨_, _, rfl, rfl, ⟨_, _, rfl, rfl, ⟨_, _, rfl, ⟨v3, rfl, g3⟩, ⟨_, _, rfl, rfl, rfl⟩⟩⟩⟩⟩ := h
 exact ⟨v3, rfl, g3⟩
theorem k_Entry_mk (w : World) (x : S_Entry) {A3 : Option Addr} {c3 : Nat} (l3 : x.f3.length ≤ c3) (g3 : k_Record.C w A3 x.f3.length x.f3) : k_Entry.K w x [.string x.f0, .int .i64 x.f1, .bool x.f2, .slice A3 x.f3.length c3, .int .i64 x.f4, .int .i64 x.f5] := ⟨[.string x.f0], [.int .i64 x.f1, .bool x.f2, .slice A3 x.f3.length c3, .int .i64 x.f4, .int .i64 x.f5], rfl, rfl, ⟨[.int .i64 x.f1], [.bool x.f2, .slice A3 x.f3.length c3, .int .i64 x.f4, .int .i64 x.f5], rfl, rfl, ⟨[.bool x.f2], [.slice A3 x.f3.length c3, .int .i64 x.f4, .int .i64 x.f5], rfl, rfl, ⟨[.slice A3 x.f3.length c3], [.int .i64 x.f4, .int .i64 x.f5], rfl, ⟨A3, c3, rfl, l3, g3⟩, ⟨[.int .i64 x.f4], [.int .i64 x.f5], rfl, rfl, rfl⟩⟩⟩⟩⟩
theorem k_Entry_mkM (w : World) (base : Nat) (ok : Nat → Prop) (x : S_Entry) {v3 : Value} (g3 : k_Record.R 113 w base ok v3 x.f3) : k_Entry.M w base ok x [.string x.f0, .int .i64 x.f1, .bool x.f2, v3, .int .i64 x.f4, .int .i64 x.f5] := ⟨[.string x.f0], [.int .i64 x.f1, .bool x.f2, v3, .int .i64 x.f4, .int .i64 x.f5], rfl, rfl, ⟨[.int .i64 x.f1], [.bool x.f2, v3, .int .i64 x.f4, .int .i64 x.f5], rfl, rfl, ⟨[.bool x.f2], [v3, .int .i64 x.f4, .int .i64 x.f5], rfl, rfl, ⟨[v3], [.int .i64 x.f4, .int .i64 x.f5], rfl, ⟨v3, rfl, g3⟩, ⟨[.int .i64 x.f4], [.int .i64 x.f5], rfl, rfl, rfl⟩⟩⟩⟩⟩
def rd_TEntry (xs : List S_Entry) (i : Int) : S_Entry := xs.getD i.toNat z_Entry
theorem at_TEntry {w : World} {A : Option Addr} {n : Nat} {xs : List S_Entry} (h : Kd.C k_Entry w A n xs) (i : Int) (h0 : 0 ≤ i) (h1 : i < n) : ∃ ad A3 c3, A = some ad ∧ w.cell? (ad.add (i.toNat * 6)) = some (.string (rd_TEntry xs i).f0) ∧ w.cell? ⟨(ad.add (i.toNat * 6)).block, (ad.add (i.toNat * 6)).off + 1, none⟩ = some (.int .i64 (rd_TEntry xs i).f1) ∧ w.cell? ⟨(ad.add (i.toNat * 6)).block, (ad.add (i.toNat * 6)).off + 2, none⟩ = some (.bool (rd_TEntry xs i).f2) ∧ w.cell? ⟨(ad.add (i.toNat * 6)).block, (ad.add (i.toNat * 6)).off + 3, none⟩ = some (.slice A3 (rd_TEntry xs i).f3.length c3) ∧ w.cell? ⟨(ad.add (i.toNat * 6)).block, (ad.add (i.toNat * 6)).off + 4, none⟩ = some (.int .i64 (rd_TEntry xs i).f4) ∧ w.cell? ⟨(ad.add (i.toNat * 6)).block, (ad.add (i.toNat * 6)).off + 5, none⟩ = some (.int .i64 (rd_TEntry xs i).f5) ∧ (rd_TEntry xs i).f3.length ≤ c3 ∧ k_Record.C w A3 (rd_TEntry xs i).f3.length (rd_TEntry xs i).f3 := by
 obtain ⟨ad, c, e, _, hK, hc0⟩ := Kd.C_get h z_Entry i h0 h1
 have hc : ∀ j u, c[j]? = some u → w.cell? (ad.add (i.toNat * 6 + j)) = some u := hc0
 obtain ⟨A3, c3, rfl, l3, g3⟩ := k_Entry_open hK
 exact ⟨ad, A3, c3, e, hc 0 _ rfl, by rw [← add_field _ _ 1 (by omega)]; exact hc 1 _ rfl, by rw [← add_field _ _ 2 (by omega)]; exact hc 2 _ rfl, by rw [← add_field _ _ 3 (by omega)]; exact hc 3 _ rfl, by rw [← add_field _ _ 4 (by omega)]; exact hc 4 _ rfl, by rw [← add_field _ _ 5 (by omega)]; exact hc 5 _ rfl, l3, g3⟩

def rd_L9 (xs : List (List Int)) (i : Int) : (List Int) := xs.getD i.toNat ([] : List Int)
theorem at_L9 {w : World} {A : Option Addr} {n : Nat} {xs : List (List Int)} (h : Kd.C (Kd.slice 3 (Kd.int .i64)) w A n xs) (i : Int) (h0 : 0 ≤ i) (h1 : i < n) : ∃ ad A0 c0, A = some ad ∧ w.cell? (ad.add i.toNat) = some (.slice A0 (rd_L9 xs i).length c0) ∧ (rd_L9 xs i).length ≤ c0 ∧ (Kd.int .i64).C w A0 (rd_L9 xs i).length (rd_L9 xs i) := by
 obtain ⟨ad, c, e, _, hK, hc0⟩ := Kd.C_get h ([] : List Int) i h0 h1
 have hc : ∀ j u, c[j]? = some u → w.cell? (ad.add (i.toNat * 1 + j)) = some u := hc0
 obtain ⟨A0, c0, rfl, l0, g0⟩ := hK
 exact ⟨ad, A0, c0, e, by have hq := hc 0 _ rfl; rwa [Nat.mul_one, Nat.add_zero] at hq, l0, g0⟩

/-! #### struct type 37 -/
structure S_LTurn where
 f0 : (List Int)
 f1 : (List Int)
def z_LTurn : S_LTurn := ⟨([] : List Int), ([] : List Int)⟩
def k_LTurn : Kd S_LTurn := Kd.iso (Kd.pair (Kd.slice 3 (Kd.int .i64)) (Kd.slice 3 (Kd.int .i64))) (fun x : S_LTurn => (x.f0, x.f1))
theorem k_LTurn_open {w : World} {x : S_LTurn} {cs : List Value} (h : k_LTurn.K w x cs) : ∃ A0 c0 A1 c1, cs = [.slice A0 x.f0.length c0, .slice A1 x.f1.length c1] ∧ x.f0.length ≤ c0 ∧ (Kd.int .i64).C w A0 x.f0.length x.f0 ∧ x.f1.length ≤ c1 ∧ (Kd.int .i64).C w A1 x.f1.length x.f1 := by
 obtain ⟨_, _, rfl, ⟨A0, c0, rfl, l0, g0⟩, ⟨A1, c1, rfl, l1, g1⟩⟩ := h
 exact ⟨A0, c0, A1, c1, rfl, l0, g0, l1, g1⟩
theorem k_LTurn_openM {w : World} {base : Nat} {ok : Nat → Prop} {x : S_LTurn} {cs : List Value} (h : k_LTurn.M w base ok x cs) : ∃ v0 v1, cs = [v0, v1] ∧ (Kd.int .i64).R 3 w base ok v0 x.f0 ∧ (Kd.int .i64).R 3 w base ok v1 x.f1 := by
 obtain ⟨_, _, rfl, ⟨v0, rfl, g0⟩, ⟨v1, rfl, g1⟩⟩ := h
 exact ⟨v0, v1, rfl, g0, g1⟩
theorem k_LTurn_mk (w : World) (x : S_LTurn) {A0 : Option Addr} {c0 : Nat} (l0 : x.f0.length ≤ c0) (g0 : (Kd.int .i64).C w A0 x.f0.length x.f0) {A1 : Option Addr} {c1 : Nat} (l1 : x.f1.length ≤ c1) (g1 : (Kd.int .i64).C w A1 x.f1.length x.f1) : k_LTurn.K w x [.slice A0 x.f0.length c0, .slice A1 x.f1.length c1] := ⟨[.slice A0 x.f0.length c0], [.slice A1 x.f1.length c1], rfl, ⟨A0, c0, rfl, l0, g0⟩, ⟨A1, c1, rfl, l1, g1⟩⟩
theorem k_LTurn_mkM (w : World) (base : Nat) (ok : Nat → Prop) (x : S_LTurn) {v0 : Value} (g0 : (Kd.int .i64).R 3 w base ok v0 x.f0) {v1 : Value} (g1 : (Kd.int .i64).R 3 w base ok v1 x.f1) : k_LTurn.M w base ok x [v0, v1] := ⟨[v0], [v1], rfl, ⟨v0, rfl, g0⟩, ⟨v1, rfl, g1⟩⟩
def rd_TLTurn (xs : List S_LTurn) (i : Int) : S_LTurn := xs.getD i.toNat z_LTurn
theorem at_TLTurn {w : World} {A : Option Addr} {n : Nat} {xs : List S_LTurn} (h : Kd.C k_LTurn w A n xs) (i : Int) (h0 : 0 ≤ i) (h1 : i < n) : ∃ ad A0 c0 A1 c1, A = some ad ∧ w.cell? (ad.add (i.toNat * 2)) = some (.slice A0 (rd_TLTurn xs i).f0.length c0) ∧ w.cell? ⟨(ad.add (i.toNat * 2)).block, (ad.add (i.toNat * 2)).off + 1, none⟩ = some (.slice A1 (rd_TLTurn xs i).f1.length c1) ∧ (rd_TLTurn xs i).f0.length ≤ c0 ∧ (Kd.int .i64).C w A0 (rd_TLTurn xs i).f0.length (rd_TLTurn xs i).f0 ∧ (rd_TLTurn xs i).f1.length ≤ c1 ∧ (Kd.int .i64).C w A1 (rd_TLTurn xs i).f1.length (rd_TLTurn xs i).f1 := by
 obtain ⟨ad, c, e, _, hK, hc0⟩ := Kd.C_get h z_LTurn i h0 h1
 have hc : ∀ j u, c[j]? = some u → w.cell? (ad.add (i.toNat * 2 + j)) = some u := hc0
 obtain ⟨A0, c0, A1, c1, rfl, l0, g0, l1, g1⟩ := k_LTurn_open hK
 exact ⟨ad, A0, c0, A1, c1, e, hc 0 _ rfl, by rw [← add_field _ _ 1 (by omega)]; exact hc 1 _ rfl, l0, g0, l1, g1⟩

def WF_LColumn (x : S_LColumn) : Prop := ((Lit.int .i64 x.f0).wf = true) ∧ (Lit.int .i64 x.f1).wf = true
def WF_LTurn (x : S_LTurn) : Prop := (x.f0.length ≤ maxLen ∧ ∀ x_ ∈ x.f0, (Lit.int .i64 x_).wf = true) ∧ x.f1.length ≤ maxLen ∧ ∀ x_ ∈ x.f1, (Lit.int .i64 x_).wf = true
end
section
/-! ### spec_NewCache: function 53 -/
def spec_NewCache.f  : Option (Int × (List (S_Entry))) := some (1, ([] : List (S_Entry)))
theorem spec_NewCache.calls  (r1 : Int) (r2 : List (S_Entry)) (w : World) (h : spec_NewCache.f  = some (r1, r2)) :
  Calls Try.prog 53 #[] w fun e w' => ∃ v1_ : Value, e = .returned (.agg #[.int .i64 r1, v1_]) ∧ Kd.S k_Entry 107 w' w.heap.size (fun _ => True) v1_ r2 ∧ Below w.heap.size w w' := by
 have hu70 := Try.underlying70
 have HB := Aside0.mk (Below.refl w.heap.size w)
 have H : (some (1, ([] : List (S_Entry)))) = some (r1, r2) := h
 clear h
 simp only [Option.some.injEq, Prod.mk.injEq] at H
 obtain ⟨rfl, rfl⟩ := H
 go_enter Try.func53, Try.ntmps53
 go_wp2_with (first | ((with_reducible refine gate_dst (N := 0) rfl ?_); refine bE 0 #[.int .i64 0, .slice none 0 0] 70 ?_; intro gb509 hg w1 hbox hb; have BK509 := Aside0.mk (hbox); have GE509 := bG hg; replace HB := BS hb; clear hb hbox hg; have hcz2 := cz2 BK509))
 refine bodyPost_ret (results_cell_row rfl _ _ gb509 70 #[.int .i64 1, .slice none 0 0] (0, 0) _ rfl (by (with_reducible repeat (first | refine blk_drewN ?_ _ | refine blk_drew ?_ | refine blk_alloc ?_ _)); refine blk_put (cs := #[.int .i64 1, .slice none 0 0]) ?_ 1 _ rfl; (with_reducible repeat (first | refine blk_drewN ?_ _ | refine blk_drew ?_ | refine blk_alloc ?_ _)); refine blk_put (cs := #[.int .i64 0, .slice none 0 0]) ?_ 0 _ rfl; (with_reducible repeat (first | refine blk_drewN ?_ _ | refine blk_drew ?_ | refine blk_alloc ?_ _)); exact BK509.out) Try.underlying70 rfl KR) rfl ?_
 exact ⟨_, TE, by first | exact Kd.S_nil _ _ _ _ _ | exact Kd.N_nil _ _ _ _ _ | exact Kd.V_nil _ _ _ _ _ | exact Kd.Q_nil _ _ _ _ _ | exact Kd.R_nil _ _ _ _ _, TB⟩
end
section
/-! ### impl_NewCache: function 54 -/
def impl_NewCache.f  : Option (Int × (List (S_Entry))) := some (1, ([] : List (S_Entry)))
theorem impl_NewCache.calls  (r1 : Int) (r2 : List (S_Entry)) (w : World) (h : impl_NewCache.f  = some (r1, r2)) :
  Calls Try.prog 54 #[] w fun e w' => ∃ v1_ : Value, e = .returned (.agg #[.int .i64 r1, v1_]) ∧ Kd.S k_Entry 107 w' w.heap.size (fun _ => True) v1_ r2 ∧ Below w.heap.size w w' := by
 have hu70 := Try.underlying70
 have HB := Aside0.mk (Below.refl w.heap.size w)
 have H : (some (1, ([] : List (S_Entry)))) = some (r1, r2) := h
 clear h
 simp only [Option.some.injEq, Prod.mk.injEq] at H
 obtain ⟨rfl, rfl⟩ := H
 go_enter Try.func54, Try.ntmps54
 go_wp2_with (first | ((with_reducible refine gate_dst (N := 0) rfl ?_); refine bE 0 #[.int .i64 0, .slice none 0 0] 70 ?_; intro gb510 hg w1 hbox hb; have BK510 := Aside0.mk (hbox); have GE510 := bG hg; replace HB := BS hb; clear hb hbox hg; have hcz2 := cz2 BK510))
 refine bodyPost_ret (results_cell_row rfl _ _ gb510 70 #[.int .i64 1, .slice none 0 0] (0, 0) _ rfl (by (with_reducible repeat (first | refine blk_drewN ?_ _ | refine blk_drew ?_ | refine blk_alloc ?_ _)); refine blk_put (cs := #[.int .i64 1, .slice none 0 0]) ?_ 1 _ rfl; (with_reducible repeat (first | refine blk_drewN ?_ _ | refine blk_drew ?_ | refine blk_alloc ?_ _)); refine blk_put (cs := #[.int .i64 0, .slice none 0 0]) ?_ 0 _ rfl; (with_reducible repeat (first | refine blk_drewN ?_ _ | refine blk_drew ?_ | refine blk_alloc ?_ _)); exact BK510.out) Try.underlying70 rfl KR) rfl ?_
 exact ⟨_, TE, by first | exact Kd.S_nil _ _ _ _ _ | exact Kd.N_nil _ _ _ _ _ | exact Kd.V_nil _ _ _ _ _ | exact Kd.Q_nil _ _ _ _ _ | exact Kd.R_nil _ _ _ _ _, TB⟩
end
section
/-! ### laws_eqRecord: function 97 -/
def laws_eqRecord.f (a0_0 : ByteArray) (a0_1 : Int) (a0_2 : Int) (a0_3 : ByteArray) (a1_0 : ByteArray) (a1_1 : Int) (a1_2 : Int) (a1_3 : ByteArray) : Option (Bool) := if a0_0.toList = a1_0.toList then (if a0_1 = a1_1 then (if a0_2 = a1_2 then (if a0_3.toList = a1_3.toList then (some true) else (some false)) else (some false)) else (some false)) else (some false)
theorem laws_eqRecord.calls (a0_0 : ByteArray) (a0_1 : Int) (a0_2 : Int) (a0_3 : ByteArray) (a1_0 : ByteArray) (a1_1 : Int) (a1_2 : Int) (a1_3 : ByteArray) (r : Bool) (w : World) (h : laws_eqRecord.f a0_0 a0_1 a0_2 a0_3 a1_0 a1_1 a1_2 a1_3 = some r) :
  Calls Try.prog 97 #[.agg #[.string a0_0, .int .i64 a0_1, .int .i64 a0_2, .string a0_3], .agg #[.string a1_0, .int .i64 a1_1, .int .i64 a1_2, .string a1_3]] w fun e w' => e = .returned (.bool r) ∧ Below w.heap.size w w' := by
 have hu113 := Try.underlying113
 have HB := Aside0.mk (Below.refl w.heap.size w)
 have H : (if a0_0.toList = a1_0.toList then (if a0_1 = a1_1 then (if a0_2 = a1_2 then (if a0_3.toList = a1_3.toList then (some true) else (some false)) else (some false)) else (some false)) else (some false)) = some r := h
 clear h
 by_cases c3 : a0_0.toList = a1_0.toList
 ·rw [if_pos c3] at H
  have c3b0 : (a0_0.toList == a1_0.toList) = true := beq_iff_eq.mpr c3
  have c3b1 : (a0_0.toList != a1_0.toList) = false := bne_eq_false_iff_eq.mpr c3
  clear c3
  by_cases c4 : a0_1 = a1_1
  ·rw [if_pos c4] at H
   have c4b0 : (a0_1 == a1_1) = true := beq_iff_eq.mpr c4
   have c4b1 : (a0_1 != a1_1) = false := bne_eq_false_iff_eq.mpr c4
   clear c4
   by_cases c5 : a0_2 = a1_2
   ·rw [if_pos c5] at H
    have c5b0 : (a0_2 == a1_2) = true := beq_iff_eq.mpr c5
    have c5b1 : (a0_2 != a1_2) = false := bne_eq_false_iff_eq.mpr c5
    clear c5
    by_cases c6 : a0_3.toList = a1_3.toList
    ·rw [if_pos c6] at H
     have c6b0 : (a0_3.toList == a1_3.toList) = true := beq_iff_eq.mpr c6
     have c6b1 : (a0_3.toList != a1_3.toList) = false := bne_eq_false_iff_eq.mpr c6
     clear c6
     obtain rfl := Option.some.inj H
     go_enter Try.func97, Try.ntmps97
     go_wp2_with (first | ((with_reducible refine gate_dst (N := 2) rfl ?_); refine bE 2 #[.string a0_0, .int .i64 a0_1, .int .i64 a0_2, .string a0_3] 113 ?_; intro gb511 hg w7 hbox hb; have BK511 := Aside0.mk (hbox); have GE511 := bG hg; replace HB := BS hb; clear hb hbox hg) | ((with_reducible refine gate_dst (N := 3) rfl ?_); refine bE 3 #[.string a1_0, .int .i64 a1_1, .int .i64 a1_2, .string a1_3] 113 ?_; intro gb512 hg w8 hbox hb; have BK512 := Aside0.mk (hbox); have GE512 := bG hg; replace HB := BS hb; have NB511_512 := bN BK511 hg; have NB512_511 := bM BK511 hg; replace BK511 := KB BK511 hb; clear hb hbox hg; obtain ⟨hnb9, hnc9⟩ := nn NB511_512; have hcz10 := cz4 BK511; have hcz11 := cz4 BK512))
     go_ret
     exact ⟨TE, TB⟩
    ·rw [if_neg c6] at H
     have c6b0 : (a0_3.toList == a1_3.toList) = false := beq_eq_false_iff_ne.mpr c6
     have c6b1 : (a0_3.toList != a1_3.toList) = true := bne_iff_ne.mpr c6
     obtain rfl := Option.some.inj H
     go_enter Try.func97, Try.ntmps97
     go_wp2_with (first | ((with_reducible refine gate_dst (N := 2) rfl ?_); refine bE 2 #[.string a0_0, .int .i64 a0_1, .int .i64 a0_2, .string a0_3] 113 ?_; intro gb511 hg w12 hbox hb; have BK511 := Aside0.mk (hbox); have GE511 := bG hg; replace HB := BS hb; clear hb hbox hg) | ((with_reducible refine gate_dst (N := 3) rfl ?_); refine bE 3 #[.string a1_0, .int .i64 a1_1, .int .i64 a1_2, .string a1_3] 113 ?_; intro gb512 hg w13 hbox hb; have BK512 := Aside0.mk (hbox); have GE512 := bG hg; replace HB := BS hb; have NB511_512 := bN BK511 hg; have NB512_511 := bM BK511 hg; replace BK511 := KB BK511 hb; clear hb hbox hg; obtain ⟨hnb14, hnc14⟩ := nn NB511_512; have hcz15 := cz4 BK511; have hcz16 := cz4 BK512))
     go_ret
     exact ⟨TE, TB⟩
   ·rw [if_neg c5] at H
    have c5b0 : (a0_2 == a1_2) = false := beq_eq_false_iff_ne.mpr c5
    have c5b1 : (a0_2 != a1_2) = true := bne_iff_ne.mpr c5
    obtain rfl := Option.some.inj H
    go_enter Try.func97, Try.ntmps97
    go_wp2_with (first | ((with_reducible refine gate_dst (N := 2) rfl ?_); refine bE 2 #[.string a0_0, .int .i64 a0_1, .int .i64 a0_2, .string a0_3] 113 ?_; intro gb511 hg w17 hbox hb; have BK511 := Aside0.mk (hbox); have GE511 := bG hg; replace HB := BS hb; clear hb hbox hg) | ((with_reducible refine gate_dst (N := 3) rfl ?_); refine bE 3 #[.string a1_0, .int .i64 a1_1, .int .i64 a1_2, .string a1_3] 113 ?_; intro gb512 hg w18 hbox hb; have BK512 := Aside0.mk (hbox); have GE512 := bG hg; replace HB := BS hb; have NB511_512 := bN BK511 hg; have NB512_511 := bM BK511 hg; replace BK511 := KB BK511 hb; clear hb hbox hg; obtain ⟨hnb19, hnc19⟩ := nn NB511_512; have hcz20 := cz4 BK511; have hcz21 := cz4 BK512))
    go_ret
    exact ⟨TE, TB⟩
  ·rw [if_neg c4] at H
   have c4b0 : (a0_1 == a1_1) = false := beq_eq_false_iff_ne.mpr c4
   have c4b1 : (a0_1 != a1_1) = true := bne_iff_ne.mpr c4
   obtain rfl := Option.some.inj H
   go_enter Try.func97, Try.ntmps97
   go_wp2_with (first | ((with_reducible refine gate_dst (N := 2) rfl ?_); refine bE 2 #[.string a0_0, .int .i64 a0_1, .int .i64 a0_2, .string a0_3] 113 ?_; intro gb511 hg w22 hbox hb; have BK511 := Aside0.mk (hbox); have GE511 := bG hg; replace HB := BS hb; clear hb hbox hg) | ((with_reducible refine gate_dst (N := 3) rfl ?_); refine bE 3 #[.string a1_0, .int .i64 a1_1, .int .i64 a1_2, .string a1_3] 113 ?_; intro gb512 hg w23 hbox hb; have BK512 := Aside0.mk (hbox); have GE512 := bG hg; replace HB := BS hb; have NB511_512 := bN BK511 hg; have NB512_511 := bM BK511 hg; replace BK511 := KB BK511 hb; clear hb hbox hg; obtain ⟨hnb24, hnc24⟩ := nn NB511_512; have hcz25 := cz4 BK511; have hcz26 := cz4 BK512))
   go_ret
   exact ⟨TE, TB⟩
 ·rw [if_neg c3] at H
  have c3b0 : (a0_0.toList == a1_0.toList) = false := beq_eq_false_iff_ne.mpr c3
  have c3b1 : (a0_0.toList != a1_0.toList) = true := bne_iff_ne.mpr c3
  obtain rfl := Option.some.inj H
  go_enter Try.func97, Try.ntmps97
  go_wp2_with (first | ((with_reducible refine gate_dst (N := 2) rfl ?_); refine bE 2 #[.string a0_0, .int .i64 a0_1, .int .i64 a0_2, .string a0_3] 113 ?_; intro gb511 hg w27 hbox hb; have BK511 := Aside0.mk (hbox); have GE511 := bG hg; replace HB := BS hb; clear hb hbox hg) | ((with_reducible refine gate_dst (N := 3) rfl ?_); refine bE 3 #[.string a1_0, .int .i64 a1_1, .int .i64 a1_2, .string a1_3] 113 ?_; intro gb512 hg w28 hbox hb; have BK512 := Aside0.mk (hbox); have GE512 := bG hg; replace HB := BS hb; have NB511_512 := bN BK511 hg; have NB512_511 := bM BK511 hg; replace BK511 := KB BK511 hb; clear hb hbox hg; obtain ⟨hnb29, hnc29⟩ := nn NB511_512; have hcz30 := cz4 BK511; have hcz31 := cz4 BK512))
  go_ret
  exact ⟨TE, TB⟩
end
section
/-! ### laws_eqRecordS: function 96 -/
def laws_eqRecordS.l0 : Nat → List (S_Record) → List (S_Record) → Int → Option (Bool)
 | 0, _, _, _ => none
 | k + 1, x0, x1, x5 => if x5 < (x0.length : Int) then (if 0 ≤ x5 then (if x5 < (x1.length : Int) then ((laws_eqRecord.f ((rd_TRecord x0 x5).f0) ((rd_TRecord x0 x5).f1) ((rd_TRecord x0 x5).f2) ((rd_TRecord x0 x5).f3) ((rd_TRecord x1 x5).f0) ((rd_TRecord x1 x5).f1) ((rd_TRecord x1 x5).f2) ((rd_TRecord x1 x5).f3)).bind fun t515 => (if t515 = true then (laws_eqRecordS.l0 k x0 x1 (wrap64 (x5 + 1))) else (some false))) else (none)) else (none)) else (some true)
def laws_eqRecordS.f (k : Nat) (l0 : List (S_Record)) (l1 : List (S_Record)) : Option (Bool) := if (l0.length : Int) = (l1.length : Int) then (laws_eqRecordS.l0 k l0 l1 0) else (some false)
def laws_eqRecordS.T6 : Bool × List (List Nat × List Nat) := (true, [([], []), ([], []), ([0, 1], [0, 1]), ([2], [2]), ([], []), ([], []), ([4, 5], [4, 5]), ([6], [6]), ([3, 7], [3, 7]), ([8], [8])])
def laws_eqRecordS.B6 : List Nat := [0, 0, 3, 7, 0, 0, 48, 112, 255, 511]
theorem laws_eqRecordS.tab6 : rtab .any (opsOf Try.f96 6) = laws_eqRecordS.T6 := by kernel_rfl
theorem laws_eqRecordS.bits6 : waitsOk laws_eqRecordS.T6.2 laws_eqRecordS.B6 = true := by kernel_rfl
theorem laws_eqRecordS.calls (k : Nat) (A0 : Option Addr) (c0 : Nat) (l0 : List (S_Record)) (A1 : Option Addr) (c1 : Nat) (l1 : List (S_Record)) (r : Bool) (w : World) (hr0 : Kd.C k_Record w A0 l0.length l0) (hc0 : l0.length ≤ c0) (hr1 : Kd.C k_Record w A1 l1.length l1) (hc1 : l1.length ≤ c1) (h : laws_eqRecordS.f k l0 l1 = some r) :
  Calls Try.prog 96 #[.slice A0 l0.length c0, .slice A1 l1.length c1] w fun e w' => e = .returned (.bool r) ∧ Below w.heap.size w w' := by
 have hu113 := Try.underlying113
 have HR0 := Aside0.mk hr0
 have HC0 := Aside0.mk hc0
 clear hr0 hc0
 have HR1 := Aside0.mk hr1
 have HC1 := Aside0.mk hc1
 clear hr1 hc1
 have HB := Aside0.mk (Below.refl w.heap.size w)
 have H : (if (l0.length : Int) = (l1.length : Int) then (laws_eqRecordS.l0 k l0 l1 0) else (some false)) = some r := h
 clear h
 by_cases c3 : (l0.length : Int) = (l1.length : Int)
 ·rw [if_pos c3] at H
  have c3b0 : ((l0.length : Int) == (l1.length : Int)) = true := beq_iff_eq.mpr c3
  have c3b1 : ((l0.length : Int) != (l1.length : Int)) = false := bne_eq_false_iff_eq.mpr c3
  have c3b2 : (l0.length == l1.length) = true := by first | simpa using c3 | (simp at c3 ⊢; omega)
  clear c3
  have H' := Aside0.mk H
  clear H
  go_enter Try.func96, Try.ntmps96
  go_wp2
  go_loopg [5] k (fun kq v5 w' => ∃ (x5_1 : Int), v5 = .int .i64 x5_1 ∧ Aside0 (laws_eqRecordS.l0 kq l0 l1 x5_1 = some r) ∧ Aside0 (kq ≤ k) ∧ Aside0 (Below w.heap.size w w'))
  case atStart => exact ⟨(0), TF, H', ⟨Nat.le_refl _⟩, ⟨TB⟩⟩
  case round =>
   clear H'
   obtain ⟨x5_1, rfl, HA, HK1, HB⟩ := hrel
   cases gk with
   | zero => exact absurd HA.out (by simp [laws_eqRecordS.l0])
   | succ k1 =>
    have H := HA.out
    clear HA
    simp only [laws_eqRecordS.l0] at H
    by_cases c4 : x5_1 < (l0.length : Int)
    ·rw [if_pos c4] at H
     have c4b0 : decide (x5_1 < (l0.length : Int)) = true := decide_eq_true c4
     clear c4
     obtain ⟨c5, H⟩ := ifn H
     have c5b0 : decide (0 ≤ x5_1) = true := decide_eq_true c5
     clear c5
     obtain ⟨c6, H⟩ := ifn H
     have c6b0 : decide (x5_1 < (l1.length : Int)) = true := decide_eq_true c6
     clear c6
     obtain ⟨t515, A7, H⟩ := bnd H
     by_cases c8 : t515 = true
     ·subst c8
      replace H := ift H
      have H' := Aside0.mk H
      clear H
      try go_wp2
      replace HB := Aside0.mk (below_drew1 HB.out)
      have p513 : 0 ≤ (x5_1 : Int) := TD
      have q513 : x5_1 < (l0.length : Int) := TD
      obtain ⟨ad513, e513, hx513_0, hx513_1, hx513_2, hx513_3⟩ := at_TRecord HR0.out x5_1 p513 q513
      have hw513_3 := hx513_3
      have hw513_2 := hx513_2
      have hw513_1 := hx513_1
      have hw513_0 := hx513_0
      cases e513
      replace hx513_0 := hBc HB hx513_0
      replace hx513_1 := hBc HB hx513_1
      replace hx513_2 := hBc HB hx513_2
      replace hx513_3 := hBc HB hx513_3
      replace p513 := eq_true p513
      replace q513 := eq_true q513
      have p514 : 0 ≤ (x5_1 : Int) := TD
      have q514 : x5_1 < (l1.length : Int) := TD
      obtain ⟨ad514, e514, hx514_0, hx514_1, hx514_2, hx514_3⟩ := at_TRecord HR1.out x5_1 p514 q514
      have hw514_3 := hx514_3
      have hw514_2 := hx514_2
      have hw514_1 := hx514_1
      have hw514_0 := hx514_0
      cases e514
      replace hx514_0 := hBc HB hx514_0
      replace hx514_1 := hBc HB hx514_1
      replace hx514_2 := hBc HB hx514_2
      replace hx514_3 := hBc HB hx514_3
      replace p514 := eq_true p514
      replace q514 := eq_true q514
      refine start_ (n := 10) (S := fun w' => w'.cell? (ad513.add ((x5_1).toNat * 4)) = some (.string ((rd_TRecord l0 x5_1).f0)) ∧ w'.cell? ⟨(ad513.add ((x5_1).toNat * 4)).block, (ad513.add ((x5_1).toNat * 4)).off + 1, none⟩ = some (.int .i64 ((rd_TRecord l0 x5_1).f1)) ∧ w'.cell? ⟨(ad513.add ((x5_1).toNat * 4)).block, (ad513.add ((x5_1).toNat * 4)).off + 2, none⟩ = some (.int .i64 ((rd_TRecord l0 x5_1).f2)) ∧ w'.cell? ⟨(ad513.add ((x5_1).toNat * 4)).block, (ad513.add ((x5_1).toNat * 4)).off + 3, none⟩ = some (.string ((rd_TRecord l0 x5_1).f3)) ∧ w'.cell? (ad514.add ((x5_1).toNat * 4)) = some (.string ((rd_TRecord l1 x5_1).f0)) ∧ w'.cell? ⟨(ad514.add ((x5_1).toNat * 4)).block, (ad514.add ((x5_1).toNat * 4)).off + 1, none⟩ = some (.int .i64 ((rd_TRecord l1 x5_1).f1)) ∧ w'.cell? ⟨(ad514.add ((x5_1).toNat * 4)).block, (ad514.add ((x5_1).toNat * 4)).off + 2, none⟩ = some (.int .i64 ((rd_TRecord l1 x5_1).f2)) ∧ w'.cell? ⟨(ad514.add ((x5_1).toNat * 4)).block, (ad514.add ((x5_1).toNat * 4)).off + 3, none⟩ = some (.string ((rd_TRecord l1 x5_1).f3))) (ds := []) #[false, false, false, false, false, false, false, false, false, false] KR rfl rfl ⟨((HB.out.cell (World.block_lt_of_cell? w _ hw513_0)).trans hw513_0), ((HB.out.cell (World.block_lt_of_cell? w _ hw513_1)).trans hw513_1), ((HB.out.cell (World.block_lt_of_cell? w _ hw513_2)).trans hw513_2), ((HB.out.cell (World.block_lt_of_cell? w _ hw513_3)).trans hw513_3), ((HB.out.cell (World.block_lt_of_cell? w _ hw514_0)).trans hw514_0), ((HB.out.cell (World.block_lt_of_cell? w _ hw514_1)).trans hw514_1), ((HB.out.cell (World.block_lt_of_cell? w _ hw514_2)).trans hw514_2), ((HB.out.cell (World.block_lt_of_cell? w _ hw514_3)).trans hw514_3)⟩ (fun hHeld => ?_); refine with_tabW laws_eqRecordS.tab6 laws_eqRecordS.bits6 (fun HT_ HW_ => ?_)
      generalize wr.drew = w9 at HB hx513_0 hx513_1 hx513_2 hx513_3 hx514_0 hx514_1 hx514_2 hx514_3 hHeld ⊢
      refine pA 0 17 (mL 10 1) HT_ rfl rfl ?_
      refine pA 1 18 (mL 10 3) HT_ rfl rfl ?_
      refine pA 2 19 (mL 10 7) HT_ rfl rfl ?_
      refine pA 4 21 (mL 10 23) HT_ rfl rfl ?_
      refine pA 5 22 (mL 10 55) HT_ rfl rfl ?_
      refine pA 6 23 (mL 10 119) HT_ rfl rfl ?_
      refine tA 3 20 (mL 10 127) HT_ HW_ hHeld rfl rfl (by rintro w' ⟨s0, s1, s2, s3, s4, s5, s6, s7⟩; go_simp; with_reducible rfl) ?_
      refine tA 7 24 (mL 10 255) HT_ HW_ hHeld rfl rfl (by rintro w' ⟨s0, s1, s2, s3, s4, s5, s6, s7⟩; go_simp; with_reducible rfl) ?_
      refine one_ (i := 8) (N := some 25) (mL 10 511) rfl rfl (one_of HT_.out KR) (by decide) (fun K hK => ?_)
      refine goes_ Try.func97 KR rfl #[.agg #[.string ((rd_TRecord l0 x5_1).f0), .int .i64 ((rd_TRecord l0 x5_1).f1), .int .i64 ((rd_TRecord l0 x5_1).f2), .string ((rd_TRecord l0 x5_1).f3)], .agg #[.string ((rd_TRecord l1 x5_1).f0), .int .i64 ((rd_TRecord l1 x5_1).f1), .int .i64 ((rd_TRecord l1 x5_1).f2), .string ((rd_TRecord l1 x5_1).f3)]] (by rfl) rfl rfl TA ?_
      with_reducible refine (laws_eqRecord.calls ((rd_TRecord l0 x5_1).f0) ((rd_TRecord l0 x5_1).f1) ((rd_TRecord l0 x5_1).f2) ((rd_TRecord l0 x5_1).f3) ((rd_TRecord l1 x5_1).f0) ((rd_TRecord l1 x5_1).f1) ((rd_TRecord l1 x5_1).f2) ((rd_TRecord l1 x5_1).f3) true _ A7.out).mono ?_
      rintro e w10 ⟨rfl, hb⟩
      refine ⟨_, rfl, ?_⟩
      replace HB := BS hb
      (try clear hb)
      (try clear hb2)
      (try clear hk)
      (try clear hi)
      refine hK.out _ _ ⟨((HB.out.cell (World.block_lt_of_cell? w _ hw513_0)).trans hw513_0), ((HB.out.cell (World.block_lt_of_cell? w _ hw513_1)).trans hw513_1), ((HB.out.cell (World.block_lt_of_cell? w _ hw513_2)).trans hw513_2), ((HB.out.cell (World.block_lt_of_cell? w _ hw513_3)).trans hw513_3), ((HB.out.cell (World.block_lt_of_cell? w _ hw514_0)).trans hw514_0), ((HB.out.cell (World.block_lt_of_cell? w _ hw514_1)).trans hw514_1), ((HB.out.cell (World.block_lt_of_cell? w _ hw514_2)).trans hw514_2), ((HB.out.cell (World.block_lt_of_cell? w _ hw514_3)).trans hw514_3)⟩ (fun hHeld => ?_)
      clear hK K
      refine nA ?_
      refine pA 9 26 (mL 10 1023) HT_ rfl rfl ?_
      refine done_ (done_of HT_.out KR) ?_
      try go_wp2
      go_roundg k1
      case measure => have := HK1.out; omega
      case rel => exact ⟨(wrap64 (x5_1 + 1)), TF, H', ⟨TM⟩, ⟨TB⟩⟩
     ·replace c8 := Bool.eq_false_iff.mpr c8
      subst c8
      replace H := iff' H
      obtain rfl := Option.some.inj H
      try go_wp2
      replace HB := Aside0.mk (below_drew1 HB.out)
      have p513 : 0 ≤ (x5_1 : Int) := TD
      have q513 : x5_1 < (l0.length : Int) := TD
      obtain ⟨ad513, e513, hx513_0, hx513_1, hx513_2, hx513_3⟩ := at_TRecord HR0.out x5_1 p513 q513
      have hw513_3 := hx513_3
      have hw513_2 := hx513_2
      have hw513_1 := hx513_1
      have hw513_0 := hx513_0
      cases e513
      replace hx513_0 := hBc HB hx513_0
      replace hx513_1 := hBc HB hx513_1
      replace hx513_2 := hBc HB hx513_2
      replace hx513_3 := hBc HB hx513_3
      replace p513 := eq_true p513
      replace q513 := eq_true q513
      have p514 : 0 ≤ (x5_1 : Int) := TD
      have q514 : x5_1 < (l1.length : Int) := TD
      obtain ⟨ad514, e514, hx514_0, hx514_1, hx514_2, hx514_3⟩ := at_TRecord HR1.out x5_1 p514 q514
      have hw514_3 := hx514_3
      have hw514_2 := hx514_2
      have hw514_1 := hx514_1
      have hw514_0 := hx514_0
      cases e514
      replace hx514_0 := hBc HB hx514_0
      replace hx514_1 := hBc HB hx514_1
      replace hx514_2 := hBc HB hx514_2
      replace hx514_3 := hBc HB hx514_3
      replace p514 := eq_true p514
      replace q514 := eq_true q514
      refine start_ (n := 10) (S := fun w' => w'.cell? (ad513.add ((x5_1).toNat * 4)) = some (.string ((rd_TRecord l0 x5_1).f0)) ∧ w'.cell? ⟨(ad513.add ((x5_1).toNat * 4)).block, (ad513.add ((x5_1).toNat * 4)).off + 1, none⟩ = some (.int .i64 ((rd_TRecord l0 x5_1).f1)) ∧ w'.cell? ⟨(ad513.add ((x5_1).toNat * 4)).block, (ad513.add ((x5_1).toNat * 4)).off + 2, none⟩ = some (.int .i64 ((rd_TRecord l0 x5_1).f2)) ∧ w'.cell? ⟨(ad513.add ((x5_1).toNat * 4)).block, (ad513.add ((x5_1).toNat * 4)).off + 3, none⟩ = some (.string ((rd_TRecord l0 x5_1).f3)) ∧ w'.cell? (ad514.add ((x5_1).toNat * 4)) = some (.string ((rd_TRecord l1 x5_1).f0)) ∧ w'.cell? ⟨(ad514.add ((x5_1).toNat * 4)).block, (ad514.add ((x5_1).toNat * 4)).off + 1, none⟩ = some (.int .i64 ((rd_TRecord l1 x5_1).f1)) ∧ w'.cell? ⟨(ad514.add ((x5_1).toNat * 4)).block, (ad514.add ((x5_1).toNat * 4)).off + 2, none⟩ = some (.int .i64 ((rd_TRecord l1 x5_1).f2)) ∧ w'.cell? ⟨(ad514.add ((x5_1).toNat * 4)).block, (ad514.add ((x5_1).toNat * 4)).off + 3, none⟩ = some (.string ((rd_TRecord l1 x5_1).f3))) (ds := []) #[false, false, false, false, false, false, false, false, false, false] KR rfl rfl ⟨((HB.out.cell (World.block_lt_of_cell? w _ hw513_0)).trans hw513_0), ((HB.out.cell (World.block_lt_of_cell? w _ hw513_1)).trans hw513_1), ((HB.out.cell (World.block_lt_of_cell? w _ hw513_2)).trans hw513_2), ((HB.out.cell (World.block_lt_of_cell? w _ hw513_3)).trans hw513_3), ((HB.out.cell (World.block_lt_of_cell? w _ hw514_0)).trans hw514_0), ((HB.out.cell (World.block_lt_of_cell? w _ hw514_1)).trans hw514_1), ((HB.out.cell (World.block_lt_of_cell? w _ hw514_2)).trans hw514_2), ((HB.out.cell (World.block_lt_of_cell? w _ hw514_3)).trans hw514_3)⟩ (fun hHeld => ?_); refine with_tabW laws_eqRecordS.tab6 laws_eqRecordS.bits6 (fun HT_ HW_ => ?_)
      generalize wr.drew = w11 at HB hx513_0 hx513_1 hx513_2 hx513_3 hx514_0 hx514_1 hx514_2 hx514_3 hHeld ⊢
      refine pA 0 17 (mL 10 1) HT_ rfl rfl ?_
      refine pA 1 18 (mL 10 3) HT_ rfl rfl ?_
      refine pA 2 19 (mL 10 7) HT_ rfl rfl ?_
      refine pA 4 21 (mL 10 23) HT_ rfl rfl ?_
      refine pA 5 22 (mL 10 55) HT_ rfl rfl ?_
      refine pA 6 23 (mL 10 119) HT_ rfl rfl ?_
      refine tA 3 20 (mL 10 127) HT_ HW_ hHeld rfl rfl (by rintro w' ⟨s0, s1, s2, s3, s4, s5, s6, s7⟩; go_simp; with_reducible rfl) ?_
      refine tA 7 24 (mL 10 255) HT_ HW_ hHeld rfl rfl (by rintro w' ⟨s0, s1, s2, s3, s4, s5, s6, s7⟩; go_simp; with_reducible rfl) ?_
      refine one_ (i := 8) (N := some 25) (mL 10 511) rfl rfl (one_of HT_.out KR) (by decide) (fun K hK => ?_)
      refine goes_ Try.func97 KR rfl #[.agg #[.string ((rd_TRecord l0 x5_1).f0), .int .i64 ((rd_TRecord l0 x5_1).f1), .int .i64 ((rd_TRecord l0 x5_1).f2), .string ((rd_TRecord l0 x5_1).f3)], .agg #[.string ((rd_TRecord l1 x5_1).f0), .int .i64 ((rd_TRecord l1 x5_1).f1), .int .i64 ((rd_TRecord l1 x5_1).f2), .string ((rd_TRecord l1 x5_1).f3)]] (by rfl) rfl rfl TA ?_
      with_reducible refine (laws_eqRecord.calls ((rd_TRecord l0 x5_1).f0) ((rd_TRecord l0 x5_1).f1) ((rd_TRecord l0 x5_1).f2) ((rd_TRecord l0 x5_1).f3) ((rd_TRecord l1 x5_1).f0) ((rd_TRecord l1 x5_1).f1) ((rd_TRecord l1 x5_1).f2) ((rd_TRecord l1 x5_1).f3) false _ A7.out).mono ?_
      rintro e w12 ⟨rfl, hb⟩
      refine ⟨_, rfl, ?_⟩
      replace HB := BS hb
      (try clear hb)
      (try clear hb2)
      (try clear hk)
      (try clear hi)
      refine hK.out _ _ ⟨((HB.out.cell (World.block_lt_of_cell? w _ hw513_0)).trans hw513_0), ((HB.out.cell (World.block_lt_of_cell? w _ hw513_1)).trans hw513_1), ((HB.out.cell (World.block_lt_of_cell? w _ hw513_2)).trans hw513_2), ((HB.out.cell (World.block_lt_of_cell? w _ hw513_3)).trans hw513_3), ((HB.out.cell (World.block_lt_of_cell? w _ hw514_0)).trans hw514_0), ((HB.out.cell (World.block_lt_of_cell? w _ hw514_1)).trans hw514_1), ((HB.out.cell (World.block_lt_of_cell? w _ hw514_2)).trans hw514_2), ((HB.out.cell (World.block_lt_of_cell? w _ hw514_3)).trans hw514_3)⟩ (fun hHeld => ?_)
      clear hK K
      refine nA ?_
      refine pA 9 26 (mL 10 1023) HT_ rfl rfl ?_
      refine done_ (done_of HT_.out KR) ?_
      try go_wp2
      go_ret
      exact ⟨TE, TB⟩
    ·rw [if_neg c4] at H
     have c4b0 : decide (x5_1 < (l0.length : Int)) = false := decide_eq_false c4
     clear c4
     obtain rfl := Option.some.inj H
     go_wp2
     go_ret
     exact ⟨TE, TB⟩
 ·rw [if_neg c3] at H
  have c3b0 : ((l0.length : Int) == (l1.length : Int)) = false := beq_eq_false_iff_ne.mpr c3
  have c3b1 : ((l0.length : Int) != (l1.length : Int)) = true := bne_iff_ne.mpr c3
  have c3b2 : (l0.length == l1.length) = false := by first | simpa using c3 | (simp at c3 ⊢; omega)
  obtain rfl := Option.some.inj H
  go_enter Try.func96, Try.ntmps96
  go_wp2
  go_ret
  exact ⟨TE, TB⟩
end
section
/-! ### laws_eqEntry: function 92 -/
def laws_eqEntry.f (k : Nat) (a0_0 : ByteArray) (a0_1 : Int) (a0_2 : Bool) (l0_3 : List (S_Record)) (a0_4 : Int) (a0_5 : Int) (a1_0 : ByteArray) (a1_1 : Int) (a1_2 : Bool) (l1_3 : List (S_Record)) (a1_4 : Int) (a1_5 : Int) : Option (Bool) := if a0_0.toList = a1_0.toList then (if a0_1 = a1_1 then (if (a0_2 != a1_2) = true then (some false) else ((laws_eqRecordS.f k l0_3 l1_3).bind fun t518 => (if t518 = true then (if a0_4 = a1_4 then (if a0_5 = a1_5 then (some true) else (some false)) else (some false)) else (some false)))) else (some false)) else (some false)
theorem laws_eqEntry.calls (k : Nat) (a0_0 : ByteArray) (a0_1 : Int) (a0_2 : Bool) (A0_3 : Option Addr) (c0_3 : Nat) (l0_3 : List (S_Record)) (a0_4 : Int) (a0_5 : Int) (a1_0 : ByteArray) (a1_1 : Int) (a1_2 : Bool) (A1_3 : Option Addr) (c1_3 : Nat) (l1_3 : List (S_Record)) (a1_4 : Int) (a1_5 : Int) (r : Bool) (w : World) (hr0_3 : Kd.C k_Record w A0_3 l0_3.length l0_3) (hc0_3 : l0_3.length ≤ c0_3) (hr1_3 : Kd.C k_Record w A1_3 l1_3.length l1_3) (hc1_3 : l1_3.length ≤ c1_3) (h : laws_eqEntry.f k a0_0 a0_1 a0_2 l0_3 a0_4 a0_5 a1_0 a1_1 a1_2 l1_3 a1_4 a1_5 = some r) :
  Calls Try.prog 92 #[.agg #[.string a0_0, .int .i64 a0_1, .bool a0_2, .slice A0_3 l0_3.length c0_3, .int .i64 a0_4, .int .i64 a0_5], .agg #[.string a1_0, .int .i64 a1_1, .bool a1_2, .slice A1_3 l1_3.length c1_3, .int .i64 a1_4, .int .i64 a1_5]] w fun e w' => e = .returned (.bool r) ∧ Below w.heap.size w w' := by
 have hu107 := Try.underlying107
 have HR0_3 := Aside0.mk hr0_3
 have HC0_3 := Aside0.mk hc0_3
 clear hr0_3 hc0_3
 have HR1_3 := Aside0.mk hr1_3
 have HC1_3 := Aside0.mk hc1_3
 clear hr1_3 hc1_3
 have HB := Aside0.mk (Below.refl w.heap.size w)
 have H : (if a0_0.toList = a1_0.toList then (if a0_1 = a1_1 then (if (a0_2 != a1_2) = true then (some false) else ((laws_eqRecordS.f k l0_3 l1_3).bind fun t518 => (if t518 = true then (if a0_4 = a1_4 then (if a0_5 = a1_5 then (some true) else (some false)) else (some false)) else (some false)))) else (some false)) else (some false)) = some r := h
 clear h
 by_cases c3 : a0_0.toList = a1_0.toList
 ·rw [if_pos c3] at H
  have c3b0 : (a0_0.toList == a1_0.toList) = true := beq_iff_eq.mpr c3
  have c3b1 : (a0_0.toList != a1_0.toList) = false := bne_eq_false_iff_eq.mpr c3
  clear c3
  by_cases c4 : a0_1 = a1_1
  ·rw [if_pos c4] at H
   have c4b0 : (a0_1 == a1_1) = true := beq_iff_eq.mpr c4
   have c4b1 : (a0_1 != a1_1) = false := bne_eq_false_iff_eq.mpr c4
   clear c4
   by_cases c5 : (a0_2 != a1_2) = true
   ·rw [if_pos c5] at H
    have c5b0 : (a0_2 != a1_2) = true := c5
    (try (have c5b1 : decide (a0_2 = a1_2) = false := by simpa using c5))
    (try (have c5b2 : (a0_2 == a1_2) = false := by simpa using c5))
    (try (have c5b3 : ¬ (a0_2 = a1_2) := by simpa using c5))
    clear c5
    obtain rfl := Option.some.inj H
    go_enter Try.func92, Try.ntmps92
    go_wp2_with (first | ((with_reducible refine gate_dst (N := 2) rfl ?_); refine bE 2 #[.string a0_0, .int .i64 a0_1, .bool a0_2, .slice A0_3 l0_3.length c0_3, .int .i64 a0_4, .int .i64 a0_5] 107 ?_; intro gb516 hg w6 hbox hb; have BK516 := Aside0.mk (hbox); have GE516 := bG hg; replace HB := BS hb; clear hb hbox hg) | ((with_reducible refine gate_dst (N := 3) rfl ?_); refine bE 3 #[.string a1_0, .int .i64 a1_1, .bool a1_2, .slice A1_3 l1_3.length c1_3, .int .i64 a1_4, .int .i64 a1_5] 107 ?_; intro gb517 hg w7 hbox hb; have BK517 := Aside0.mk (hbox); have GE517 := bG hg; replace HB := BS hb; have NB516_517 := bN BK516 hg; have NB517_516 := bM BK516 hg; replace BK516 := KB BK516 hb; clear hb hbox hg; obtain ⟨hnb8, hnc8⟩ := nn NB516_517; have hcz9 := cz6 BK516; have hcz10 := cz6 BK517))
    go_ret
    exact ⟨TE, TB⟩
   ·rw [if_neg c5] at H
    have c5b0 : (a0_2 != a1_2) = false := by simpa using c5
    (try (have c5b1 : decide (a0_2 = a1_2) = true := by simpa using c5))
    (try (have c5b2 : (a0_2 == a1_2) = true := by simpa using c5))
    clear c5
    obtain ⟨t518, A11, H⟩ := bnd H
    by_cases c12 : t518 = true
    ·subst c12
     replace H := ift H
     by_cases c13 : a0_4 = a1_4
     ·rw [if_pos c13] at H
      have c13b0 : (a0_4 == a1_4) = true := beq_iff_eq.mpr c13
      have c13b1 : (a0_4 != a1_4) = false := bne_eq_false_iff_eq.mpr c13
      clear c13
      by_cases c14 : a0_5 = a1_5
      ·rw [if_pos c14] at H
       have c14b0 : (a0_5 == a1_5) = true := beq_iff_eq.mpr c14
       have c14b1 : (a0_5 != a1_5) = false := bne_eq_false_iff_eq.mpr c14
       clear c14
       obtain rfl := Option.some.inj H
       go_enter Try.func92, Try.ntmps92
       go_wp2_with (first | ((with_reducible refine gate_dst (N := 2) rfl ?_); refine bE 2 #[.string a0_0, .int .i64 a0_1, .bool a0_2, .slice A0_3 l0_3.length c0_3, .int .i64 a0_4, .int .i64 a0_5] 107 ?_; intro gb516 hg w15 hbox hb; have BK516 := Aside0.mk (hbox); have GE516 := bG hg; replace HB := BS hb; clear hb hbox hg) | ((with_reducible refine gate_dst (N := 3) rfl ?_); refine bE 3 #[.string a1_0, .int .i64 a1_1, .bool a1_2, .slice A1_3 l1_3.length c1_3, .int .i64 a1_4, .int .i64 a1_5] 107 ?_; intro gb517 hg w16 hbox hb; have BK517 := Aside0.mk (hbox); have GE517 := bG hg; replace HB := BS hb; have NB516_517 := bN BK516 hg; have NB517_516 := bM BK516 hg; replace BK516 := KB BK516 hb; clear hb hbox hg; obtain ⟨hnb17, hnc17⟩ := nn NB516_517; have hcz18 := cz6 BK516; have hcz19 := cz6 BK517) | ((with_reducible refine gate_callee (f := 96) rfl ?_); refine goesL_ (some 24) rfl rfl Try.func96 KR rfl #[.slice A0_3 l0_3.length c0_3, .slice A1_3 l1_3.length c1_3] rfl TA ?_; (with_reducible refine (laws_eqRecordS.calls k _ _ l0_3 _ _ l1_3 true _ ?side1 ?side2 ?side3 ?side4 A11.out).mono ?_); (case side1 => exact CW ((Kd.C_below HR0_3.out HB.out))); (case side2 => exact HC0_3.out); (case side3 => exact CW ((Kd.C_below HR1_3.out HB.out))); (case side4 => exact HC1_3.out); rintro e w20 ⟨rfl, hb⟩; refine ⟨_, rfl, ?_⟩; replace BK516 := KB BK516 hb; replace BK517 := KB BK517 hb; replace HB := BS hb; clear hb; have hcz21 := cz6 BK516; have hcz22 := cz6 BK517))
       go_ret
       exact ⟨TE, TB⟩
      ·rw [if_neg c14] at H
       have c14b0 : (a0_5 == a1_5) = false := beq_eq_false_iff_ne.mpr c14
       have c14b1 : (a0_5 != a1_5) = true := bne_iff_ne.mpr c14
       obtain rfl := Option.some.inj H
       go_enter Try.func92, Try.ntmps92
       go_wp2_with (first | ((with_reducible refine gate_dst (N := 2) rfl ?_); refine bE 2 #[.string a0_0, .int .i64 a0_1, .bool a0_2, .slice A0_3 l0_3.length c0_3, .int .i64 a0_4, .int .i64 a0_5] 107 ?_; intro gb516 hg w23 hbox hb; have BK516 := Aside0.mk (hbox); have GE516 := bG hg; replace HB := BS hb; clear hb hbox hg) | ((with_reducible refine gate_dst (N := 3) rfl ?_); refine bE 3 #[.string a1_0, .int .i64 a1_1, .bool a1_2, .slice A1_3 l1_3.length c1_3, .int .i64 a1_4, .int .i64 a1_5] 107 ?_; intro gb517 hg w24 hbox hb; have BK517 := Aside0.mk (hbox); have GE517 := bG hg; replace HB := BS hb; have NB516_517 := bN BK516 hg; have NB517_516 := bM BK516 hg; replace BK516 := KB BK516 hb; clear hb hbox hg; obtain ⟨hnb25, hnc25⟩ := nn NB516_517; have hcz26 := cz6 BK516; have hcz27 := cz6 BK517) | ((with_reducible refine gate_callee (f := 96) rfl ?_); refine goesL_ (some 24) rfl rfl Try.func96 KR rfl #[.slice A0_3 l0_3.length c0_3, .slice A1_3 l1_3.length c1_3] rfl TA ?_; (with_reducible refine (laws_eqRecordS.calls k _ _ l0_3 _ _ l1_3 true _ ?side1 ?side2 ?side3 ?side4 A11.out).mono ?_); (case side1 => exact CW ((Kd.C_below HR0_3.out HB.out))); (case side2 => exact HC0_3.out); (case side3 => exact CW ((Kd.C_below HR1_3.out HB.out))); (case side4 => exact HC1_3.out); rintro e w28 ⟨rfl, hb⟩; refine ⟨_, rfl, ?_⟩; replace BK516 := KB BK516 hb; replace BK517 := KB BK517 hb; replace HB := BS hb; clear hb; have hcz29 := cz6 BK516; have hcz30 := cz6 BK517))
       go_ret
       exact ⟨TE, TB⟩
     ·rw [if_neg c13] at H
      have c13b0 : (a0_4 == a1_4) = false := beq_eq_false_iff_ne.mpr c13
      have c13b1 : (a0_4 != a1_4) = true := bne_iff_ne.mpr c13
      obtain rfl := Option.some.inj H
      go_enter Try.func92, Try.ntmps92
      go_wp2_with (first | ((with_reducible refine gate_dst (N := 2) rfl ?_); refine bE 2 #[.string a0_0, .int .i64 a0_1, .bool a0_2, .slice A0_3 l0_3.length c0_3, .int .i64 a0_4, .int .i64 a0_5] 107 ?_; intro gb516 hg w31 hbox hb; have BK516 := Aside0.mk (hbox); have GE516 := bG hg; replace HB := BS hb; clear hb hbox hg) | ((with_reducible refine gate_dst (N := 3) rfl ?_); refine bE 3 #[.string a1_0, .int .i64 a1_1, .bool a1_2, .slice A1_3 l1_3.length c1_3, .int .i64 a1_4, .int .i64 a1_5] 107 ?_; intro gb517 hg w32 hbox hb; have BK517 := Aside0.mk (hbox); have GE517 := bG hg; replace HB := BS hb; have NB516_517 := bN BK516 hg; have NB517_516 := bM BK516 hg; replace BK516 := KB BK516 hb; clear hb hbox hg; obtain ⟨hnb33, hnc33⟩ := nn NB516_517; have hcz34 := cz6 BK516; have hcz35 := cz6 BK517) | ((with_reducible refine gate_callee (f := 96) rfl ?_); refine goesL_ (some 24) rfl rfl Try.func96 KR rfl #[.slice A0_3 l0_3.length c0_3, .slice A1_3 l1_3.length c1_3] rfl TA ?_; (with_reducible refine (laws_eqRecordS.calls k _ _ l0_3 _ _ l1_3 true _ ?side1 ?side2 ?side3 ?side4 A11.out).mono ?_); (case side1 => exact CW ((Kd.C_below HR0_3.out HB.out))); (case side2 => exact HC0_3.out); (case side3 => exact CW ((Kd.C_below HR1_3.out HB.out))); (case side4 => exact HC1_3.out); rintro e w36 ⟨rfl, hb⟩; refine ⟨_, rfl, ?_⟩; replace BK516 := KB BK516 hb; replace BK517 := KB BK517 hb; replace HB := BS hb; clear hb; have hcz37 := cz6 BK516; have hcz38 := cz6 BK517))
      go_ret
      exact ⟨TE, TB⟩
    ·replace c12 := Bool.eq_false_iff.mpr c12
     subst c12
     replace H := iff' H
     obtain rfl := Option.some.inj H
     go_enter Try.func92, Try.ntmps92
     go_wp2_with (first | ((with_reducible refine gate_dst (N := 2) rfl ?_); refine bE 2 #[.string a0_0, .int .i64 a0_1, .bool a0_2, .slice A0_3 l0_3.length c0_3, .int .i64 a0_4, .int .i64 a0_5] 107 ?_; intro gb516 hg w39 hbox hb; have BK516 := Aside0.mk (hbox); have GE516 := bG hg; replace HB := BS hb; clear hb hbox hg) | ((with_reducible refine gate_dst (N := 3) rfl ?_); refine bE 3 #[.string a1_0, .int .i64 a1_1, .bool a1_2, .slice A1_3 l1_3.length c1_3, .int .i64 a1_4, .int .i64 a1_5] 107 ?_; intro gb517 hg w40 hbox hb; have BK517 := Aside0.mk (hbox); have GE517 := bG hg; replace HB := BS hb; have NB516_517 := bN BK516 hg; have NB517_516 := bM BK516 hg; replace BK516 := KB BK516 hb; clear hb hbox hg; obtain ⟨hnb41, hnc41⟩ := nn NB516_517; have hcz42 := cz6 BK516; have hcz43 := cz6 BK517) | ((with_reducible refine gate_callee (f := 96) rfl ?_); refine goesL_ (some 24) rfl rfl Try.func96 KR rfl #[.slice A0_3 l0_3.length c0_3, .slice A1_3 l1_3.length c1_3] rfl TA ?_; (with_reducible refine (laws_eqRecordS.calls k _ _ l0_3 _ _ l1_3 false _ ?side1 ?side2 ?side3 ?side4 A11.out).mono ?_); (case side1 => exact CW ((Kd.C_below HR0_3.out HB.out))); (case side2 => exact HC0_3.out); (case side3 => exact CW ((Kd.C_below HR1_3.out HB.out))); (case side4 => exact HC1_3.out); rintro e w44 ⟨rfl, hb⟩; refine ⟨_, rfl, ?_⟩; replace BK516 := KB BK516 hb; replace BK517 := KB BK517 hb; replace HB := BS hb; clear hb))
     go_ret
     exact ⟨TE, TB⟩
  ·rw [if_neg c4] at H
   have c4b0 : (a0_1 == a1_1) = false := beq_eq_false_iff_ne.mpr c4
   have c4b1 : (a0_1 != a1_1) = true := bne_iff_ne.mpr c4
   obtain rfl := Option.some.inj H
   go_enter Try.func92, Try.ntmps92
   go_wp2_with (first | ((with_reducible refine gate_dst (N := 2) rfl ?_); refine bE 2 #[.string a0_0, .int .i64 a0_1, .bool a0_2, .slice A0_3 l0_3.length c0_3, .int .i64 a0_4, .int .i64 a0_5] 107 ?_; intro gb516 hg w45 hbox hb; have BK516 := Aside0.mk (hbox); have GE516 := bG hg; replace HB := BS hb; clear hb hbox hg) | ((with_reducible refine gate_dst (N := 3) rfl ?_); refine bE 3 #[.string a1_0, .int .i64 a1_1, .bool a1_2, .slice A1_3 l1_3.length c1_3, .int .i64 a1_4, .int .i64 a1_5] 107 ?_; intro gb517 hg w46 hbox hb; have BK517 := Aside0.mk (hbox); have GE517 := bG hg; replace HB := BS hb; have NB516_517 := bN BK516 hg; have NB517_516 := bM BK516 hg; replace BK516 := KB BK516 hb; clear hb hbox hg; obtain ⟨hnb47, hnc47⟩ := nn NB516_517; have hcz48 := cz6 BK516; have hcz49 := cz6 BK517))
   go_ret
   exact ⟨TE, TB⟩
 ·rw [if_neg c3] at H
  have c3b0 : (a0_0.toList == a1_0.toList) = false := beq_eq_false_iff_ne.mpr c3
  have c3b1 : (a0_0.toList != a1_0.toList) = true := bne_iff_ne.mpr c3
  obtain rfl := Option.some.inj H
  go_enter Try.func92, Try.ntmps92
  go_wp2_with (first | ((with_reducible refine gate_dst (N := 2) rfl ?_); refine bE 2 #[.string a0_0, .int .i64 a0_1, .bool a0_2, .slice A0_3 l0_3.length c0_3, .int .i64 a0_4, .int .i64 a0_5] 107 ?_; intro gb516 hg w50 hbox hb; have BK516 := Aside0.mk (hbox); have GE516 := bG hg; replace HB := BS hb; clear hb hbox hg) | ((with_reducible refine gate_dst (N := 3) rfl ?_); refine bE 3 #[.string a1_0, .int .i64 a1_1, .bool a1_2, .slice A1_3 l1_3.length c1_3, .int .i64 a1_4, .int .i64 a1_5] 107 ?_; intro gb517 hg w51 hbox hb; have BK517 := Aside0.mk (hbox); have GE517 := bG hg; replace HB := BS hb; have NB516_517 := bN BK516 hg; have NB517_516 := bM BK516 hg; replace BK516 := KB BK516 hb; clear hb hbox hg; obtain ⟨hnb52, hnc52⟩ := nn NB516_517; have hcz53 := cz6 BK516; have hcz54 := cz6 BK517))
  go_ret
  exact ⟨TE, TB⟩
end
section
/-! ### laws_eqEntryS: function 82 -/
def laws_eqEntryS.l0 : Nat → List (S_Entry) → List (S_Entry) → Int → Option (Bool)
 | 0, _, _, _ => none
 | k + 1, x0, x1, x5 => if x5 < (x0.length : Int) then (if 0 ≤ x5 then (if x5 < (x1.length : Int) then ((laws_eqEntry.f k ((rd_TEntry x0 x5).f0) ((rd_TEntry x0 x5).f1) ((rd_TEntry x0 x5).f2) ((rd_TEntry x0 x5).f3) ((rd_TEntry x0 x5).f4) ((rd_TEntry x0 x5).f5) ((rd_TEntry x1 x5).f0) ((rd_TEntry x1 x5).f1) ((rd_TEntry x1 x5).f2) ((rd_TEntry x1 x5).f3) ((rd_TEntry x1 x5).f4) ((rd_TEntry x1 x5).f5)).bind fun t521 => (if t521 = true then (laws_eqEntryS.l0 k x0 x1 (wrap64 (x5 + 1))) else (some false))) else (none)) else (none)) else (some true)
def laws_eqEntryS.f (k : Nat) (l0 : List (S_Entry)) (l1 : List (S_Entry)) : Option (Bool) := if (l0.length : Int) = (l1.length : Int) then (laws_eqEntryS.l0 k l0 l1 0) else (some false)
def laws_eqEntryS.T6 : Bool × List (List Nat × List Nat) := (true, [([], []), ([], []), ([0, 1], [0, 1]), ([2], [2]), ([], []), ([], []), ([4, 5], [4, 5]), ([6], [6]), ([3, 7], [3, 7]), ([8], [8])])
def laws_eqEntryS.B6 : List Nat := [0, 0, 3, 7, 0, 0, 48, 112, 255, 511]
theorem laws_eqEntryS.tab6 : rtab .any (opsOf Try.f82 6) = laws_eqEntryS.T6 := by kernel_rfl
theorem laws_eqEntryS.bits6 : waitsOk laws_eqEntryS.T6.2 laws_eqEntryS.B6 = true := by kernel_rfl
theorem laws_eqEntryS.calls (k : Nat) (A0 : Option Addr) (c0 : Nat) (l0 : List (S_Entry)) (A1 : Option Addr) (c1 : Nat) (l1 : List (S_Entry)) (r : Bool) (w : World) (hr0 : Kd.C k_Entry w A0 l0.length l0) (hc0 : l0.length ≤ c0) (hr1 : Kd.C k_Entry w A1 l1.length l1) (hc1 : l1.length ≤ c1) (h : laws_eqEntryS.f k l0 l1 = some r) :
  Calls Try.prog 82 #[.slice A0 l0.length c0, .slice A1 l1.length c1] w fun e w' => e = .returned (.bool r) ∧ Below w.heap.size w w' := by
 have hu107 := Try.underlying107
 have HR0 := Aside0.mk hr0
 have HC0 := Aside0.mk hc0
 clear hr0 hc0
 have HR1 := Aside0.mk hr1
 have HC1 := Aside0.mk hc1
 clear hr1 hc1
 have HB := Aside0.mk (Below.refl w.heap.size w)
 have H : (if (l0.length : Int) = (l1.length : Int) then (laws_eqEntryS.l0 k l0 l1 0) else (some false)) = some r := h
 clear h
 by_cases c3 : (l0.length : Int) = (l1.length : Int)
 ·rw [if_pos c3] at H
  have c3b0 : ((l0.length : Int) == (l1.length : Int)) = true := beq_iff_eq.mpr c3
  have c3b1 : ((l0.length : Int) != (l1.length : Int)) = false := bne_eq_false_iff_eq.mpr c3
  have c3b2 : (l0.length == l1.length) = true := by first | simpa using c3 | (simp at c3 ⊢; omega)
  clear c3
  have H' := Aside0.mk H
  clear H
  go_enter Try.func82, Try.ntmps82
  go_wp2
  go_loopg [5] k (fun kq v5 w' => ∃ (x5_1 : Int), v5 = .int .i64 x5_1 ∧ Aside0 (laws_eqEntryS.l0 kq l0 l1 x5_1 = some r) ∧ Aside0 (kq ≤ k) ∧ Aside0 (Below w.heap.size w w'))
  case atStart => exact ⟨(0), TF, H', ⟨Nat.le_refl _⟩, ⟨TB⟩⟩
  case round =>
   clear H'
   obtain ⟨x5_1, rfl, HA, HK1, HB⟩ := hrel
   cases gk with
   | zero => exact absurd HA.out (by simp [laws_eqEntryS.l0])
   | succ k1 =>
    have H := HA.out
    clear HA
    simp only [laws_eqEntryS.l0] at H
    by_cases c4 : x5_1 < (l0.length : Int)
    ·rw [if_pos c4] at H
     have c4b0 : decide (x5_1 < (l0.length : Int)) = true := decide_eq_true c4
     clear c4
     obtain ⟨c5, H⟩ := ifn H
     have c5b0 : decide (0 ≤ x5_1) = true := decide_eq_true c5
     clear c5
     obtain ⟨c6, H⟩ := ifn H
     have c6b0 : decide (x5_1 < (l1.length : Int)) = true := decide_eq_true c6
     clear c6
     obtain ⟨t521, A7, H⟩ := bnd H
     by_cases c8 : t521 = true
     ·subst c8
      replace H := ift H
      have H' := Aside0.mk H
      clear H
      try go_wp2
      replace HB := Aside0.mk (below_drew1 HB.out)
      have p519 : 0 ≤ (x5_1 : Int) := TD
      have q519 : x5_1 < (l0.length : Int) := TD
      obtain ⟨ad519, A519_3, c519_3, e519, hx519_0, hx519_1, hx519_2, hx519_3, hx519_4, hx519_5, hl519_3, hi519_3⟩ := at_TEntry HR0.out x5_1 p519 q519
      have hw519_5 := hx519_5
      have hw519_4 := hx519_4
      have hw519_3 := hx519_3
      have hw519_2 := hx519_2
      have hw519_1 := hx519_1
      have hw519_0 := hx519_0
      cases e519
      replace hx519_0 := hBc HB hx519_0
      replace hx519_1 := hBc HB hx519_1
      replace hx519_2 := hBc HB hx519_2
      replace hx519_3 := hBc HB hx519_3
      replace hx519_4 := hBc HB hx519_4
      replace hx519_5 := hBc HB hx519_5
      have HR519_3 := Aside0.mk hi519_3
      have HC519_3 := Aside0.mk hl519_3
      clear hi519_3 hl519_3
      replace p519 := eq_true p519
      replace q519 := eq_true q519
      have p520 : 0 ≤ (x5_1 : Int) := TD
      have q520 : x5_1 < (l1.length : Int) := TD
      obtain ⟨ad520, A520_3, c520_3, e520, hx520_0, hx520_1, hx520_2, hx520_3, hx520_4, hx520_5, hl520_3, hi520_3⟩ := at_TEntry HR1.out x5_1 p520 q520
      have hw520_5 := hx520_5
      have hw520_4 := hx520_4
      have hw520_3 := hx520_3
      have hw520_2 := hx520_2
      have hw520_1 := hx520_1
      have hw520_0 := hx520_0
      cases e520
      replace hx520_0 := hBc HB hx520_0
      replace hx520_1 := hBc HB hx520_1
      replace hx520_2 := hBc HB hx520_2
      replace hx520_3 := hBc HB hx520_3
      replace hx520_4 := hBc HB hx520_4
      replace hx520_5 := hBc HB hx520_5
      have HR520_3 := Aside0.mk hi520_3
      have HC520_3 := Aside0.mk hl520_3
      clear hi520_3 hl520_3
      replace p520 := eq_true p520
      replace q520 := eq_true q520
      refine start_ (n := 10) (S := fun w' => w'.cell? (ad519.add ((x5_1).toNat * 6)) = some (.string ((rd_TEntry l0 x5_1).f0)) ∧ w'.cell? ⟨(ad519.add ((x5_1).toNat * 6)).block, (ad519.add ((x5_1).toNat * 6)).off + 1, none⟩ = some (.int .i64 ((rd_TEntry l0 x5_1).f1)) ∧ w'.cell? ⟨(ad519.add ((x5_1).toNat * 6)).block, (ad519.add ((x5_1).toNat * 6)).off + 2, none⟩ = some (.bool ((rd_TEntry l0 x5_1).f2)) ∧ w'.cell? ⟨(ad519.add ((x5_1).toNat * 6)).block, (ad519.add ((x5_1).toNat * 6)).off + 3, none⟩ = some (.slice A519_3 ((rd_TEntry l0 x5_1).f3).length c519_3) ∧ w'.cell? ⟨(ad519.add ((x5_1).toNat * 6)).block, (ad519.add ((x5_1).toNat * 6)).off + 4, none⟩ = some (.int .i64 ((rd_TEntry l0 x5_1).f4)) ∧ w'.cell? ⟨(ad519.add ((x5_1).toNat * 6)).block, (ad519.add ((x5_1).toNat * 6)).off + 5, none⟩ = some (.int .i64 ((rd_TEntry l0 x5_1).f5)) ∧ w'.cell? (ad520.add ((x5_1).toNat * 6)) = some (.string ((rd_TEntry l1 x5_1).f0)) ∧ w'.cell? ⟨(ad520.add ((x5_1).toNat * 6)).block, (ad520.add ((x5_1).toNat * 6)).off + 1, none⟩ = some (.int .i64 ((rd_TEntry l1 x5_1).f1)) ∧ w'.cell? ⟨(ad520.add ((x5_1).toNat * 6)).block, (ad520.add ((x5_1).toNat * 6)).off + 2, none⟩ = some (.bool ((rd_TEntry l1 x5_1).f2)) ∧ w'.cell? ⟨(ad520.add ((x5_1).toNat * 6)).block, (ad520.add ((x5_1).toNat * 6)).off + 3, none⟩ = some (.slice A520_3 ((rd_TEntry l1 x5_1).f3).length c520_3) ∧ w'.cell? ⟨(ad520.add ((x5_1).toNat * 6)).block, (ad520.add ((x5_1).toNat * 6)).off + 4, none⟩ = some (.int .i64 ((rd_TEntry l1 x5_1).f4)) ∧ w'.cell? ⟨(ad520.add ((x5_1).toNat * 6)).block, (ad520.add ((x5_1).toNat * 6)).off + 5, none⟩ = some (.int .i64 ((rd_TEntry l1 x5_1).f5))) (ds := []) #[false, false, false, false, false, false, false, false, false, false] KR rfl rfl ⟨((HB.out.cell (World.block_lt_of_cell? w _ hw519_0)).trans hw519_0), ((HB.out.cell (World.block_lt_of_cell? w _ hw519_1)).trans hw519_1), ((HB.out.cell (World.block_lt_of_cell? w _ hw519_2)).trans hw519_2), ((HB.out.cell (World.block_lt_of_cell? w _ hw519_3)).trans hw519_3), ((HB.out.cell (World.block_lt_of_cell? w _ hw519_4)).trans hw519_4), ((HB.out.cell (World.block_lt_of_cell? w _ hw519_5)).trans hw519_5), ((HB.out.cell (World.block_lt_of_cell? w _ hw520_0)).trans hw520_0), ((HB.out.cell (World.block_lt_of_cell? w _ hw520_1)).trans hw520_1), ((HB.out.cell (World.block_lt_of_cell? w _ hw520_2)).trans hw520_2), ((HB.out.cell (World.block_lt_of_cell? w _ hw520_3)).trans hw520_3), ((HB.out.cell (World.block_lt_of_cell? w _ hw520_4)).trans hw520_4), ((HB.out.cell (World.block_lt_of_cell? w _ hw520_5)).trans hw520_5)⟩ (fun hHeld => ?_); refine with_tabW laws_eqEntryS.tab6 laws_eqEntryS.bits6 (fun HT_ HW_ => ?_)
      generalize wr.drew = w9 at HB HR519_3 HR520_3 hx519_0 hx519_1 hx519_2 hx519_3 hx519_4 hx519_5 hx520_0 hx520_1 hx520_2 hx520_3 hx520_4 hx520_5 hHeld ⊢
      refine pA 0 17 (mL 10 1) HT_ rfl rfl ?_
      refine pA 1 18 (mL 10 3) HT_ rfl rfl ?_
      refine pA 2 19 (mL 10 7) HT_ rfl rfl ?_
      refine pA 4 21 (mL 10 23) HT_ rfl rfl ?_
      refine pA 5 22 (mL 10 55) HT_ rfl rfl ?_
      refine pA 6 23 (mL 10 119) HT_ rfl rfl ?_
      refine tA 3 20 (mL 10 127) HT_ HW_ hHeld rfl rfl (by rintro w' ⟨s0, s1, s2, s3, s4, s5, s6, s7, s8, s9, s10, s11⟩; go_simp; with_reducible rfl) ?_
      refine tA 7 24 (mL 10 255) HT_ HW_ hHeld rfl rfl (by rintro w' ⟨s0, s1, s2, s3, s4, s5, s6, s7, s8, s9, s10, s11⟩; go_simp; with_reducible rfl) ?_
      refine one_ (i := 8) (N := some 25) (mL 10 511) rfl rfl (one_of HT_.out KR) (by decide) (fun K hK => ?_)
      refine goes_ Try.func92 KR rfl #[.agg #[.string ((rd_TEntry l0 x5_1).f0), .int .i64 ((rd_TEntry l0 x5_1).f1), .bool ((rd_TEntry l0 x5_1).f2), .slice A519_3 ((rd_TEntry l0 x5_1).f3).length c519_3, .int .i64 ((rd_TEntry l0 x5_1).f4), .int .i64 ((rd_TEntry l0 x5_1).f5)], .agg #[.string ((rd_TEntry l1 x5_1).f0), .int .i64 ((rd_TEntry l1 x5_1).f1), .bool ((rd_TEntry l1 x5_1).f2), .slice A520_3 ((rd_TEntry l1 x5_1).f3).length c520_3, .int .i64 ((rd_TEntry l1 x5_1).f4), .int .i64 ((rd_TEntry l1 x5_1).f5)]] (by rfl) rfl rfl TA ?_
      with_reducible refine (laws_eqEntry.calls k1 ((rd_TEntry l0 x5_1).f0) ((rd_TEntry l0 x5_1).f1) ((rd_TEntry l0 x5_1).f2) _ _ ((rd_TEntry l0 x5_1).f3) ((rd_TEntry l0 x5_1).f4) ((rd_TEntry l0 x5_1).f5) ((rd_TEntry l1 x5_1).f0) ((rd_TEntry l1 x5_1).f1) ((rd_TEntry l1 x5_1).f2) _ _ ((rd_TEntry l1 x5_1).f3) ((rd_TEntry l1 x5_1).f4) ((rd_TEntry l1 x5_1).f5) true _ ?side1 ?side2 ?side3 ?side4 A7.out).mono ?_
      (case side1 => exact CW ((Kd.C_below HR519_3.out HB.out)))
      (case side2 => exact HC519_3.out)
      (case side3 => exact CW ((Kd.C_below HR520_3.out HB.out)))
      (case side4 => exact HC520_3.out)
      rintro e w10 ⟨rfl, hb⟩
      refine ⟨_, rfl, ?_⟩
      replace HB := BS hb
      (try clear hb)
      (try clear hb2)
      (try clear hk)
      (try clear hi)
      refine hK.out _ _ ⟨((HB.out.cell (World.block_lt_of_cell? w _ hw519_0)).trans hw519_0), ((HB.out.cell (World.block_lt_of_cell? w _ hw519_1)).trans hw519_1), ((HB.out.cell (World.block_lt_of_cell? w _ hw519_2)).trans hw519_2), ((HB.out.cell (World.block_lt_of_cell? w _ hw519_3)).trans hw519_3), ((HB.out.cell (World.block_lt_of_cell? w _ hw519_4)).trans hw519_4), ((HB.out.cell (World.block_lt_of_cell? w _ hw519_5)).trans hw519_5), ((HB.out.cell (World.block_lt_of_cell? w _ hw520_0)).trans hw520_0), ((HB.out.cell (World.block_lt_of_cell? w _ hw520_1)).trans hw520_1), ((HB.out.cell (World.block_lt_of_cell? w _ hw520_2)).trans hw520_2), ((HB.out.cell (World.block_lt_of_cell? w _ hw520_3)).trans hw520_3), ((HB.out.cell (World.block_lt_of_cell? w _ hw520_4)).trans hw520_4), ((HB.out.cell (World.block_lt_of_cell? w _ hw520_5)).trans hw520_5)⟩ (fun hHeld => ?_)
      clear hK K
      refine nA ?_
      refine pA 9 26 (mL 10 1023) HT_ rfl rfl ?_
      refine done_ (done_of HT_.out KR) ?_
      try go_wp2
      go_roundg k1
      case measure => have := HK1.out; omega
      case rel => exact ⟨(wrap64 (x5_1 + 1)), TF, H', ⟨TM⟩, ⟨TB⟩⟩
     ·replace c8 := Bool.eq_false_iff.mpr c8
      subst c8
      replace H := iff' H
      obtain rfl := Option.some.inj H
      try go_wp2
      replace HB := Aside0.mk (below_drew1 HB.out)
      have p519 : 0 ≤ (x5_1 : Int) := TD
      have q519 : x5_1 < (l0.length : Int) := TD
      obtain ⟨ad519, A519_3, c519_3, e519, hx519_0, hx519_1, hx519_2, hx519_3, hx519_4, hx519_5, hl519_3, hi519_3⟩ := at_TEntry HR0.out x5_1 p519 q519
      have hw519_5 := hx519_5
      have hw519_4 := hx519_4
      have hw519_3 := hx519_3
      have hw519_2 := hx519_2
      have hw519_1 := hx519_1
      have hw519_0 := hx519_0
      cases e519
      replace hx519_0 := hBc HB hx519_0
      replace hx519_1 := hBc HB hx519_1
      replace hx519_2 := hBc HB hx519_2
      replace hx519_3 := hBc HB hx519_3
      replace hx519_4 := hBc HB hx519_4
      replace hx519_5 := hBc HB hx519_5
      have HR519_3 := Aside0.mk hi519_3
      have HC519_3 := Aside0.mk hl519_3
      clear hi519_3 hl519_3
      replace p519 := eq_true p519
      replace q519 := eq_true q519
      have p520 : 0 ≤ (x5_1 : Int) := TD
      have q520 : x5_1 < (l1.length : Int) := TD
      obtain ⟨ad520, A520_3, c520_3, e520, hx520_0, hx520_1, hx520_2, hx520_3, hx520_4, hx520_5, hl520_3, hi520_3⟩ := at_TEntry HR1.out x5_1 p520 q520
      have hw520_5 := hx520_5
      have hw520_4 := hx520_4
      have hw520_3 := hx520_3
      have hw520_2 := hx520_2
      have hw520_1 := hx520_1
      have hw520_0 := hx520_0
      cases e520
      replace hx520_0 := hBc HB hx520_0
      replace hx520_1 := hBc HB hx520_1
      replace hx520_2 := hBc HB hx520_2
      replace hx520_3 := hBc HB hx520_3
      replace hx520_4 := hBc HB hx520_4
      replace hx520_5 := hBc HB hx520_5
      have HR520_3 := Aside0.mk hi520_3
      have HC520_3 := Aside0.mk hl520_3
      clear hi520_3 hl520_3
      replace p520 := eq_true p520
      replace q520 := eq_true q520
      refine start_ (n := 10) (S := fun w' => w'.cell? (ad519.add ((x5_1).toNat * 6)) = some (.string ((rd_TEntry l0 x5_1).f0)) ∧ w'.cell? ⟨(ad519.add ((x5_1).toNat * 6)).block, (ad519.add ((x5_1).toNat * 6)).off + 1, none⟩ = some (.int .i64 ((rd_TEntry l0 x5_1).f1)) ∧ w'.cell? ⟨(ad519.add ((x5_1).toNat * 6)).block, (ad519.add ((x5_1).toNat * 6)).off + 2, none⟩ = some (.bool ((rd_TEntry l0 x5_1).f2)) ∧ w'.cell? ⟨(ad519.add ((x5_1).toNat * 6)).block, (ad519.add ((x5_1).toNat * 6)).off + 3, none⟩ = some (.slice A519_3 ((rd_TEntry l0 x5_1).f3).length c519_3) ∧ w'.cell? ⟨(ad519.add ((x5_1).toNat * 6)).block, (ad519.add ((x5_1).toNat * 6)).off + 4, none⟩ = some (.int .i64 ((rd_TEntry l0 x5_1).f4)) ∧ w'.cell? ⟨(ad519.add ((x5_1).toNat * 6)).block, (ad519.add ((x5_1).toNat * 6)).off + 5, none⟩ = some (.int .i64 ((rd_TEntry l0 x5_1).f5)) ∧ w'.cell? (ad520.add ((x5_1).toNat * 6)) = some (.string ((rd_TEntry l1 x5_1).f0)) ∧ w'.cell? ⟨(ad520.add ((x5_1).toNat * 6)).block, (ad520.add ((x5_1).toNat * 6)).off + 1, none⟩ = some (.int .i64 ((rd_TEntry l1 x5_1).f1)) ∧ w'.cell? ⟨(ad520.add ((x5_1).toNat * 6)).block, (ad520.add ((x5_1).toNat * 6)).off + 2, none⟩ = some (.bool ((rd_TEntry l1 x5_1).f2)) ∧ w'.cell? ⟨(ad520.add ((x5_1).toNat * 6)).block, (ad520.add ((x5_1).toNat * 6)).off + 3, none⟩ = some (.slice A520_3 ((rd_TEntry l1 x5_1).f3).length c520_3) ∧ w'.cell? ⟨(ad520.add ((x5_1).toNat * 6)).block, (ad520.add ((x5_1).toNat * 6)).off + 4, none⟩ = some (.int .i64 ((rd_TEntry l1 x5_1).f4)) ∧ w'.cell? ⟨(ad520.add ((x5_1).toNat * 6)).block, (ad520.add ((x5_1).toNat * 6)).off + 5, none⟩ = some (.int .i64 ((rd_TEntry l1 x5_1).f5))) (ds := []) #[false, false, false, false, false, false, false, false, false, false] KR rfl rfl ⟨((HB.out.cell (World.block_lt_of_cell? w _ hw519_0)).trans hw519_0), ((HB.out.cell (World.block_lt_of_cell? w _ hw519_1)).trans hw519_1), ((HB.out.cell (World.block_lt_of_cell? w _ hw519_2)).trans hw519_2), ((HB.out.cell (World.block_lt_of_cell? w _ hw519_3)).trans hw519_3), ((HB.out.cell (World.block_lt_of_cell? w _ hw519_4)).trans hw519_4), ((HB.out.cell (World.block_lt_of_cell? w _ hw519_5)).trans hw519_5), ((HB.out.cell (World.block_lt_of_cell? w _ hw520_0)).trans hw520_0), ((HB.out.cell (World.block_lt_of_cell? w _ hw520_1)).trans hw520_1), ((HB.out.cell (World.block_lt_of_cell? w _ hw520_2)).trans hw520_2), ((HB.out.cell (World.block_lt_of_cell? w _ hw520_3)).trans hw520_3), ((HB.out.cell (World.block_lt_of_cell? w _ hw520_4)).trans hw520_4), ((HB.out.cell (World.block_lt_of_cell? w _ hw520_5)).trans hw520_5)⟩ (fun hHeld => ?_); refine with_tabW laws_eqEntryS.tab6 laws_eqEntryS.bits6 (fun HT_ HW_ => ?_)
      generalize wr.drew = w11 at HB HR519_3 HR520_3 hx519_0 hx519_1 hx519_2 hx519_3 hx519_4 hx519_5 hx520_0 hx520_1 hx520_2 hx520_3 hx520_4 hx520_5 hHeld ⊢
      refine pA 0 17 (mL 10 1) HT_ rfl rfl ?_
      refine pA 1 18 (mL 10 3) HT_ rfl rfl ?_
      refine pA 2 19 (mL 10 7) HT_ rfl rfl ?_
      refine pA 4 21 (mL 10 23) HT_ rfl rfl ?_
      refine pA 5 22 (mL 10 55) HT_ rfl rfl ?_
      refine pA 6 23 (mL 10 119) HT_ rfl rfl ?_
      refine tA 3 20 (mL 10 127) HT_ HW_ hHeld rfl rfl (by rintro w' ⟨s0, s1, s2, s3, s4, s5, s6, s7, s8, s9, s10, s11⟩; go_simp; with_reducible rfl) ?_
      refine tA 7 24 (mL 10 255) HT_ HW_ hHeld rfl rfl (by rintro w' ⟨s0, s1, s2, s3, s4, s5, s6, s7, s8, s9, s10, s11⟩; go_simp; with_reducible rfl) ?_
      refine one_ (i := 8) (N := some 25) (mL 10 511) rfl rfl (one_of HT_.out KR) (by decide) (fun K hK => ?_)
      refine goes_ Try.func92 KR rfl #[.agg #[.string ((rd_TEntry l0 x5_1).f0), .int .i64 ((rd_TEntry l0 x5_1).f1), .bool ((rd_TEntry l0 x5_1).f2), .slice A519_3 ((rd_TEntry l0 x5_1).f3).length c519_3, .int .i64 ((rd_TEntry l0 x5_1).f4), .int .i64 ((rd_TEntry l0 x5_1).f5)], .agg #[.string ((rd_TEntry l1 x5_1).f0), .int .i64 ((rd_TEntry l1 x5_1).f1), .bool ((rd_TEntry l1 x5_1).f2), .slice A520_3 ((rd_TEntry l1 x5_1).f3).length c520_3, .int .i64 ((rd_TEntry l1 x5_1).f4), .int .i64 ((rd_TEntry l1 x5_1).f5)]] (by rfl) rfl rfl TA ?_
      with_reducible refine (laws_eqEntry.calls k1 ((rd_TEntry l0 x5_1).f0) ((rd_TEntry l0 x5_1).f1) ((rd_TEntry l0 x5_1).f2) _ _ ((rd_TEntry l0 x5_1).f3) ((rd_TEntry l0 x5_1).f4) ((rd_TEntry l0 x5_1).f5) ((rd_TEntry l1 x5_1).f0) ((rd_TEntry l1 x5_1).f1) ((rd_TEntry l1 x5_1).f2) _ _ ((rd_TEntry l1 x5_1).f3) ((rd_TEntry l1 x5_1).f4) ((rd_TEntry l1 x5_1).f5) false _ ?side1 ?side2 ?side3 ?side4 A7.out).mono ?_
      (case side1 => exact CW ((Kd.C_below HR519_3.out HB.out)))
      (case side2 => exact HC519_3.out)
      (case side3 => exact CW ((Kd.C_below HR520_3.out HB.out)))
      (case side4 => exact HC520_3.out)
      rintro e w12 ⟨rfl, hb⟩
      refine ⟨_, rfl, ?_⟩
      replace HB := BS hb
      (try clear hb)
      (try clear hb2)
      (try clear hk)
      (try clear hi)
      refine hK.out _ _ ⟨((HB.out.cell (World.block_lt_of_cell? w _ hw519_0)).trans hw519_0), ((HB.out.cell (World.block_lt_of_cell? w _ hw519_1)).trans hw519_1), ((HB.out.cell (World.block_lt_of_cell? w _ hw519_2)).trans hw519_2), ((HB.out.cell (World.block_lt_of_cell? w _ hw519_3)).trans hw519_3), ((HB.out.cell (World.block_lt_of_cell? w _ hw519_4)).trans hw519_4), ((HB.out.cell (World.block_lt_of_cell? w _ hw519_5)).trans hw519_5), ((HB.out.cell (World.block_lt_of_cell? w _ hw520_0)).trans hw520_0), ((HB.out.cell (World.block_lt_of_cell? w _ hw520_1)).trans hw520_1), ((HB.out.cell (World.block_lt_of_cell? w _ hw520_2)).trans hw520_2), ((HB.out.cell (World.block_lt_of_cell? w _ hw520_3)).trans hw520_3), ((HB.out.cell (World.block_lt_of_cell? w _ hw520_4)).trans hw520_4), ((HB.out.cell (World.block_lt_of_cell? w _ hw520_5)).trans hw520_5)⟩ (fun hHeld => ?_)
      clear hK K
      refine nA ?_
      refine pA 9 26 (mL 10 1023) HT_ rfl rfl ?_
      refine done_ (done_of HT_.out KR) ?_
      try go_wp2
      go_ret
      exact ⟨TE, TB⟩
    ·rw [if_neg c4] at H
     have c4b0 : decide (x5_1 < (l0.length : Int)) = false := decide_eq_false c4
     clear c4
     obtain rfl := Option.some.inj H
     go_wp2
     go_ret
     exact ⟨TE, TB⟩
 ·rw [if_neg c3] at H
  have c3b0 : ((l0.length : Int) == (l1.length : Int)) = false := beq_eq_false_iff_ne.mpr c3
  have c3b1 : ((l0.length : Int) != (l1.length : Int)) = true := bne_iff_ne.mpr c3
  have c3b2 : (l0.length == l1.length) = false := by first | simpa using c3 | (simp at c3 ⊢; omega)
  obtain rfl := Option.some.inj H
  go_enter Try.func82, Try.ntmps82
  go_wp2
  go_ret
  exact ⟨TE, TB⟩
end
section
/-! ### laws_eqCache: function 55 -/
def laws_eqCache.f (k : Nat) (a0_0 : Int) (l0_1 : List (S_Entry)) (a1_0 : Int) (l1_1 : List (S_Entry)) : Option (Bool) := if a0_0 = a1_0 then ((laws_eqEntryS.f k l0_1 l1_1).bind fun t524 => (if t524 = true then (some true) else (some false))) else (some false)
theorem laws_eqCache.calls (k : Nat) (a0_0 : Int) (A0_1 : Option Addr) (c0_1 : Nat) (l0_1 : List (S_Entry)) (a1_0 : Int) (A1_1 : Option Addr) (c1_1 : Nat) (l1_1 : List (S_Entry)) (r : Bool) (w : World) (hr0_1 : Kd.C k_Entry w A0_1 l0_1.length l0_1) (hc0_1 : l0_1.length ≤ c0_1) (hr1_1 : Kd.C k_Entry w A1_1 l1_1.length l1_1) (hc1_1 : l1_1.length ≤ c1_1) (h : laws_eqCache.f k a0_0 l0_1 a1_0 l1_1 = some r) :
  Calls Try.prog 55 #[.agg #[.int .i64 a0_0, .slice A0_1 l0_1.length c0_1], .agg #[.int .i64 a1_0, .slice A1_1 l1_1.length c1_1]] w fun e w' => e = .returned (.bool r) ∧ Below w.heap.size w w' := by
 have hu70 := Try.underlying70
 have HR0_1 := Aside0.mk hr0_1
 have HC0_1 := Aside0.mk hc0_1
 clear hr0_1 hc0_1
 have HR1_1 := Aside0.mk hr1_1
 have HC1_1 := Aside0.mk hc1_1
 clear hr1_1 hc1_1
 have HB := Aside0.mk (Below.refl w.heap.size w)
 have H : (if a0_0 = a1_0 then ((laws_eqEntryS.f k l0_1 l1_1).bind fun t524 => (if t524 = true then (some true) else (some false))) else (some false)) = some r := h
 clear h
 by_cases c3 : a0_0 = a1_0
 ·rw [if_pos c3] at H
  have c3b0 : (a0_0 == a1_0) = true := beq_iff_eq.mpr c3
  have c3b1 : (a0_0 != a1_0) = false := bne_eq_false_iff_eq.mpr c3
  clear c3
  obtain ⟨t524, A4, H⟩ := bnd H
  by_cases c5 : t524 = true
  ·subst c5
   replace H := ift H
   obtain rfl := Option.some.inj H
   go_enter Try.func55, Try.ntmps55
   go_wp2_with (first | ((with_reducible refine gate_dst (N := 2) rfl ?_); refine bE 2 #[.int .i64 a0_0, .slice A0_1 l0_1.length c0_1] 70 ?_; intro gb522 hg w6 hbox hb; have BK522 := Aside0.mk (hbox); have GE522 := bG hg; replace HB := BS hb; clear hb hbox hg) | ((with_reducible refine gate_dst (N := 3) rfl ?_); refine bE 3 #[.int .i64 a1_0, .slice A1_1 l1_1.length c1_1] 70 ?_; intro gb523 hg w7 hbox hb; have BK523 := Aside0.mk (hbox); have GE523 := bG hg; replace HB := BS hb; have NB522_523 := bN BK522 hg; have NB523_522 := bM BK522 hg; replace BK522 := KB BK522 hb; clear hb hbox hg; obtain ⟨hnb8, hnc8⟩ := nn NB522_523; have hcz9 := cz2 BK522; have hcz10 := cz2 BK523) | ((with_reducible refine gate_callee (f := 82) rfl ?_); refine goesL_ (some 14) rfl rfl Try.func82 KR rfl #[.slice A0_1 l0_1.length c0_1, .slice A1_1 l1_1.length c1_1] rfl TA ?_; (with_reducible refine (laws_eqEntryS.calls k _ _ l0_1 _ _ l1_1 true _ ?side1 ?side2 ?side3 ?side4 A4.out).mono ?_); (case side1 => exact CW ((Kd.C_below HR0_1.out HB.out))); (case side2 => exact HC0_1.out); (case side3 => exact CW ((Kd.C_below HR1_1.out HB.out))); (case side4 => exact HC1_1.out); rintro e w11 ⟨rfl, hb⟩; refine ⟨_, rfl, ?_⟩; replace BK522 := KB BK522 hb; replace BK523 := KB BK523 hb; replace HB := BS hb; clear hb))
   go_ret
   exact ⟨TE, TB⟩
  ·replace c5 := Bool.eq_false_iff.mpr c5
   subst c5
   replace H := iff' H
   obtain rfl := Option.some.inj H
   go_enter Try.func55, Try.ntmps55
   go_wp2_with (first | ((with_reducible refine gate_dst (N := 2) rfl ?_); refine bE 2 #[.int .i64 a0_0, .slice A0_1 l0_1.length c0_1] 70 ?_; intro gb522 hg w12 hbox hb; have BK522 := Aside0.mk (hbox); have GE522 := bG hg; replace HB := BS hb; clear hb hbox hg) | ((with_reducible refine gate_dst (N := 3) rfl ?_); refine bE 3 #[.int .i64 a1_0, .slice A1_1 l1_1.length c1_1] 70 ?_; intro gb523 hg w13 hbox hb; have BK523 := Aside0.mk (hbox); have GE523 := bG hg; replace HB := BS hb; have NB522_523 := bN BK522 hg; have NB523_522 := bM BK522 hg; replace BK522 := KB BK522 hb; clear hb hbox hg; obtain ⟨hnb14, hnc14⟩ := nn NB522_523; have hcz15 := cz2 BK522; have hcz16 := cz2 BK523) | ((with_reducible refine gate_callee (f := 82) rfl ?_); refine goesL_ (some 14) rfl rfl Try.func82 KR rfl #[.slice A0_1 l0_1.length c0_1, .slice A1_1 l1_1.length c1_1] rfl TA ?_; (with_reducible refine (laws_eqEntryS.calls k _ _ l0_1 _ _ l1_1 false _ ?side1 ?side2 ?side3 ?side4 A4.out).mono ?_); (case side1 => exact CW ((Kd.C_below HR0_1.out HB.out))); (case side2 => exact HC0_1.out); (case side3 => exact CW ((Kd.C_below HR1_1.out HB.out))); (case side4 => exact HC1_1.out); rintro e w17 ⟨rfl, hb⟩; refine ⟨_, rfl, ?_⟩; replace BK522 := KB BK522 hb; replace BK523 := KB BK523 hb; replace HB := BS hb; clear hb))
   go_ret
   exact ⟨TE, TB⟩
 ·rw [if_neg c3] at H
  have c3b0 : (a0_0 == a1_0) = false := beq_eq_false_iff_ne.mpr c3
  have c3b1 : (a0_0 != a1_0) = true := bne_iff_ne.mpr c3
  obtain rfl := Option.some.inj H
  go_enter Try.func55, Try.ntmps55
  go_wp2_with (first | ((with_reducible refine gate_dst (N := 2) rfl ?_); refine bE 2 #[.int .i64 a0_0, .slice A0_1 l0_1.length c0_1] 70 ?_; intro gb522 hg w18 hbox hb; have BK522 := Aside0.mk (hbox); have GE522 := bG hg; replace HB := BS hb; clear hb hbox hg) | ((with_reducible refine gate_dst (N := 3) rfl ?_); refine bE 3 #[.int .i64 a1_0, .slice A1_1 l1_1.length c1_1] 70 ?_; intro gb523 hg w19 hbox hb; have BK523 := Aside0.mk (hbox); have GE523 := bG hg; replace HB := BS hb; have NB522_523 := bN BK522 hg; have NB523_522 := bM BK522 hg; replace BK522 := KB BK522 hb; clear hb hbox hg; obtain ⟨hnb20, hnc20⟩ := nn NB522_523; have hcz21 := cz2 BK522; have hcz22 := cz2 BK523))
  go_ret
  exact ⟨TE, TB⟩
end
section
/-! ### laws_markEntryS: function 83 -/
def laws_markEntryS.f (l0 : List (S_Entry)) (a1 : Int) : Option (Int) := match l0 with
 | [] => some a1
 | _ :: _ => none
theorem laws_markEntryS.calls (A0 : Option Addr) (c0 : Nat) (l0 : List (S_Entry)) (a1 : Int) (r : Int) (w : World) (hr0 : Kd.C k_Entry w A0 l0.length l0) (hc0 : l0.length ≤ c0) (h : laws_markEntryS.f l0 a1 = some r) :
  Calls Try.prog 83 #[.slice A0 l0.length c0, .int .i64 a1] w fun e w' => e = .returned (.int .i64 r) ∧ Below w.heap.size w w' := by
 cases l0 with
 | cons x t => cases h
 | nil =>
  obtain rfl := Option.some.inj h
  have HB := Aside0.mk (Below.refl w.heap.size w)
  go_enter Try.func83, Try.ntmps83
  go_wp2
  go_loopg [1, 5] 0 (fun kq v1 v5 w' => v1 = .int .i64 a1 ∧ v5 = .int .i64 0 ∧ Aside0 (Below w.heap.size w w'))
  case atStart => exact ⟨rfl, rfl, HB⟩
  case round =>
   obtain ⟨rfl, rfl, HB⟩ := hrel
   go_wp2
   go_ret
   exact ⟨TE, TB⟩
end
section
/-! ### laws_markCache: function 56 -/
def laws_markCache.f (a0_0 : Int) (l0_1 : List (S_Entry)) (a1 : Int) : Option (Int) := (laws_markEntryS.f l0_1 a1).bind fun t526 => (some t526)
theorem laws_markCache.calls (a0_0 : Int) (A0_1 : Option Addr) (c0_1 : Nat) (l0_1 : List (S_Entry)) (a1 : Int) (r : Int) (w : World) (hr0_1 : Kd.C k_Entry w A0_1 l0_1.length l0_1) (hc0_1 : l0_1.length ≤ c0_1) (h : laws_markCache.f a0_0 l0_1 a1 = some r) :
  Calls Try.prog 56 #[.agg #[.int .i64 a0_0, .slice A0_1 l0_1.length c0_1], .int .i64 a1] w fun e w' => e = .returned (.int .i64 r) ∧ Below w.heap.size w w' := by
 have hu70 := Try.underlying70
 have HR0_1 := Aside0.mk hr0_1
 have HC0_1 := Aside0.mk hc0_1
 clear hr0_1 hc0_1
 have HB := Aside0.mk (Below.refl w.heap.size w)
 have H : ((laws_markEntryS.f l0_1 a1).bind fun t526 => (some t526)) = some r := h
 clear h
 obtain ⟨t526, A3, H⟩ := bnd H
 obtain rfl := Option.some.inj H
 go_enter Try.func56, Try.ntmps56
 go_wp2_with (first | ((with_reducible refine gate_dst (N := 2) rfl ?_); refine bE 2 #[.int .i64 a0_0, .slice A0_1 l0_1.length c0_1] 70 ?_; intro gb525 hg w4 hbox hb; have BK525 := Aside0.mk (hbox); have GE525 := bG hg; replace HB := BS hb; clear hb hbox hg; have hcz5 := cz2 BK525) | ((with_reducible refine gate_callee (f := 83) rfl ?_); refine goesL_ (some 8) rfl rfl Try.func83 KR rfl #[.slice A0_1 l0_1.length c0_1, .int .i64 a1] rfl TA ?_; (with_reducible refine (laws_markEntryS.calls _ _ l0_1 a1 t526 _ ?side1 ?side2 A3.out).mono ?_); (case side1 => exact CW ((Kd.C_below HR0_1.out HB.out))); (case side2 => exact HC0_1.out); rintro e w6 ⟨rfl, hb⟩; refine ⟨_, rfl, ?_⟩; replace BK525 := KB BK525 hb; replace HB := BS hb; clear hb))
 go_ret
 exact ⟨TE, TB⟩
end
section
/-! ### laws_markText: function 93 -/
def laws_markText.l0 : Nat → Int → ByteArray → Option (ByteArray)
 | 0, _, _ => none
 | k + 1, x0, x3 => if x0 > 0 then ((some (([(wrap64 (48 + (Int.tmod x0 10))) % 256] : List Int) : List Int)).bind fun y527 => (if (strOfNums y527).size + x3.size ≤ 9223372036854775807 then (laws_markText.l0 k (wrap64 (Int.tdiv x0 10)) ((strOfNums y527) ++ x3)) else (none))) else (if 1 + x3.size ≤ 9223372036854775807 then (some ((⟨#[109]⟩ : ByteArray) ++ x3)) else (none))
def laws_markText.f (k : Nat) (a0 : Int) : Option (ByteArray) := if a0 ≤ 0 then (some (⟨#[109, 48]⟩ : ByteArray)) else (laws_markText.l0 k a0 (⟨#[]⟩ : ByteArray))
theorem laws_markText.calls (k : Nat) (a0 : Int) (r : ByteArray) (w : World) (h : laws_markText.f k a0 = some r) :
  Calls Try.prog 93 #[.int .i64 a0] w fun e w' => e = .returned (.string r) ∧ Below w.heap.size w w' := by
 have HB := Aside0.mk (Below.refl w.heap.size w)
 have H : (if a0 ≤ 0 then (some (⟨#[109, 48]⟩ : ByteArray)) else (laws_markText.l0 k a0 (⟨#[]⟩ : ByteArray))) = some r := h
 clear h
 by_cases c2 : a0 ≤ 0
 ·rw [if_pos c2] at H
  have c2b0 : decide (a0 ≤ 0) = true := decide_eq_true c2
  clear c2
  obtain rfl := Option.some.inj H
  go_enter Try.func93, Try.ntmps93
  go_wp2
  go_ret
  exact ⟨TE, TB⟩
 ·rw [if_neg c2] at H
  have c2b0 : decide (a0 ≤ 0) = false := decide_eq_false c2
  clear c2
  have H' := Aside0.mk H
  clear H
  go_enter Try.func93, Try.ntmps93
  go_wp2
  go_loopg [0, 3] k (fun kq v0 v3 w' => ∃ (x0_1 : Int) (x3_1 : ByteArray), v0 = .int .i64 x0_1 ∧ v3 = .string x3_1 ∧ Aside0 (laws_markText.l0 kq x0_1 x3_1 = some r) ∧ Aside0 (kq ≤ k) ∧ Aside0 (Below w.heap.size w w'))
  case atStart => exact ⟨(a0), ((⟨#[]⟩ : ByteArray)), TF, TF, H', ⟨Nat.le_refl _⟩, ⟨TB⟩⟩
  case round =>
   clear H'
   obtain ⟨x0_1, x3_1, rfl, rfl, HA, HK1, HB⟩ := hrel
   cases gk with
   | zero => exact absurd HA.out (by simp [laws_markText.l0])
   | succ k1 =>
    have H := HA.out
    clear HA
    simp only [laws_markText.l0] at H
    by_cases c3 : x0_1 > 0
    ·rw [if_pos c3] at H
     have c3b0 : decide (0 < x0_1) = true := decide_eq_true c3
     clear c3
     obtain ⟨y527, hy527⟩ : ∃ y_ : List Int, y_ = (([(wrap64 (48 + (Int.tmod x0_1 10))) % 256] : List Int)) := ⟨_, rfl⟩
     replace H : (if (strOfNums y527).size + x3_1.size ≤ 9223372036854775807 then (laws_markText.l0 k1 (wrap64 (Int.tdiv x0_1 10)) ((strOfNums y527) ++ x3_1)) else (none)) = some r := by first | (rw [hy527]; with_reducible exact H) | (have H2_ := (Option.bind_some _ _).symm.trans H; rw [hy527]; with_reducible exact H2_) | (have H2_ := (Option.bind_some _ _).symm.trans H; with_reducible exact H2_) | with_reducible exact H | (rw [hy527]; exact H) | exact H
     have Ny527 := Aside0.mk hy527
     clear hy527
     obtain ⟨c4, H⟩ := ifn H
     have c4b0 := eq_true c4
     have c4b1 : decide ((strOfNums y527).size + x3_1.size ≤ 9223372036854775807) = true := decide_eq_true c4
     try have c4b2 : (9223372036854775807 < (strOfNums y527).size + x3_1.size) = False := eq_false (Nat.not_lt.2 c4)
     have H' := Aside0.mk H
     clear H
     go_wp2_with (first | ((with_reducible refine gate_dst (N := 12) rfl ?_); refine Kd.R_lit (Kd.int .u8) _ 5 ?hg (N := 12) ?hd (xs := ([(wrap64 (48 + (Int.tmod x0_1 10))) % 256] : List Int)) (inner := [.int .u8 ((wrap64 (48 + (Int.tmod x0_1 10))) % 256)]) (ok := fun _ => True) (okp := fun _ => True) ?hr ?hp (fun _ hk => hk) trivial (Below.refl _ _) (Nat.le_refl _) (by simp) ?_; (case hd => rfl); (case hg => rfl); (case hr => first | (go_simp; done) | (go_simp; rfl)); (case hp => exact (Reps.one (show Kd.M (Kd.int .u8) _ _ _ ((wrap64 (48 + (Int.tmod x0_1 10))) % 256) [.int .u8 ((wrap64 (48 + (Int.tmod x0_1 10))) % 256)] from rfl) (Reps.none _ _))); intro v528 w5 ho6 hb hg_ hnew_; clear hg_ hnew_; (first | rw [← Ny527.out] at ho6 | (simp only [Int.reduceToNat] at ho6; rw [← Ny527.out] at ho6)); have HO529 := RL ho6; replace HB := BS hb; clear hb ho6; have hcv7 := own_string (P := Try.prog) Try.underlying58 Try.underlying5 Try.underlying9 (Kd.own_of_R HO529.out)))
     go_roundg k1
     case measure => have := HK1.out; omega
     case rel => exact ⟨(wrap64 (Int.tdiv x0_1 10)), ((strOfNums y527) ++ x3_1), TF, TF, H', ⟨TM⟩, ⟨TB⟩⟩
    ·rw [if_neg c3] at H
     have c3b0 : decide (0 < x0_1) = false := decide_eq_false c3
     clear c3
     obtain ⟨c8, H⟩ := ifn H
     have c8b0 := eq_true c8
     have c8b1 : decide (1 + x3_1.size ≤ 9223372036854775807) = true := decide_eq_true c8
     try have c8b2 : (9223372036854775807 < 1 + x3_1.size) = False := eq_false (Nat.not_lt.2 c8)
     obtain rfl := Option.some.inj H
     go_wp2
     go_ret
     exact ⟨TE, TB⟩
end
section
/-! ### laws_heldRecordS: function 95 -/
def laws_heldRecordS.l0 : Nat → List (S_Record) → Int → Int → Option (Int)
 | 0, _, _, _ => none
 | k + 1, x0, x1, x5 => if x5 < (x0.length : Int) then (if 0 ≤ x5 then ((laws_markText.f k x1).bind fun t531 => (if ((rd_TRecord x0 x5).f0).toList = t531.toList then (if ((rd_TRecord x0 x5).f1) = (wrap64 (x1 + 1)) then (if ((rd_TRecord x0 x5).f2) = (wrap64 ((wrap64 (x1 + 1)) + 1)) then ((laws_markText.f k (wrap64 ((wrap64 ((wrap64 (x1 + 1)) + 1)) + 1))).bind fun t535 => (if ((rd_TRecord x0 x5).f3).toList = t535.toList then (laws_heldRecordS.l0 k x0 (wrap64 ((wrap64 ((wrap64 ((wrap64 (x1 + 1)) + 1)) + 1)) + 1)) (wrap64 (x5 + 1))) else (some (-1)))) else (some (-1))) else (some (-1))) else (some (-1)))) else (none)) else (some x1)
def laws_heldRecordS.f (k : Nat) (l0 : List (S_Record)) (a1 : Int) : Option (Int) := laws_heldRecordS.l0 k l0 a1 0
def laws_heldRecordS.T4 : Bool × List (List Nat × List Nat) := (true, [([], []), ([], []), ([0, 1], [0, 1]), ([2], [2]), ([3], [3]), ([], []), ([5], [5]), ([4, 6], [4, 6])])
def laws_heldRecordS.B4 : List Nat := [0, 0, 3, 7, 15, 0, 32, 127]
theorem laws_heldRecordS.tab4 : rtab .any (opsOf Try.f95 4) = laws_heldRecordS.T4 := by kernel_rfl
theorem laws_heldRecordS.bits4 : waitsOk laws_heldRecordS.T4.2 laws_heldRecordS.B4 = true := by kernel_rfl
def laws_heldRecordS.T13 : Bool × List (List Nat × List Nat) := (true, [([], []), ([], []), ([0, 1], [0, 1]), ([2], [2]), ([3], [3]), ([], []), ([5], [5]), ([4, 6], [4, 6])])
def laws_heldRecordS.B13 : List Nat := [0, 0, 3, 7, 15, 0, 32, 127]
theorem laws_heldRecordS.tab13 : rtab .any (opsOf Try.f95 13) = laws_heldRecordS.T13 := by kernel_rfl
theorem laws_heldRecordS.bits13 : waitsOk laws_heldRecordS.T13.2 laws_heldRecordS.B13 = true := by kernel_rfl
theorem laws_heldRecordS.calls (k : Nat) (A0 : Option Addr) (c0 : Nat) (l0 : List (S_Record)) (a1 : Int) (r : Int) (w : World) (hr0 : Kd.C k_Record w A0 l0.length l0) (hc0 : l0.length ≤ c0) (h : laws_heldRecordS.f k l0 a1 = some r) :
  Calls Try.prog 95 #[.slice A0 l0.length c0, .int .i64 a1] w fun e w' => e = .returned (.int .i64 r) ∧ Below w.heap.size w w' := by
 have HR0 := Aside0.mk hr0
 have HC0 := Aside0.mk hc0
 clear hr0 hc0
 have HB := Aside0.mk (Below.refl w.heap.size w)
 have H : (laws_heldRecordS.l0 k l0 a1 0) = some r := h
 clear h
 have H' := Aside0.mk H
 clear H
 go_enter Try.func95, Try.ntmps95
 go_wp2
 go_loopg [1, 5] k (fun kq v1 v5 w' => ∃ (x1_1 : Int) (x5_1 : Int), v1 = .int .i64 x1_1 ∧ v5 = .int .i64 x5_1 ∧ Aside0 (laws_heldRecordS.l0 kq l0 x1_1 x5_1 = some r) ∧ Aside0 (kq ≤ k) ∧ Aside0 (Below w.heap.size w w'))
 case atStart => exact ⟨(a1), (0), TF, TF, H', ⟨Nat.le_refl _⟩, ⟨TB⟩⟩
 case round =>
  clear H'
  obtain ⟨x1_1, x5_1, rfl, rfl, HA, HK1, HB⟩ := hrel
  cases gk with
  | zero => exact absurd HA.out (by simp [laws_heldRecordS.l0])
  | succ k1 =>
   have H := HA.out
   clear HA
   simp only [laws_heldRecordS.l0] at H
   by_cases c3 : x5_1 < (l0.length : Int)
   ·rw [if_pos c3] at H
    have c3b0 : decide (x5_1 < (l0.length : Int)) = true := decide_eq_true c3
    clear c3
    obtain ⟨c4, H⟩ := ifn H
    have c4b0 : decide (0 ≤ x5_1) = true := decide_eq_true c4
    clear c4
    obtain ⟨t531, A5, H⟩ := bnd H
    by_cases c6 : ((rd_TRecord l0 x5_1).f0).toList = t531.toList
    ·rw [if_pos c6] at H
     have c6b0 : (((rd_TRecord l0 x5_1).f0).toList == t531.toList) = true := beq_iff_eq.mpr c6
     have c6b1 : (((rd_TRecord l0 x5_1).f0).toList != t531.toList) = false := bne_eq_false_iff_eq.mpr c6
     clear c6
     by_cases c7 : ((rd_TRecord l0 x5_1).f1) = (wrap64 (x1_1 + 1))
     ·rw [if_pos c7] at H
      have c7b0 : (((rd_TRecord l0 x5_1).f1) == (wrap64 (x1_1 + 1))) = true := beq_iff_eq.mpr c7
      have c7b1 : (((rd_TRecord l0 x5_1).f1) != (wrap64 (x1_1 + 1))) = false := bne_eq_false_iff_eq.mpr c7
      clear c7
      by_cases c8 : ((rd_TRecord l0 x5_1).f2) = (wrap64 ((wrap64 (x1_1 + 1)) + 1))
      ·rw [if_pos c8] at H
       have c8b0 : (((rd_TRecord l0 x5_1).f2) == (wrap64 ((wrap64 (x1_1 + 1)) + 1))) = true := beq_iff_eq.mpr c8
       have c8b1 : (((rd_TRecord l0 x5_1).f2) != (wrap64 ((wrap64 (x1_1 + 1)) + 1))) = false := bne_eq_false_iff_eq.mpr c8
       clear c8
       obtain ⟨t535, A9, H⟩ := bnd H
       by_cases c10 : ((rd_TRecord l0 x5_1).f3).toList = t535.toList
       ·rw [if_pos c10] at H
        have c10b0 : (((rd_TRecord l0 x5_1).f3).toList == t535.toList) = true := beq_iff_eq.mpr c10
        have c10b1 : (((rd_TRecord l0 x5_1).f3).toList != t535.toList) = false := bne_eq_false_iff_eq.mpr c10
        clear c10
        have H' := Aside0.mk H
        clear H
        try go_wp2
        replace HB := Aside0.mk (below_drew1 HB.out)
        have p530 : 0 ≤ (x5_1 : Int) := TD
        have q530 : x5_1 < (l0.length : Int) := TD
        obtain ⟨ad530, e530, hx530_0, hx530_1, hx530_2, hx530_3⟩ := at_TRecord HR0.out x5_1 p530 q530
        have hw530_3 := hx530_3
        have hw530_2 := hx530_2
        have hw530_1 := hx530_1
        have hw530_0 := hx530_0
        cases e530
        replace hx530_0 := hBc HB hx530_0
        replace hx530_1 := hBc HB hx530_1
        replace hx530_2 := hBc HB hx530_2
        replace hx530_3 := hBc HB hx530_3
        replace p530 := eq_true p530
        replace q530 := eq_true q530
        refine start_ (n := 8) (S := fun w' => w'.cell? (ad530.add ((x5_1).toNat * 4)) = some (.string ((rd_TRecord l0 x5_1).f0)) ∧ w'.cell? ⟨(ad530.add ((x5_1).toNat * 4)).block, (ad530.add ((x5_1).toNat * 4)).off + 1, none⟩ = some (.int .i64 ((rd_TRecord l0 x5_1).f1)) ∧ w'.cell? ⟨(ad530.add ((x5_1).toNat * 4)).block, (ad530.add ((x5_1).toNat * 4)).off + 2, none⟩ = some (.int .i64 ((rd_TRecord l0 x5_1).f2)) ∧ w'.cell? ⟨(ad530.add ((x5_1).toNat * 4)).block, (ad530.add ((x5_1).toNat * 4)).off + 3, none⟩ = some (.string ((rd_TRecord l0 x5_1).f3))) (ds := []) #[false, false, false, false, false, false, false, false] KR rfl rfl ⟨((HB.out.cell (World.block_lt_of_cell? w _ hw530_0)).trans hw530_0), ((HB.out.cell (World.block_lt_of_cell? w _ hw530_1)).trans hw530_1), ((HB.out.cell (World.block_lt_of_cell? w _ hw530_2)).trans hw530_2), ((HB.out.cell (World.block_lt_of_cell? w _ hw530_3)).trans hw530_3)⟩ (fun hHeld => ?_); refine with_tabW laws_heldRecordS.tab4 laws_heldRecordS.bits4 (fun HT_ HW_ => ?_)
        generalize wr.drew = w11 at HB hx530_0 hx530_1 hx530_2 hx530_3 hHeld ⊢
        refine pA 0 12 (mL 8 1) HT_ rfl rfl ?_
        refine pA 1 13 (mL 8 3) HT_ rfl rfl ?_
        refine pA 2 14 (mL 8 7) HT_ rfl rfl ?_
        refine pA 3 15 (mL 8 15) HT_ rfl rfl ?_
        refine pA 5 17 (mL 8 47) HT_ rfl rfl ?_
        refine tA 4 16 (mL 8 63) HT_ HW_ hHeld rfl rfl (by rintro w' ⟨s0, s1, s2, s3⟩; go_simp; with_reducible rfl) ?_
        refine one_ (i := 6) (N := some 18) (mL 8 127) rfl rfl (one_of HT_.out KR) (by decide) (fun K hK => ?_)
        refine goes_ Try.func93 KR rfl #[.int .i64 x1_1] (by rfl) rfl rfl TA ?_
        with_reducible refine (laws_markText.calls k1 x1_1 t531 _ A5.out).mono ?_
        rintro e w12 ⟨rfl, hb⟩
        refine ⟨_, rfl, ?_⟩
        replace HB := BS hb
        (try clear hb)
        (try clear hb2)
        (try clear hk)
        (try clear hi)
        refine hK.out _ _ ⟨((HB.out.cell (World.block_lt_of_cell? w _ hw530_0)).trans hw530_0), ((HB.out.cell (World.block_lt_of_cell? w _ hw530_1)).trans hw530_1), ((HB.out.cell (World.block_lt_of_cell? w _ hw530_2)).trans hw530_2), ((HB.out.cell (World.block_lt_of_cell? w _ hw530_3)).trans hw530_3)⟩ (fun hHeld => ?_)
        clear hK K
        refine nA ?_
        refine pA 7 19 (mL 8 255) HT_ rfl rfl ?_
        refine done_ (done_of HT_.out KR) ?_
        have p532 : 0 ≤ (x5_1 : Int) := TD
        have q532 : x5_1 < (l0.length : Int) := TD
        obtain ⟨ad532, e532, hx532_0, hx532_1, hx532_2, hx532_3⟩ := at_TRecord (Kd.C_below HR0.out HB.out) x5_1 p532 q532
        obtain rfl : ad530 = ad532 := (by injection e532)
        replace p532 := eq_true p532
        replace q532 := eq_true q532
        have p533 : 0 ≤ (x5_1 : Int) := TD
        have q533 : x5_1 < (l0.length : Int) := TD
        obtain ⟨ad533, e533, hx533_0, hx533_1, hx533_2, hx533_3⟩ := at_TRecord (Kd.C_below HR0.out HB.out) x5_1 p533 q533
        obtain rfl : ad530 = ad533 := (by injection e533)
        replace p533 := eq_true p533
        replace q533 := eq_true q533
        try go_wp2
        replace HB := Aside0.mk (below_drew1 HB.out)
        have p534 : 0 ≤ (x5_1 : Int) := TD
        have q534 : x5_1 < (l0.length : Int) := TD
        obtain ⟨ad534, e534, hx534_0, hx534_1, hx534_2, hx534_3⟩ := at_TRecord HR0.out x5_1 p534 q534
        have hw534_3 := hx534_3
        have hw534_2 := hx534_2
        have hw534_1 := hx534_1
        have hw534_0 := hx534_0
        obtain rfl : ad530 = ad534 := (by injection e534)
        replace hx534_0 := hBc HB hx534_0
        replace hx534_1 := hBc HB hx534_1
        replace hx534_2 := hBc HB hx534_2
        replace hx534_3 := hBc HB hx534_3
        replace p534 := eq_true p534
        replace q534 := eq_true q534
        refine start_ (n := 8) (S := fun w' => w'.cell? (ad530.add ((x5_1).toNat * 4)) = some (.string ((rd_TRecord l0 x5_1).f0)) ∧ w'.cell? ⟨(ad530.add ((x5_1).toNat * 4)).block, (ad530.add ((x5_1).toNat * 4)).off + 1, none⟩ = some (.int .i64 ((rd_TRecord l0 x5_1).f1)) ∧ w'.cell? ⟨(ad530.add ((x5_1).toNat * 4)).block, (ad530.add ((x5_1).toNat * 4)).off + 2, none⟩ = some (.int .i64 ((rd_TRecord l0 x5_1).f2)) ∧ w'.cell? ⟨(ad530.add ((x5_1).toNat * 4)).block, (ad530.add ((x5_1).toNat * 4)).off + 3, none⟩ = some (.string ((rd_TRecord l0 x5_1).f3))) (ds := []) #[false, false, false, false, false, false, false, false] KR rfl rfl ⟨((HB.out.cell (World.block_lt_of_cell? w _ hw534_0)).trans hw534_0), ((HB.out.cell (World.block_lt_of_cell? w _ hw534_1)).trans hw534_1), ((HB.out.cell (World.block_lt_of_cell? w _ hw534_2)).trans hw534_2), ((HB.out.cell (World.block_lt_of_cell? w _ hw534_3)).trans hw534_3)⟩ (fun hHeld => ?_); refine with_tabW laws_heldRecordS.tab13 laws_heldRecordS.bits13 (fun HT_ HW_ => ?_)
        generalize w12.drew = w13 at HB hx534_0 hx534_1 hx534_2 hx534_3 hHeld ⊢
        refine pA 0 40 (mL 8 1) HT_ rfl rfl ?_
        refine pA 1 41 (mL 8 3) HT_ rfl rfl ?_
        refine pA 2 42 (mL 8 7) HT_ rfl rfl ?_
        refine pA 3 43 (mL 8 15) HT_ rfl rfl ?_
        refine pA 5 45 (mL 8 47) HT_ rfl rfl ?_
        refine tA 4 44 (mL 8 63) HT_ HW_ hHeld rfl rfl (by rintro w' ⟨s0, s1, s2, s3⟩; go_simp; with_reducible rfl) ?_
        refine one_ (i := 6) (N := some 46) (mL 8 127) rfl rfl (one_of HT_.out KR) (by decide) (fun K hK => ?_)
        refine goes_ Try.func93 KR rfl #[.int .i64 (wrap64 ((wrap64 ((wrap64 (x1_1 + 1)) + 1)) + 1))] (by rfl) rfl rfl TA ?_
        with_reducible refine (laws_markText.calls k1 (wrap64 ((wrap64 ((wrap64 (x1_1 + 1)) + 1)) + 1)) t535 _ A9.out).mono ?_
        rintro e w14 ⟨rfl, hb⟩
        refine ⟨_, rfl, ?_⟩
        replace HB := BS hb
        (try clear hb)
        (try clear hb2)
        (try clear hk)
        (try clear hi)
        refine hK.out _ _ ⟨((HB.out.cell (World.block_lt_of_cell? w _ hw534_0)).trans hw534_0), ((HB.out.cell (World.block_lt_of_cell? w _ hw534_1)).trans hw534_1), ((HB.out.cell (World.block_lt_of_cell? w _ hw534_2)).trans hw534_2), ((HB.out.cell (World.block_lt_of_cell? w _ hw534_3)).trans hw534_3)⟩ (fun hHeld => ?_)
        clear hK K
        refine nA ?_
        refine pA 7 47 (mL 8 255) HT_ rfl rfl ?_
        refine done_ (done_of HT_.out KR) ?_
        try go_wp2
        go_roundg k1
        case measure => have := HK1.out; omega
        case rel => exact ⟨(wrap64 ((wrap64 ((wrap64 ((wrap64 (x1_1 + 1)) + 1)) + 1)) + 1)), (wrap64 (x5_1 + 1)), TF, TF, H', ⟨TM⟩, ⟨TB⟩⟩
       ·rw [if_neg c10] at H
        have c10b0 : (((rd_TRecord l0 x5_1).f3).toList == t535.toList) = false := beq_eq_false_iff_ne.mpr c10
        have c10b1 : (((rd_TRecord l0 x5_1).f3).toList != t535.toList) = true := bne_iff_ne.mpr c10
        obtain rfl := Option.some.inj H
        try go_wp2
        replace HB := Aside0.mk (below_drew1 HB.out)
        have p530 : 0 ≤ (x5_1 : Int) := TD
        have q530 : x5_1 < (l0.length : Int) := TD
        obtain ⟨ad530, e530, hx530_0, hx530_1, hx530_2, hx530_3⟩ := at_TRecord HR0.out x5_1 p530 q530
        have hw530_3 := hx530_3
        have hw530_2 := hx530_2
        have hw530_1 := hx530_1
        have hw530_0 := hx530_0
        cases e530
        replace hx530_0 := hBc HB hx530_0
        replace hx530_1 := hBc HB hx530_1
        replace hx530_2 := hBc HB hx530_2
        replace hx530_3 := hBc HB hx530_3
        replace p530 := eq_true p530
        replace q530 := eq_true q530
        refine start_ (n := 8) (S := fun w' => w'.cell? (ad530.add ((x5_1).toNat * 4)) = some (.string ((rd_TRecord l0 x5_1).f0)) ∧ w'.cell? ⟨(ad530.add ((x5_1).toNat * 4)).block, (ad530.add ((x5_1).toNat * 4)).off + 1, none⟩ = some (.int .i64 ((rd_TRecord l0 x5_1).f1)) ∧ w'.cell? ⟨(ad530.add ((x5_1).toNat * 4)).block, (ad530.add ((x5_1).toNat * 4)).off + 2, none⟩ = some (.int .i64 ((rd_TRecord l0 x5_1).f2)) ∧ w'.cell? ⟨(ad530.add ((x5_1).toNat * 4)).block, (ad530.add ((x5_1).toNat * 4)).off + 3, none⟩ = some (.string ((rd_TRecord l0 x5_1).f3))) (ds := []) #[false, false, false, false, false, false, false, false] KR rfl rfl ⟨((HB.out.cell (World.block_lt_of_cell? w _ hw530_0)).trans hw530_0), ((HB.out.cell (World.block_lt_of_cell? w _ hw530_1)).trans hw530_1), ((HB.out.cell (World.block_lt_of_cell? w _ hw530_2)).trans hw530_2), ((HB.out.cell (World.block_lt_of_cell? w _ hw530_3)).trans hw530_3)⟩ (fun hHeld => ?_); refine with_tabW laws_heldRecordS.tab4 laws_heldRecordS.bits4 (fun HT_ HW_ => ?_)
        generalize wr.drew = w15 at HB hx530_0 hx530_1 hx530_2 hx530_3 hHeld ⊢
        refine pA 0 12 (mL 8 1) HT_ rfl rfl ?_
        refine pA 1 13 (mL 8 3) HT_ rfl rfl ?_
        refine pA 2 14 (mL 8 7) HT_ rfl rfl ?_
        refine pA 3 15 (mL 8 15) HT_ rfl rfl ?_
        refine pA 5 17 (mL 8 47) HT_ rfl rfl ?_
        refine tA 4 16 (mL 8 63) HT_ HW_ hHeld rfl rfl (by rintro w' ⟨s0, s1, s2, s3⟩; go_simp; with_reducible rfl) ?_
        refine one_ (i := 6) (N := some 18) (mL 8 127) rfl rfl (one_of HT_.out KR) (by decide) (fun K hK => ?_)
        refine goes_ Try.func93 KR rfl #[.int .i64 x1_1] (by rfl) rfl rfl TA ?_
        with_reducible refine (laws_markText.calls k1 x1_1 t531 _ A5.out).mono ?_
        rintro e w16 ⟨rfl, hb⟩
        refine ⟨_, rfl, ?_⟩
        replace HB := BS hb
        (try clear hb)
        (try clear hb2)
        (try clear hk)
        (try clear hi)
        refine hK.out _ _ ⟨((HB.out.cell (World.block_lt_of_cell? w _ hw530_0)).trans hw530_0), ((HB.out.cell (World.block_lt_of_cell? w _ hw530_1)).trans hw530_1), ((HB.out.cell (World.block_lt_of_cell? w _ hw530_2)).trans hw530_2), ((HB.out.cell (World.block_lt_of_cell? w _ hw530_3)).trans hw530_3)⟩ (fun hHeld => ?_)
        clear hK K
        refine nA ?_
        refine pA 7 19 (mL 8 255) HT_ rfl rfl ?_
        refine done_ (done_of HT_.out KR) ?_
        have p532 : 0 ≤ (x5_1 : Int) := TD
        have q532 : x5_1 < (l0.length : Int) := TD
        obtain ⟨ad532, e532, hx532_0, hx532_1, hx532_2, hx532_3⟩ := at_TRecord (Kd.C_below HR0.out HB.out) x5_1 p532 q532
        obtain rfl : ad530 = ad532 := (by injection e532)
        replace p532 := eq_true p532
        replace q532 := eq_true q532
        have p533 : 0 ≤ (x5_1 : Int) := TD
        have q533 : x5_1 < (l0.length : Int) := TD
        obtain ⟨ad533, e533, hx533_0, hx533_1, hx533_2, hx533_3⟩ := at_TRecord (Kd.C_below HR0.out HB.out) x5_1 p533 q533
        obtain rfl : ad530 = ad533 := (by injection e533)
        replace p533 := eq_true p533
        replace q533 := eq_true q533
        try go_wp2
        replace HB := Aside0.mk (below_drew1 HB.out)
        have p534 : 0 ≤ (x5_1 : Int) := TD
        have q534 : x5_1 < (l0.length : Int) := TD
        obtain ⟨ad534, e534, hx534_0, hx534_1, hx534_2, hx534_3⟩ := at_TRecord HR0.out x5_1 p534 q534
        have hw534_3 := hx534_3
        have hw534_2 := hx534_2
        have hw534_1 := hx534_1
        have hw534_0 := hx534_0
        obtain rfl : ad530 = ad534 := (by injection e534)
        replace hx534_0 := hBc HB hx534_0
        replace hx534_1 := hBc HB hx534_1
        replace hx534_2 := hBc HB hx534_2
        replace hx534_3 := hBc HB hx534_3
        replace p534 := eq_true p534
        replace q534 := eq_true q534
        refine start_ (n := 8) (S := fun w' => w'.cell? (ad530.add ((x5_1).toNat * 4)) = some (.string ((rd_TRecord l0 x5_1).f0)) ∧ w'.cell? ⟨(ad530.add ((x5_1).toNat * 4)).block, (ad530.add ((x5_1).toNat * 4)).off + 1, none⟩ = some (.int .i64 ((rd_TRecord l0 x5_1).f1)) ∧ w'.cell? ⟨(ad530.add ((x5_1).toNat * 4)).block, (ad530.add ((x5_1).toNat * 4)).off + 2, none⟩ = some (.int .i64 ((rd_TRecord l0 x5_1).f2)) ∧ w'.cell? ⟨(ad530.add ((x5_1).toNat * 4)).block, (ad530.add ((x5_1).toNat * 4)).off + 3, none⟩ = some (.string ((rd_TRecord l0 x5_1).f3))) (ds := []) #[false, false, false, false, false, false, false, false] KR rfl rfl ⟨((HB.out.cell (World.block_lt_of_cell? w _ hw534_0)).trans hw534_0), ((HB.out.cell (World.block_lt_of_cell? w _ hw534_1)).trans hw534_1), ((HB.out.cell (World.block_lt_of_cell? w _ hw534_2)).trans hw534_2), ((HB.out.cell (World.block_lt_of_cell? w _ hw534_3)).trans hw534_3)⟩ (fun hHeld => ?_); refine with_tabW laws_heldRecordS.tab13 laws_heldRecordS.bits13 (fun HT_ HW_ => ?_)
        generalize w16.drew = w17 at HB hx534_0 hx534_1 hx534_2 hx534_3 hHeld ⊢
        refine pA 0 40 (mL 8 1) HT_ rfl rfl ?_
        refine pA 1 41 (mL 8 3) HT_ rfl rfl ?_
        refine pA 2 42 (mL 8 7) HT_ rfl rfl ?_
        refine pA 3 43 (mL 8 15) HT_ rfl rfl ?_
        refine pA 5 45 (mL 8 47) HT_ rfl rfl ?_
        refine tA 4 44 (mL 8 63) HT_ HW_ hHeld rfl rfl (by rintro w' ⟨s0, s1, s2, s3⟩; go_simp; with_reducible rfl) ?_
        refine one_ (i := 6) (N := some 46) (mL 8 127) rfl rfl (one_of HT_.out KR) (by decide) (fun K hK => ?_)
        refine goes_ Try.func93 KR rfl #[.int .i64 (wrap64 ((wrap64 ((wrap64 (x1_1 + 1)) + 1)) + 1))] (by rfl) rfl rfl TA ?_
        with_reducible refine (laws_markText.calls k1 (wrap64 ((wrap64 ((wrap64 (x1_1 + 1)) + 1)) + 1)) t535 _ A9.out).mono ?_
        rintro e w18 ⟨rfl, hb⟩
        refine ⟨_, rfl, ?_⟩
        replace HB := BS hb
        (try clear hb)
        (try clear hb2)
        (try clear hk)
        (try clear hi)
        refine hK.out _ _ ⟨((HB.out.cell (World.block_lt_of_cell? w _ hw534_0)).trans hw534_0), ((HB.out.cell (World.block_lt_of_cell? w _ hw534_1)).trans hw534_1), ((HB.out.cell (World.block_lt_of_cell? w _ hw534_2)).trans hw534_2), ((HB.out.cell (World.block_lt_of_cell? w _ hw534_3)).trans hw534_3)⟩ (fun hHeld => ?_)
        clear hK K
        refine nA ?_
        refine pA 7 47 (mL 8 255) HT_ rfl rfl ?_
        refine done_ (done_of HT_.out KR) ?_
        try go_wp2
        go_ret
        exact ⟨TE, TB⟩
      ·rw [if_neg c8] at H
       have c8b0 : (((rd_TRecord l0 x5_1).f2) == (wrap64 ((wrap64 (x1_1 + 1)) + 1))) = false := beq_eq_false_iff_ne.mpr c8
       have c8b1 : (((rd_TRecord l0 x5_1).f2) != (wrap64 ((wrap64 (x1_1 + 1)) + 1))) = true := bne_iff_ne.mpr c8
       obtain rfl := Option.some.inj H
       try go_wp2
       replace HB := Aside0.mk (below_drew1 HB.out)
       have p530 : 0 ≤ (x5_1 : Int) := TD
       have q530 : x5_1 < (l0.length : Int) := TD
       obtain ⟨ad530, e530, hx530_0, hx530_1, hx530_2, hx530_3⟩ := at_TRecord HR0.out x5_1 p530 q530
       have hw530_3 := hx530_3
       have hw530_2 := hx530_2
       have hw530_1 := hx530_1
       have hw530_0 := hx530_0
       cases e530
       replace hx530_0 := hBc HB hx530_0
       replace hx530_1 := hBc HB hx530_1
       replace hx530_2 := hBc HB hx530_2
       replace hx530_3 := hBc HB hx530_3
       replace p530 := eq_true p530
       replace q530 := eq_true q530
       refine start_ (n := 8) (S := fun w' => w'.cell? (ad530.add ((x5_1).toNat * 4)) = some (.string ((rd_TRecord l0 x5_1).f0)) ∧ w'.cell? ⟨(ad530.add ((x5_1).toNat * 4)).block, (ad530.add ((x5_1).toNat * 4)).off + 1, none⟩ = some (.int .i64 ((rd_TRecord l0 x5_1).f1)) ∧ w'.cell? ⟨(ad530.add ((x5_1).toNat * 4)).block, (ad530.add ((x5_1).toNat * 4)).off + 2, none⟩ = some (.int .i64 ((rd_TRecord l0 x5_1).f2)) ∧ w'.cell? ⟨(ad530.add ((x5_1).toNat * 4)).block, (ad530.add ((x5_1).toNat * 4)).off + 3, none⟩ = some (.string ((rd_TRecord l0 x5_1).f3))) (ds := []) #[false, false, false, false, false, false, false, false] KR rfl rfl ⟨((HB.out.cell (World.block_lt_of_cell? w _ hw530_0)).trans hw530_0), ((HB.out.cell (World.block_lt_of_cell? w _ hw530_1)).trans hw530_1), ((HB.out.cell (World.block_lt_of_cell? w _ hw530_2)).trans hw530_2), ((HB.out.cell (World.block_lt_of_cell? w _ hw530_3)).trans hw530_3)⟩ (fun hHeld => ?_); refine with_tabW laws_heldRecordS.tab4 laws_heldRecordS.bits4 (fun HT_ HW_ => ?_)
       generalize wr.drew = w19 at HB hx530_0 hx530_1 hx530_2 hx530_3 hHeld ⊢
       refine pA 0 12 (mL 8 1) HT_ rfl rfl ?_
       refine pA 1 13 (mL 8 3) HT_ rfl rfl ?_
       refine pA 2 14 (mL 8 7) HT_ rfl rfl ?_
       refine pA 3 15 (mL 8 15) HT_ rfl rfl ?_
       refine pA 5 17 (mL 8 47) HT_ rfl rfl ?_
       refine tA 4 16 (mL 8 63) HT_ HW_ hHeld rfl rfl (by rintro w' ⟨s0, s1, s2, s3⟩; go_simp; with_reducible rfl) ?_
       refine one_ (i := 6) (N := some 18) (mL 8 127) rfl rfl (one_of HT_.out KR) (by decide) (fun K hK => ?_)
       refine goes_ Try.func93 KR rfl #[.int .i64 x1_1] (by rfl) rfl rfl TA ?_
       with_reducible refine (laws_markText.calls k1 x1_1 t531 _ A5.out).mono ?_
       rintro e w20 ⟨rfl, hb⟩
       refine ⟨_, rfl, ?_⟩
       replace HB := BS hb
       (try clear hb)
       (try clear hb2)
       (try clear hk)
       (try clear hi)
       refine hK.out _ _ ⟨((HB.out.cell (World.block_lt_of_cell? w _ hw530_0)).trans hw530_0), ((HB.out.cell (World.block_lt_of_cell? w _ hw530_1)).trans hw530_1), ((HB.out.cell (World.block_lt_of_cell? w _ hw530_2)).trans hw530_2), ((HB.out.cell (World.block_lt_of_cell? w _ hw530_3)).trans hw530_3)⟩ (fun hHeld => ?_)
       clear hK K
       refine nA ?_
       refine pA 7 19 (mL 8 255) HT_ rfl rfl ?_
       refine done_ (done_of HT_.out KR) ?_
       have p532 : 0 ≤ (x5_1 : Int) := TD
       have q532 : x5_1 < (l0.length : Int) := TD
       obtain ⟨ad532, e532, hx532_0, hx532_1, hx532_2, hx532_3⟩ := at_TRecord (Kd.C_below HR0.out HB.out) x5_1 p532 q532
       obtain rfl : ad530 = ad532 := (by injection e532)
       replace p532 := eq_true p532
       replace q532 := eq_true q532
       have p533 : 0 ≤ (x5_1 : Int) := TD
       have q533 : x5_1 < (l0.length : Int) := TD
       obtain ⟨ad533, e533, hx533_0, hx533_1, hx533_2, hx533_3⟩ := at_TRecord (Kd.C_below HR0.out HB.out) x5_1 p533 q533
       obtain rfl : ad530 = ad533 := (by injection e533)
       replace p533 := eq_true p533
       replace q533 := eq_true q533
       try go_wp2
       go_ret
       exact ⟨TE, TB⟩
     ·rw [if_neg c7] at H
      have c7b0 : (((rd_TRecord l0 x5_1).f1) == (wrap64 (x1_1 + 1))) = false := beq_eq_false_iff_ne.mpr c7
      have c7b1 : (((rd_TRecord l0 x5_1).f1) != (wrap64 (x1_1 + 1))) = true := bne_iff_ne.mpr c7
      obtain rfl := Option.some.inj H
      try go_wp2
      replace HB := Aside0.mk (below_drew1 HB.out)
      have p530 : 0 ≤ (x5_1 : Int) := TD
      have q530 : x5_1 < (l0.length : Int) := TD
      obtain ⟨ad530, e530, hx530_0, hx530_1, hx530_2, hx530_3⟩ := at_TRecord HR0.out x5_1 p530 q530
      have hw530_3 := hx530_3
      have hw530_2 := hx530_2
      have hw530_1 := hx530_1
      have hw530_0 := hx530_0
      cases e530
      replace hx530_0 := hBc HB hx530_0
      replace hx530_1 := hBc HB hx530_1
      replace hx530_2 := hBc HB hx530_2
      replace hx530_3 := hBc HB hx530_3
      replace p530 := eq_true p530
      replace q530 := eq_true q530
      refine start_ (n := 8) (S := fun w' => w'.cell? (ad530.add ((x5_1).toNat * 4)) = some (.string ((rd_TRecord l0 x5_1).f0)) ∧ w'.cell? ⟨(ad530.add ((x5_1).toNat * 4)).block, (ad530.add ((x5_1).toNat * 4)).off + 1, none⟩ = some (.int .i64 ((rd_TRecord l0 x5_1).f1)) ∧ w'.cell? ⟨(ad530.add ((x5_1).toNat * 4)).block, (ad530.add ((x5_1).toNat * 4)).off + 2, none⟩ = some (.int .i64 ((rd_TRecord l0 x5_1).f2)) ∧ w'.cell? ⟨(ad530.add ((x5_1).toNat * 4)).block, (ad530.add ((x5_1).toNat * 4)).off + 3, none⟩ = some (.string ((rd_TRecord l0 x5_1).f3))) (ds := []) #[false, false, false, false, false, false, false, false] KR rfl rfl ⟨((HB.out.cell (World.block_lt_of_cell? w _ hw530_0)).trans hw530_0), ((HB.out.cell (World.block_lt_of_cell? w _ hw530_1)).trans hw530_1), ((HB.out.cell (World.block_lt_of_cell? w _ hw530_2)).trans hw530_2), ((HB.out.cell (World.block_lt_of_cell? w _ hw530_3)).trans hw530_3)⟩ (fun hHeld => ?_); refine with_tabW laws_heldRecordS.tab4 laws_heldRecordS.bits4 (fun HT_ HW_ => ?_)
      generalize wr.drew = w21 at HB hx530_0 hx530_1 hx530_2 hx530_3 hHeld ⊢
      refine pA 0 12 (mL 8 1) HT_ rfl rfl ?_
      refine pA 1 13 (mL 8 3) HT_ rfl rfl ?_
      refine pA 2 14 (mL 8 7) HT_ rfl rfl ?_
      refine pA 3 15 (mL 8 15) HT_ rfl rfl ?_
      refine pA 5 17 (mL 8 47) HT_ rfl rfl ?_
      refine tA 4 16 (mL 8 63) HT_ HW_ hHeld rfl rfl (by rintro w' ⟨s0, s1, s2, s3⟩; go_simp; with_reducible rfl) ?_
      refine one_ (i := 6) (N := some 18) (mL 8 127) rfl rfl (one_of HT_.out KR) (by decide) (fun K hK => ?_)
      refine goes_ Try.func93 KR rfl #[.int .i64 x1_1] (by rfl) rfl rfl TA ?_
      with_reducible refine (laws_markText.calls k1 x1_1 t531 _ A5.out).mono ?_
      rintro e w22 ⟨rfl, hb⟩
      refine ⟨_, rfl, ?_⟩
      replace HB := BS hb
      (try clear hb)
      (try clear hb2)
      (try clear hk)
      (try clear hi)
      refine hK.out _ _ ⟨((HB.out.cell (World.block_lt_of_cell? w _ hw530_0)).trans hw530_0), ((HB.out.cell (World.block_lt_of_cell? w _ hw530_1)).trans hw530_1), ((HB.out.cell (World.block_lt_of_cell? w _ hw530_2)).trans hw530_2), ((HB.out.cell (World.block_lt_of_cell? w _ hw530_3)).trans hw530_3)⟩ (fun hHeld => ?_)
      clear hK K
      refine nA ?_
      refine pA 7 19 (mL 8 255) HT_ rfl rfl ?_
      refine done_ (done_of HT_.out KR) ?_
      have p532 : 0 ≤ (x5_1 : Int) := TD
      have q532 : x5_1 < (l0.length : Int) := TD
      obtain ⟨ad532, e532, hx532_0, hx532_1, hx532_2, hx532_3⟩ := at_TRecord (Kd.C_below HR0.out HB.out) x5_1 p532 q532
      obtain rfl : ad530 = ad532 := (by injection e532)
      replace p532 := eq_true p532
      replace q532 := eq_true q532
      try go_wp2
      go_ret
      exact ⟨TE, TB⟩
    ·rw [if_neg c6] at H
     have c6b0 : (((rd_TRecord l0 x5_1).f0).toList == t531.toList) = false := beq_eq_false_iff_ne.mpr c6
     have c6b1 : (((rd_TRecord l0 x5_1).f0).toList != t531.toList) = true := bne_iff_ne.mpr c6
     obtain rfl := Option.some.inj H
     try go_wp2
     replace HB := Aside0.mk (below_drew1 HB.out)
     have p530 : 0 ≤ (x5_1 : Int) := TD
     have q530 : x5_1 < (l0.length : Int) := TD
     obtain ⟨ad530, e530, hx530_0, hx530_1, hx530_2, hx530_3⟩ := at_TRecord HR0.out x5_1 p530 q530
     have hw530_3 := hx530_3
     have hw530_2 := hx530_2
     have hw530_1 := hx530_1
     have hw530_0 := hx530_0
     cases e530
     replace hx530_0 := hBc HB hx530_0
     replace hx530_1 := hBc HB hx530_1
     replace hx530_2 := hBc HB hx530_2
     replace hx530_3 := hBc HB hx530_3
     replace p530 := eq_true p530
     replace q530 := eq_true q530
     refine start_ (n := 8) (S := fun w' => w'.cell? (ad530.add ((x5_1).toNat * 4)) = some (.string ((rd_TRecord l0 x5_1).f0)) ∧ w'.cell? ⟨(ad530.add ((x5_1).toNat * 4)).block, (ad530.add ((x5_1).toNat * 4)).off + 1, none⟩ = some (.int .i64 ((rd_TRecord l0 x5_1).f1)) ∧ w'.cell? ⟨(ad530.add ((x5_1).toNat * 4)).block, (ad530.add ((x5_1).toNat * 4)).off + 2, none⟩ = some (.int .i64 ((rd_TRecord l0 x5_1).f2)) ∧ w'.cell? ⟨(ad530.add ((x5_1).toNat * 4)).block, (ad530.add ((x5_1).toNat * 4)).off + 3, none⟩ = some (.string ((rd_TRecord l0 x5_1).f3))) (ds := []) #[false, false, false, false, false, false, false, false] KR rfl rfl ⟨((HB.out.cell (World.block_lt_of_cell? w _ hw530_0)).trans hw530_0), ((HB.out.cell (World.block_lt_of_cell? w _ hw530_1)).trans hw530_1), ((HB.out.cell (World.block_lt_of_cell? w _ hw530_2)).trans hw530_2), ((HB.out.cell (World.block_lt_of_cell? w _ hw530_3)).trans hw530_3)⟩ (fun hHeld => ?_); refine with_tabW laws_heldRecordS.tab4 laws_heldRecordS.bits4 (fun HT_ HW_ => ?_)
     generalize wr.drew = w23 at HB hx530_0 hx530_1 hx530_2 hx530_3 hHeld ⊢
     refine pA 0 12 (mL 8 1) HT_ rfl rfl ?_
     refine pA 1 13 (mL 8 3) HT_ rfl rfl ?_
     refine pA 2 14 (mL 8 7) HT_ rfl rfl ?_
     refine pA 3 15 (mL 8 15) HT_ rfl rfl ?_
     refine pA 5 17 (mL 8 47) HT_ rfl rfl ?_
     refine tA 4 16 (mL 8 63) HT_ HW_ hHeld rfl rfl (by rintro w' ⟨s0, s1, s2, s3⟩; go_simp; with_reducible rfl) ?_
     refine one_ (i := 6) (N := some 18) (mL 8 127) rfl rfl (one_of HT_.out KR) (by decide) (fun K hK => ?_)
     refine goes_ Try.func93 KR rfl #[.int .i64 x1_1] (by rfl) rfl rfl TA ?_
     with_reducible refine (laws_markText.calls k1 x1_1 t531 _ A5.out).mono ?_
     rintro e w24 ⟨rfl, hb⟩
     refine ⟨_, rfl, ?_⟩
     replace HB := BS hb
     (try clear hb)
     (try clear hb2)
     (try clear hk)
     (try clear hi)
     refine hK.out _ _ ⟨((HB.out.cell (World.block_lt_of_cell? w _ hw530_0)).trans hw530_0), ((HB.out.cell (World.block_lt_of_cell? w _ hw530_1)).trans hw530_1), ((HB.out.cell (World.block_lt_of_cell? w _ hw530_2)).trans hw530_2), ((HB.out.cell (World.block_lt_of_cell? w _ hw530_3)).trans hw530_3)⟩ (fun hHeld => ?_)
     clear hK K
     refine nA ?_
     refine pA 7 19 (mL 8 255) HT_ rfl rfl ?_
     refine done_ (done_of HT_.out KR) ?_
     try go_wp2
     go_ret
     exact ⟨TE, TB⟩
   ·rw [if_neg c3] at H
    have c3b0 : decide (x5_1 < (l0.length : Int)) = false := decide_eq_false c3
    clear c3
    obtain rfl := Option.some.inj H
    go_wp2
    go_ret
    exact ⟨TE, TB⟩
end
section
/-! ### laws_heldEntryS: function 84 -/
def laws_heldEntryS.l0 : Nat → List (S_Entry) → Int → Int → Option (Int)
 | 0, _, _, _ => none
 | k + 1, x0, x1, x5 => if x5 < (x0.length : Int) then (if 0 ≤ x5 then ((laws_markText.f k x1).bind fun t537 => (if ((rd_TEntry x0 x5).f0).toList = t537.toList then (if ((rd_TEntry x0 x5).f1) = (wrap64 (x1 + 1)) then (if (((rd_TEntry x0 x5).f2) != ((Int.tmod (wrap64 ((wrap64 (x1 + 1)) + 1)) 3) == 0)) = true then (some (-1)) else ((laws_heldRecordS.f k ((rd_TEntry x0 x5).f3) (wrap64 ((wrap64 ((wrap64 (x1 + 1)) + 1)) + 1))).bind fun t541 => (if t541 < 0 then (some (-1)) else (if ((rd_TEntry x0 x5).f4) = t541 then (if ((rd_TEntry x0 x5).f5) = (wrap64 (t541 + 1)) then (laws_heldEntryS.l0 k x0 (wrap64 ((wrap64 (t541 + 1)) + 1)) (wrap64 (x5 + 1))) else (some (-1))) else (some (-1)))))) else (some (-1))) else (some (-1)))) else (none)) else (some x1)
def laws_heldEntryS.f (k : Nat) (l0 : List (S_Entry)) (a1 : Int) : Option (Int) := laws_heldEntryS.l0 k l0 a1 0
def laws_heldEntryS.T4 : Bool × List (List Nat × List Nat) := (true, [([], []), ([], []), ([0, 1], [0, 1]), ([2], [2]), ([3], [3]), ([], []), ([5], [5]), ([4, 6], [4, 6])])
def laws_heldEntryS.B4 : List Nat := [0, 0, 3, 7, 15, 0, 32, 127]
theorem laws_heldEntryS.tab4 : rtab .any (opsOf Try.f84 4) = laws_heldEntryS.T4 := by kernel_rfl
theorem laws_heldEntryS.bits4 : waitsOk laws_heldEntryS.T4.2 laws_heldEntryS.B4 = true := by kernel_rfl
theorem laws_heldEntryS.calls (k : Nat) (A0 : Option Addr) (c0 : Nat) (l0 : List (S_Entry)) (a1 : Int) (r : Int) (w : World) (hr0 : Kd.C k_Entry w A0 l0.length l0) (hc0 : l0.length ≤ c0) (h : laws_heldEntryS.f k l0 a1 = some r) :
  Calls Try.prog 84 #[.slice A0 l0.length c0, .int .i64 a1] w fun e w' => e = .returned (.int .i64 r) ∧ Below w.heap.size w w' := by
 have HR0 := Aside0.mk hr0
 have HC0 := Aside0.mk hc0
 clear hr0 hc0
 have HB := Aside0.mk (Below.refl w.heap.size w)
 have H : (laws_heldEntryS.l0 k l0 a1 0) = some r := h
 clear h
 have H' := Aside0.mk H
 clear H
 go_enter Try.func84, Try.ntmps84
 go_wp2
 go_loopg [1, 5] k (fun kq v1 v5 w' => ∃ (x1_1 : Int) (x5_1 : Int), v1 = .int .i64 x1_1 ∧ v5 = .int .i64 x5_1 ∧ Aside0 (laws_heldEntryS.l0 kq l0 x1_1 x5_1 = some r) ∧ Aside0 (kq ≤ k) ∧ Aside0 (Below w.heap.size w w'))
 case atStart => exact ⟨(a1), (0), TF, TF, H', ⟨Nat.le_refl _⟩, ⟨TB⟩⟩
 case round =>
  clear H'
  obtain ⟨x1_1, x5_1, rfl, rfl, HA, HK1, HB⟩ := hrel
  cases gk with
  | zero => exact absurd HA.out (by simp [laws_heldEntryS.l0])
  | succ k1 =>
   have H := HA.out
   clear HA
   simp only [laws_heldEntryS.l0] at H
   by_cases c3 : x5_1 < (l0.length : Int)
   ·rw [if_pos c3] at H
    have c3b0 : decide (x5_1 < (l0.length : Int)) = true := decide_eq_true c3
    clear c3
    obtain ⟨c4, H⟩ := ifn H
    have c4b0 : decide (0 ≤ x5_1) = true := decide_eq_true c4
    clear c4
    obtain ⟨t537, A5, H⟩ := bnd H
    by_cases c6 : ((rd_TEntry l0 x5_1).f0).toList = t537.toList
    ·rw [if_pos c6] at H
     have c6b0 : (((rd_TEntry l0 x5_1).f0).toList == t537.toList) = true := beq_iff_eq.mpr c6
     have c6b1 : (((rd_TEntry l0 x5_1).f0).toList != t537.toList) = false := bne_eq_false_iff_eq.mpr c6
     clear c6
     by_cases c7 : ((rd_TEntry l0 x5_1).f1) = (wrap64 (x1_1 + 1))
     ·rw [if_pos c7] at H
      have c7b0 : (((rd_TEntry l0 x5_1).f1) == (wrap64 (x1_1 + 1))) = true := beq_iff_eq.mpr c7
      have c7b1 : (((rd_TEntry l0 x5_1).f1) != (wrap64 (x1_1 + 1))) = false := bne_eq_false_iff_eq.mpr c7
      clear c7
      by_cases c8 : (((rd_TEntry l0 x5_1).f2) != ((Int.tmod (wrap64 ((wrap64 (x1_1 + 1)) + 1)) 3) == 0)) = true
      ·rw [if_pos c8] at H
       have c8b0 : (((rd_TEntry l0 x5_1).f2) != ((Int.tmod (wrap64 ((wrap64 (x1_1 + 1)) + 1)) 3) == 0)) = true := c8
       (try (have c8b1 : decide (((rd_TEntry l0 x5_1).f2) = ((Int.tmod (wrap64 ((wrap64 (x1_1 + 1)) + 1)) 3) == 0)) = false := by simpa using c8))
       (try (have c8b2 : (((rd_TEntry l0 x5_1).f2) == ((Int.tmod (wrap64 ((wrap64 (x1_1 + 1)) + 1)) 3) == 0)) = false := by simpa using c8))
       (try (have c8b3 : ¬ (((rd_TEntry l0 x5_1).f2) = ((Int.tmod (wrap64 ((wrap64 (x1_1 + 1)) + 1)) 3) == 0)) := by simpa using c8))
       clear c8
       obtain rfl := Option.some.inj H
       try go_wp2
       replace HB := Aside0.mk (below_drew1 HB.out)
       have p536 : 0 ≤ (x5_1 : Int) := TD
       have q536 : x5_1 < (l0.length : Int) := TD
       obtain ⟨ad536, A536_3, c536_3, e536, hx536_0, hx536_1, hx536_2, hx536_3, hx536_4, hx536_5, hl536_3, hi536_3⟩ := at_TEntry HR0.out x5_1 p536 q536
       have hw536_5 := hx536_5
       have hw536_4 := hx536_4
       have hw536_3 := hx536_3
       have hw536_2 := hx536_2
       have hw536_1 := hx536_1
       have hw536_0 := hx536_0
       cases e536
       replace hx536_0 := hBc HB hx536_0
       replace hx536_1 := hBc HB hx536_1
       replace hx536_2 := hBc HB hx536_2
       replace hx536_3 := hBc HB hx536_3
       replace hx536_4 := hBc HB hx536_4
       replace hx536_5 := hBc HB hx536_5
       have HR536_3 := Aside0.mk hi536_3
       have HC536_3 := Aside0.mk hl536_3
       clear hi536_3 hl536_3
       replace p536 := eq_true p536
       replace q536 := eq_true q536
       refine start_ (n := 8) (S := fun w' => w'.cell? (ad536.add ((x5_1).toNat * 6)) = some (.string ((rd_TEntry l0 x5_1).f0)) ∧ w'.cell? ⟨(ad536.add ((x5_1).toNat * 6)).block, (ad536.add ((x5_1).toNat * 6)).off + 1, none⟩ = some (.int .i64 ((rd_TEntry l0 x5_1).f1)) ∧ w'.cell? ⟨(ad536.add ((x5_1).toNat * 6)).block, (ad536.add ((x5_1).toNat * 6)).off + 2, none⟩ = some (.bool ((rd_TEntry l0 x5_1).f2)) ∧ w'.cell? ⟨(ad536.add ((x5_1).toNat * 6)).block, (ad536.add ((x5_1).toNat * 6)).off + 3, none⟩ = some (.slice A536_3 ((rd_TEntry l0 x5_1).f3).length c536_3) ∧ w'.cell? ⟨(ad536.add ((x5_1).toNat * 6)).block, (ad536.add ((x5_1).toNat * 6)).off + 4, none⟩ = some (.int .i64 ((rd_TEntry l0 x5_1).f4)) ∧ w'.cell? ⟨(ad536.add ((x5_1).toNat * 6)).block, (ad536.add ((x5_1).toNat * 6)).off + 5, none⟩ = some (.int .i64 ((rd_TEntry l0 x5_1).f5))) (ds := []) #[false, false, false, false, false, false, false, false] KR rfl rfl ⟨((HB.out.cell (World.block_lt_of_cell? w _ hw536_0)).trans hw536_0), ((HB.out.cell (World.block_lt_of_cell? w _ hw536_1)).trans hw536_1), ((HB.out.cell (World.block_lt_of_cell? w _ hw536_2)).trans hw536_2), ((HB.out.cell (World.block_lt_of_cell? w _ hw536_3)).trans hw536_3), ((HB.out.cell (World.block_lt_of_cell? w _ hw536_4)).trans hw536_4), ((HB.out.cell (World.block_lt_of_cell? w _ hw536_5)).trans hw536_5)⟩ (fun hHeld => ?_); refine with_tabW laws_heldEntryS.tab4 laws_heldEntryS.bits4 (fun HT_ HW_ => ?_)
       generalize wr.drew = w9 at HB HR536_3 hx536_0 hx536_1 hx536_2 hx536_3 hx536_4 hx536_5 hHeld ⊢
       refine pA 0 12 (mL 8 1) HT_ rfl rfl ?_
       refine pA 1 13 (mL 8 3) HT_ rfl rfl ?_
       refine pA 2 14 (mL 8 7) HT_ rfl rfl ?_
       refine pA 3 15 (mL 8 15) HT_ rfl rfl ?_
       refine pA 5 17 (mL 8 47) HT_ rfl rfl ?_
       refine tA 4 16 (mL 8 63) HT_ HW_ hHeld rfl rfl (by rintro w' ⟨s0, s1, s2, s3, s4, s5⟩; go_simp; with_reducible rfl) ?_
       refine one_ (i := 6) (N := some 18) (mL 8 127) rfl rfl (one_of HT_.out KR) (by decide) (fun K hK => ?_)
       refine goes_ Try.func93 KR rfl #[.int .i64 x1_1] (by rfl) rfl rfl TA ?_
       with_reducible refine (laws_markText.calls k1 x1_1 t537 _ A5.out).mono ?_
       rintro e w10 ⟨rfl, hb⟩
       refine ⟨_, rfl, ?_⟩
       replace HB := BS hb
       (try clear hb)
       (try clear hb2)
       (try clear hk)
       (try clear hi)
       refine hK.out _ _ ⟨((HB.out.cell (World.block_lt_of_cell? w _ hw536_0)).trans hw536_0), ((HB.out.cell (World.block_lt_of_cell? w _ hw536_1)).trans hw536_1), ((HB.out.cell (World.block_lt_of_cell? w _ hw536_2)).trans hw536_2), ((HB.out.cell (World.block_lt_of_cell? w _ hw536_3)).trans hw536_3), ((HB.out.cell (World.block_lt_of_cell? w _ hw536_4)).trans hw536_4), ((HB.out.cell (World.block_lt_of_cell? w _ hw536_5)).trans hw536_5)⟩ (fun hHeld => ?_)
       clear hK K
       refine nA ?_
       refine pA 7 19 (mL 8 255) HT_ rfl rfl ?_
       refine done_ (done_of HT_.out KR) ?_
       have p538 : 0 ≤ (x5_1 : Int) := TD
       have q538 : x5_1 < (l0.length : Int) := TD
       obtain ⟨ad538, A538_3, c538_3, e538, hx538_0, hx538_1, hx538_2, hx538_3, hx538_4, hx538_5, hl538_3, hi538_3⟩ := at_TEntry HR0.out x5_1 p538 q538
       have hw538_3 := hx538_3
       obtain rfl : ad536 = ad538 := (by injection e538)
       replace hx538_0 := hBc HB hx538_0
       replace hx538_1 := hBc HB hx538_1
       replace hx538_2 := hBc HB hx538_2
       replace hx538_3 := hBc HB hx538_3
       replace hx538_4 := hBc HB hx538_4
       replace hx538_5 := hBc HB hx538_5
       have HR538_3 := Aside0.mk hi538_3
       have HC538_3 := Aside0.mk hl538_3
       clear hi538_3 hl538_3
       replace p538 := eq_true p538
       replace q538 := eq_true q538
       (try (have eu_ := Option.some.inj (hx538_3.symm.trans (by first | exact hx536_3 | exact hHeld.1 | exact hHeld | exact hHeld.2.1 | exact hHeld.2 | exact hHeld.2.2.1 | exact hHeld.2.2 | exact hHeld.2.2.2.1 | exact hHeld.2.2.2 | exact hHeld.2.2.2.2.1 | exact hHeld.2.2.2.2 | exact hHeld.2.2.2.2.2.1 | exact hHeld.2.2.2.2.2 | exact hHeld.2.2.2.2.2.2.1 | exact hHeld.2.2.2.2.2.2 | exact hHeld.2.2.2.2.2.2.2.1 | exact hHeld.2.2.2.2.2.2.2 | exact hHeld.2.2.2.2.2.2.2.2.1 | exact hHeld.2.2.2.2.2.2.2.2 | exact hHeld.2.2.2.2.2.2.2.2.2.1 | exact hHeld.2.2.2.2.2.2.2.2.2)); injection eu_ with ea_ en_ ec_; subst ea_; subst ec_; clear en_))
       (try (have ea_ := Option.some.inj (hw538_3.symm.trans hw536_3); injection ea_ with ea_ en_ ec_; subst ea_; subst ec_; clear en_))
       have p539 : 0 ≤ (x5_1 : Int) := TD
       have q539 : x5_1 < (l0.length : Int) := TD
       obtain ⟨ad539, A539_3, c539_3, e539, hx539_0, hx539_1, hx539_2, hx539_3, hx539_4, hx539_5, hl539_3, hi539_3⟩ := at_TEntry HR0.out x5_1 p539 q539
       obtain rfl : ad536 = ad539 := (by injection e539)
       replace hx539_0 := hBc HB hx539_0
       replace hx539_1 := hBc HB hx539_1
       replace hx539_2 := hBc HB hx539_2
       replace hx539_3 := hBc HB hx539_3
       replace hx539_4 := hBc HB hx539_4
       replace hx539_5 := hBc HB hx539_5
       have HR539_3 := Aside0.mk hi539_3
       have HC539_3 := Aside0.mk hl539_3
       clear hi539_3 hl539_3
       replace p539 := eq_true p539
       replace q539 := eq_true q539
       have ea_ := Option.some.inj (hx538_3.symm.trans hx539_3)
       injection ea_ with ea_ en_ ec_
       subst ea_
       subst ec_
       clear en_
       try go_wp2
       go_ret
       exact ⟨TE, TB⟩
      ·rw [if_neg c8] at H
       have c8b0 : (((rd_TEntry l0 x5_1).f2) != ((Int.tmod (wrap64 ((wrap64 (x1_1 + 1)) + 1)) 3) == 0)) = false := by simpa using c8
       (try (have c8b1 : decide (((rd_TEntry l0 x5_1).f2) = ((Int.tmod (wrap64 ((wrap64 (x1_1 + 1)) + 1)) 3) == 0)) = true := by simpa using c8))
       (try (have c8b2 : (((rd_TEntry l0 x5_1).f2) == ((Int.tmod (wrap64 ((wrap64 (x1_1 + 1)) + 1)) 3) == 0)) = true := by simpa using c8))
       clear c8
       obtain ⟨t541, A11, H⟩ := bnd H
       by_cases c12 : t541 < 0
       ·rw [if_pos c12] at H
        have c12b0 : decide (t541 < 0) = true := decide_eq_true c12
        clear c12
        obtain rfl := Option.some.inj H
        try go_wp2
        replace HB := Aside0.mk (below_drew1 HB.out)
        have p536 : 0 ≤ (x5_1 : Int) := TD
        have q536 : x5_1 < (l0.length : Int) := TD
        obtain ⟨ad536, A536_3, c536_3, e536, hx536_0, hx536_1, hx536_2, hx536_3, hx536_4, hx536_5, hl536_3, hi536_3⟩ := at_TEntry HR0.out x5_1 p536 q536
        have hw536_5 := hx536_5
        have hw536_4 := hx536_4
        have hw536_3 := hx536_3
        have hw536_2 := hx536_2
        have hw536_1 := hx536_1
        have hw536_0 := hx536_0
        cases e536
        replace hx536_0 := hBc HB hx536_0
        replace hx536_1 := hBc HB hx536_1
        replace hx536_2 := hBc HB hx536_2
        replace hx536_3 := hBc HB hx536_3
        replace hx536_4 := hBc HB hx536_4
        replace hx536_5 := hBc HB hx536_5
        have HR536_3 := Aside0.mk hi536_3
        have HC536_3 := Aside0.mk hl536_3
        clear hi536_3 hl536_3
        replace p536 := eq_true p536
        replace q536 := eq_true q536
        refine start_ (n := 8) (S := fun w' => w'.cell? (ad536.add ((x5_1).toNat * 6)) = some (.string ((rd_TEntry l0 x5_1).f0)) ∧ w'.cell? ⟨(ad536.add ((x5_1).toNat * 6)).block, (ad536.add ((x5_1).toNat * 6)).off + 1, none⟩ = some (.int .i64 ((rd_TEntry l0 x5_1).f1)) ∧ w'.cell? ⟨(ad536.add ((x5_1).toNat * 6)).block, (ad536.add ((x5_1).toNat * 6)).off + 2, none⟩ = some (.bool ((rd_TEntry l0 x5_1).f2)) ∧ w'.cell? ⟨(ad536.add ((x5_1).toNat * 6)).block, (ad536.add ((x5_1).toNat * 6)).off + 3, none⟩ = some (.slice A536_3 ((rd_TEntry l0 x5_1).f3).length c536_3) ∧ w'.cell? ⟨(ad536.add ((x5_1).toNat * 6)).block, (ad536.add ((x5_1).toNat * 6)).off + 4, none⟩ = some (.int .i64 ((rd_TEntry l0 x5_1).f4)) ∧ w'.cell? ⟨(ad536.add ((x5_1).toNat * 6)).block, (ad536.add ((x5_1).toNat * 6)).off + 5, none⟩ = some (.int .i64 ((rd_TEntry l0 x5_1).f5))) (ds := []) #[false, false, false, false, false, false, false, false] KR rfl rfl ⟨((HB.out.cell (World.block_lt_of_cell? w _ hw536_0)).trans hw536_0), ((HB.out.cell (World.block_lt_of_cell? w _ hw536_1)).trans hw536_1), ((HB.out.cell (World.block_lt_of_cell? w _ hw536_2)).trans hw536_2), ((HB.out.cell (World.block_lt_of_cell? w _ hw536_3)).trans hw536_3), ((HB.out.cell (World.block_lt_of_cell? w _ hw536_4)).trans hw536_4), ((HB.out.cell (World.block_lt_of_cell? w _ hw536_5)).trans hw536_5)⟩ (fun hHeld => ?_); refine with_tabW laws_heldEntryS.tab4 laws_heldEntryS.bits4 (fun HT_ HW_ => ?_)
        generalize wr.drew = w13 at HB HR536_3 hx536_0 hx536_1 hx536_2 hx536_3 hx536_4 hx536_5 hHeld ⊢
        refine pA 0 12 (mL 8 1) HT_ rfl rfl ?_
        refine pA 1 13 (mL 8 3) HT_ rfl rfl ?_
        refine pA 2 14 (mL 8 7) HT_ rfl rfl ?_
        refine pA 3 15 (mL 8 15) HT_ rfl rfl ?_
        refine pA 5 17 (mL 8 47) HT_ rfl rfl ?_
        refine tA 4 16 (mL 8 63) HT_ HW_ hHeld rfl rfl (by rintro w' ⟨s0, s1, s2, s3, s4, s5⟩; go_simp; with_reducible rfl) ?_
        refine one_ (i := 6) (N := some 18) (mL 8 127) rfl rfl (one_of HT_.out KR) (by decide) (fun K hK => ?_)
        refine goes_ Try.func93 KR rfl #[.int .i64 x1_1] (by rfl) rfl rfl TA ?_
        with_reducible refine (laws_markText.calls k1 x1_1 t537 _ A5.out).mono ?_
        rintro e w14 ⟨rfl, hb⟩
        refine ⟨_, rfl, ?_⟩
        replace HB := BS hb
        (try clear hb)
        (try clear hb2)
        (try clear hk)
        (try clear hi)
        refine hK.out _ _ ⟨((HB.out.cell (World.block_lt_of_cell? w _ hw536_0)).trans hw536_0), ((HB.out.cell (World.block_lt_of_cell? w _ hw536_1)).trans hw536_1), ((HB.out.cell (World.block_lt_of_cell? w _ hw536_2)).trans hw536_2), ((HB.out.cell (World.block_lt_of_cell? w _ hw536_3)).trans hw536_3), ((HB.out.cell (World.block_lt_of_cell? w _ hw536_4)).trans hw536_4), ((HB.out.cell (World.block_lt_of_cell? w _ hw536_5)).trans hw536_5)⟩ (fun hHeld => ?_)
        clear hK K
        refine nA ?_
        refine pA 7 19 (mL 8 255) HT_ rfl rfl ?_
        refine done_ (done_of HT_.out KR) ?_
        have p538 : 0 ≤ (x5_1 : Int) := TD
        have q538 : x5_1 < (l0.length : Int) := TD
        obtain ⟨ad538, A538_3, c538_3, e538, hx538_0, hx538_1, hx538_2, hx538_3, hx538_4, hx538_5, hl538_3, hi538_3⟩ := at_TEntry HR0.out x5_1 p538 q538
        have hw538_3 := hx538_3
        obtain rfl : ad536 = ad538 := (by injection e538)
        replace hx538_0 := hBc HB hx538_0
        replace hx538_1 := hBc HB hx538_1
        replace hx538_2 := hBc HB hx538_2
        replace hx538_3 := hBc HB hx538_3
        replace hx538_4 := hBc HB hx538_4
        replace hx538_5 := hBc HB hx538_5
        have HR538_3 := Aside0.mk hi538_3
        have HC538_3 := Aside0.mk hl538_3
        clear hi538_3 hl538_3
        replace p538 := eq_true p538
        replace q538 := eq_true q538
        (try (have eu_ := Option.some.inj (hx538_3.symm.trans (by first | exact hx536_3 | exact hHeld.1 | exact hHeld | exact hHeld.2.1 | exact hHeld.2 | exact hHeld.2.2.1 | exact hHeld.2.2 | exact hHeld.2.2.2.1 | exact hHeld.2.2.2 | exact hHeld.2.2.2.2.1 | exact hHeld.2.2.2.2 | exact hHeld.2.2.2.2.2.1 | exact hHeld.2.2.2.2.2 | exact hHeld.2.2.2.2.2.2.1 | exact hHeld.2.2.2.2.2.2 | exact hHeld.2.2.2.2.2.2.2.1 | exact hHeld.2.2.2.2.2.2.2 | exact hHeld.2.2.2.2.2.2.2.2.1 | exact hHeld.2.2.2.2.2.2.2.2 | exact hHeld.2.2.2.2.2.2.2.2.2.1 | exact hHeld.2.2.2.2.2.2.2.2.2)); injection eu_ with ea_ en_ ec_; subst ea_; subst ec_; clear en_))
        (try (have ea_ := Option.some.inj (hw538_3.symm.trans hw536_3); injection ea_ with ea_ en_ ec_; subst ea_; subst ec_; clear en_))
        have p539 : 0 ≤ (x5_1 : Int) := TD
        have q539 : x5_1 < (l0.length : Int) := TD
        obtain ⟨ad539, A539_3, c539_3, e539, hx539_0, hx539_1, hx539_2, hx539_3, hx539_4, hx539_5, hl539_3, hi539_3⟩ := at_TEntry HR0.out x5_1 p539 q539
        obtain rfl : ad536 = ad539 := (by injection e539)
        replace hx539_0 := hBc HB hx539_0
        replace hx539_1 := hBc HB hx539_1
        replace hx539_2 := hBc HB hx539_2
        replace hx539_3 := hBc HB hx539_3
        replace hx539_4 := hBc HB hx539_4
        replace hx539_5 := hBc HB hx539_5
        have HR539_3 := Aside0.mk hi539_3
        have HC539_3 := Aside0.mk hl539_3
        clear hi539_3 hl539_3
        replace p539 := eq_true p539
        replace q539 := eq_true q539
        have ea_ := Option.some.inj (hx538_3.symm.trans hx539_3)
        injection ea_ with ea_ en_ ec_
        subst ea_
        subst ec_
        clear en_
        have p540 : 0 ≤ (x5_1 : Int) := TD
        have q540 : x5_1 < (l0.length : Int) := TD
        obtain ⟨ad540, A540_3, c540_3, e540, hx540_0, hx540_1, hx540_2, hx540_3, hx540_4, hx540_5, hl540_3, hi540_3⟩ := at_TEntry HR0.out x5_1 p540 q540
        obtain rfl : ad536 = ad540 := (by injection e540)
        replace hx540_0 := hBc HB hx540_0
        replace hx540_1 := hBc HB hx540_1
        replace hx540_2 := hBc HB hx540_2
        replace hx540_3 := hBc HB hx540_3
        replace hx540_4 := hBc HB hx540_4
        replace hx540_5 := hBc HB hx540_5
        have HR540_3 := Aside0.mk hi540_3
        have HC540_3 := Aside0.mk hl540_3
        clear hi540_3 hl540_3
        replace p540 := eq_true p540
        replace q540 := eq_true q540
        have ea_ := Option.some.inj (hx538_3.symm.trans hx540_3)
        injection ea_ with ea_ en_ ec_
        subst ea_
        subst ec_
        clear en_
        try go_wp2_with (first | ((with_reducible refine gate_callee (f := 95) rfl ?_); refine goesL_ (some 48) rfl rfl Try.func95 KR rfl #[.slice A538_3 ((rd_TEntry l0 x5_1).f3).length c538_3, .int .i64 (wrap64 ((wrap64 ((wrap64 (x1_1 + 1)) + 1)) + 1))] rfl TA ?_; (with_reducible refine (laws_heldRecordS.calls k1 _ _ ((rd_TEntry l0 x5_1).f3) (wrap64 ((wrap64 ((wrap64 (x1_1 + 1)) + 1)) + 1)) t541 _ ?side1 ?side2 A11.out).mono ?_); (case side1 => exact CW ((Kd.C_below HR540_3.out HB.out))); (case side2 => exact HC540_3.out); rintro e w15 ⟨rfl, hb⟩; refine ⟨_, rfl, ?_⟩; replace HB := BS hb; clear hb))
        go_ret
        exact ⟨TE, TB⟩
       ·rw [if_neg c12] at H
        have c12b0 : decide (t541 < 0) = false := decide_eq_false c12
        clear c12
        by_cases c16 : ((rd_TEntry l0 x5_1).f4) = t541
        ·rw [if_pos c16] at H
         have c16b0 : (((rd_TEntry l0 x5_1).f4) == t541) = true := beq_iff_eq.mpr c16
         have c16b1 : (((rd_TEntry l0 x5_1).f4) != t541) = false := bne_eq_false_iff_eq.mpr c16
         clear c16
         by_cases c17 : ((rd_TEntry l0 x5_1).f5) = (wrap64 (t541 + 1))
         ·rw [if_pos c17] at H
          have c17b0 : (((rd_TEntry l0 x5_1).f5) == (wrap64 (t541 + 1))) = true := beq_iff_eq.mpr c17
          have c17b1 : (((rd_TEntry l0 x5_1).f5) != (wrap64 (t541 + 1))) = false := bne_eq_false_iff_eq.mpr c17
          clear c17
          have H' := Aside0.mk H
          clear H
          try go_wp2
          replace HB := Aside0.mk (below_drew1 HB.out)
          have p536 : 0 ≤ (x5_1 : Int) := TD
          have q536 : x5_1 < (l0.length : Int) := TD
          obtain ⟨ad536, A536_3, c536_3, e536, hx536_0, hx536_1, hx536_2, hx536_3, hx536_4, hx536_5, hl536_3, hi536_3⟩ := at_TEntry HR0.out x5_1 p536 q536
          have hw536_5 := hx536_5
          have hw536_4 := hx536_4
          have hw536_3 := hx536_3
          have hw536_2 := hx536_2
          have hw536_1 := hx536_1
          have hw536_0 := hx536_0
          cases e536
          replace hx536_0 := hBc HB hx536_0
          replace hx536_1 := hBc HB hx536_1
          replace hx536_2 := hBc HB hx536_2
          replace hx536_3 := hBc HB hx536_3
          replace hx536_4 := hBc HB hx536_4
          replace hx536_5 := hBc HB hx536_5
          have HR536_3 := Aside0.mk hi536_3
          have HC536_3 := Aside0.mk hl536_3
          clear hi536_3 hl536_3
          replace p536 := eq_true p536
          replace q536 := eq_true q536
          refine start_ (n := 8) (S := fun w' => w'.cell? (ad536.add ((x5_1).toNat * 6)) = some (.string ((rd_TEntry l0 x5_1).f0)) ∧ w'.cell? ⟨(ad536.add ((x5_1).toNat * 6)).block, (ad536.add ((x5_1).toNat * 6)).off + 1, none⟩ = some (.int .i64 ((rd_TEntry l0 x5_1).f1)) ∧ w'.cell? ⟨(ad536.add ((x5_1).toNat * 6)).block, (ad536.add ((x5_1).toNat * 6)).off + 2, none⟩ = some (.bool ((rd_TEntry l0 x5_1).f2)) ∧ w'.cell? ⟨(ad536.add ((x5_1).toNat * 6)).block, (ad536.add ((x5_1).toNat * 6)).off + 3, none⟩ = some (.slice A536_3 ((rd_TEntry l0 x5_1).f3).length c536_3) ∧ w'.cell? ⟨(ad536.add ((x5_1).toNat * 6)).block, (ad536.add ((x5_1).toNat * 6)).off + 4, none⟩ = some (.int .i64 ((rd_TEntry l0 x5_1).f4)) ∧ w'.cell? ⟨(ad536.add ((x5_1).toNat * 6)).block, (ad536.add ((x5_1).toNat * 6)).off + 5, none⟩ = some (.int .i64 ((rd_TEntry l0 x5_1).f5))) (ds := []) #[false, false, false, false, false, false, false, false] KR rfl rfl ⟨((HB.out.cell (World.block_lt_of_cell? w _ hw536_0)).trans hw536_0), ((HB.out.cell (World.block_lt_of_cell? w _ hw536_1)).trans hw536_1), ((HB.out.cell (World.block_lt_of_cell? w _ hw536_2)).trans hw536_2), ((HB.out.cell (World.block_lt_of_cell? w _ hw536_3)).trans hw536_3), ((HB.out.cell (World.block_lt_of_cell? w _ hw536_4)).trans hw536_4), ((HB.out.cell (World.block_lt_of_cell? w _ hw536_5)).trans hw536_5)⟩ (fun hHeld => ?_); refine with_tabW laws_heldEntryS.tab4 laws_heldEntryS.bits4 (fun HT_ HW_ => ?_)
          generalize wr.drew = w18 at HB HR536_3 hx536_0 hx536_1 hx536_2 hx536_3 hx536_4 hx536_5 hHeld ⊢
          refine pA 0 12 (mL 8 1) HT_ rfl rfl ?_
          refine pA 1 13 (mL 8 3) HT_ rfl rfl ?_
          refine pA 2 14 (mL 8 7) HT_ rfl rfl ?_
          refine pA 3 15 (mL 8 15) HT_ rfl rfl ?_
          refine pA 5 17 (mL 8 47) HT_ rfl rfl ?_
          refine tA 4 16 (mL 8 63) HT_ HW_ hHeld rfl rfl (by rintro w' ⟨s0, s1, s2, s3, s4, s5⟩; go_simp; with_reducible rfl) ?_
          refine one_ (i := 6) (N := some 18) (mL 8 127) rfl rfl (one_of HT_.out KR) (by decide) (fun K hK => ?_)
          refine goes_ Try.func93 KR rfl #[.int .i64 x1_1] (by rfl) rfl rfl TA ?_
          with_reducible refine (laws_markText.calls k1 x1_1 t537 _ A5.out).mono ?_
          rintro e w19 ⟨rfl, hb⟩
          refine ⟨_, rfl, ?_⟩
          replace HB := BS hb
          (try clear hb)
          (try clear hb2)
          (try clear hk)
          (try clear hi)
          refine hK.out _ _ ⟨((HB.out.cell (World.block_lt_of_cell? w _ hw536_0)).trans hw536_0), ((HB.out.cell (World.block_lt_of_cell? w _ hw536_1)).trans hw536_1), ((HB.out.cell (World.block_lt_of_cell? w _ hw536_2)).trans hw536_2), ((HB.out.cell (World.block_lt_of_cell? w _ hw536_3)).trans hw536_3), ((HB.out.cell (World.block_lt_of_cell? w _ hw536_4)).trans hw536_4), ((HB.out.cell (World.block_lt_of_cell? w _ hw536_5)).trans hw536_5)⟩ (fun hHeld => ?_)
          clear hK K
          refine nA ?_
          refine pA 7 19 (mL 8 255) HT_ rfl rfl ?_
          refine done_ (done_of HT_.out KR) ?_
          have p538 : 0 ≤ (x5_1 : Int) := TD
          have q538 : x5_1 < (l0.length : Int) := TD
          obtain ⟨ad538, A538_3, c538_3, e538, hx538_0, hx538_1, hx538_2, hx538_3, hx538_4, hx538_5, hl538_3, hi538_3⟩ := at_TEntry HR0.out x5_1 p538 q538
          have hw538_3 := hx538_3
          obtain rfl : ad536 = ad538 := (by injection e538)
          replace hx538_0 := hBc HB hx538_0
          replace hx538_1 := hBc HB hx538_1
          replace hx538_2 := hBc HB hx538_2
          replace hx538_3 := hBc HB hx538_3
          replace hx538_4 := hBc HB hx538_4
          replace hx538_5 := hBc HB hx538_5
          have HR538_3 := Aside0.mk hi538_3
          have HC538_3 := Aside0.mk hl538_3
          clear hi538_3 hl538_3
          replace p538 := eq_true p538
          replace q538 := eq_true q538
          (try (have eu_ := Option.some.inj (hx538_3.symm.trans (by first | exact hx536_3 | exact hHeld.1 | exact hHeld | exact hHeld.2.1 | exact hHeld.2 | exact hHeld.2.2.1 | exact hHeld.2.2 | exact hHeld.2.2.2.1 | exact hHeld.2.2.2 | exact hHeld.2.2.2.2.1 | exact hHeld.2.2.2.2 | exact hHeld.2.2.2.2.2.1 | exact hHeld.2.2.2.2.2 | exact hHeld.2.2.2.2.2.2.1 | exact hHeld.2.2.2.2.2.2 | exact hHeld.2.2.2.2.2.2.2.1 | exact hHeld.2.2.2.2.2.2.2 | exact hHeld.2.2.2.2.2.2.2.2.1 | exact hHeld.2.2.2.2.2.2.2.2 | exact hHeld.2.2.2.2.2.2.2.2.2.1 | exact hHeld.2.2.2.2.2.2.2.2.2)); injection eu_ with ea_ en_ ec_; subst ea_; subst ec_; clear en_))
          (try (have ea_ := Option.some.inj (hw538_3.symm.trans hw536_3); injection ea_ with ea_ en_ ec_; subst ea_; subst ec_; clear en_))
          have p539 : 0 ≤ (x5_1 : Int) := TD
          have q539 : x5_1 < (l0.length : Int) := TD
          obtain ⟨ad539, A539_3, c539_3, e539, hx539_0, hx539_1, hx539_2, hx539_3, hx539_4, hx539_5, hl539_3, hi539_3⟩ := at_TEntry HR0.out x5_1 p539 q539
          obtain rfl : ad536 = ad539 := (by injection e539)
          replace hx539_0 := hBc HB hx539_0
          replace hx539_1 := hBc HB hx539_1
          replace hx539_2 := hBc HB hx539_2
          replace hx539_3 := hBc HB hx539_3
          replace hx539_4 := hBc HB hx539_4
          replace hx539_5 := hBc HB hx539_5
          have HR539_3 := Aside0.mk hi539_3
          have HC539_3 := Aside0.mk hl539_3
          clear hi539_3 hl539_3
          replace p539 := eq_true p539
          replace q539 := eq_true q539
          have ea_ := Option.some.inj (hx538_3.symm.trans hx539_3)
          injection ea_ with ea_ en_ ec_
          subst ea_
          subst ec_
          clear en_
          have p540 : 0 ≤ (x5_1 : Int) := TD
          have q540 : x5_1 < (l0.length : Int) := TD
          obtain ⟨ad540, A540_3, c540_3, e540, hx540_0, hx540_1, hx540_2, hx540_3, hx540_4, hx540_5, hl540_3, hi540_3⟩ := at_TEntry HR0.out x5_1 p540 q540
          obtain rfl : ad536 = ad540 := (by injection e540)
          replace hx540_0 := hBc HB hx540_0
          replace hx540_1 := hBc HB hx540_1
          replace hx540_2 := hBc HB hx540_2
          replace hx540_3 := hBc HB hx540_3
          replace hx540_4 := hBc HB hx540_4
          replace hx540_5 := hBc HB hx540_5
          have HR540_3 := Aside0.mk hi540_3
          have HC540_3 := Aside0.mk hl540_3
          clear hi540_3 hl540_3
          replace p540 := eq_true p540
          replace q540 := eq_true q540
          have ea_ := Option.some.inj (hx538_3.symm.trans hx540_3)
          injection ea_ with ea_ en_ ec_
          subst ea_
          subst ec_
          clear en_
          try go_wp2_with (first | ((with_reducible refine gate_callee (f := 95) rfl ?_); refine goesL_ (some 48) rfl rfl Try.func95 KR rfl #[.slice A538_3 ((rd_TEntry l0 x5_1).f3).length c538_3, .int .i64 (wrap64 ((wrap64 ((wrap64 (x1_1 + 1)) + 1)) + 1))] rfl TA ?_; (with_reducible refine (laws_heldRecordS.calls k1 _ _ ((rd_TEntry l0 x5_1).f3) (wrap64 ((wrap64 ((wrap64 (x1_1 + 1)) + 1)) + 1)) t541 _ ?side1 ?side2 A11.out).mono ?_); (case side1 => exact CW ((Kd.C_below HR540_3.out HB.out))); (case side2 => exact HC540_3.out); rintro e w20 ⟨rfl, hb⟩; refine ⟨_, rfl, ?_⟩; replace HB := BS hb; clear hb; have p542 : 0 ≤ (x5_1 : Int) := TD; have q542 : x5_1 < (l0.length : Int) := TD; obtain ⟨ad542, A542_3, c542_3, e542, hx542_0, hx542_1, hx542_2, hx542_3, hx542_4, hx542_5, hl542_3, hi542_3⟩ := at_TEntry HR0.out x5_1 p542 q542; have hw542_3 := hx542_3; obtain rfl : ad536 = ad542 := (by injection e542); replace hx542_0 := hBc HB hx542_0; replace hx542_1 := hBc HB hx542_1; replace hx542_2 := hBc HB hx542_2; replace hx542_3 := hBc HB hx542_3; replace hx542_4 := hBc HB hx542_4; replace hx542_5 := hBc HB hx542_5; have HR542_3 := Aside0.mk hi542_3; have HC542_3 := Aside0.mk hl542_3; clear hi542_3 hl542_3; replace p542 := eq_true p542; replace q542 := eq_true q542; (try (have eu_ := Option.some.inj (hx542_3.symm.trans (by first | exact hx540_3 | exact hHeld.1 | exact hHeld | exact hHeld.2.1 | exact hHeld.2 | exact hHeld.2.2.1 | exact hHeld.2.2 | exact hHeld.2.2.2.1 | exact hHeld.2.2.2 | exact hHeld.2.2.2.2.1 | exact hHeld.2.2.2.2 | exact hHeld.2.2.2.2.2.1 | exact hHeld.2.2.2.2.2 | exact hHeld.2.2.2.2.2.2.1 | exact hHeld.2.2.2.2.2.2 | exact hHeld.2.2.2.2.2.2.2.1 | exact hHeld.2.2.2.2.2.2.2 | exact hHeld.2.2.2.2.2.2.2.2.1 | exact hHeld.2.2.2.2.2.2.2.2 | exact hHeld.2.2.2.2.2.2.2.2.2.1 | exact hHeld.2.2.2.2.2.2.2.2.2)); injection eu_ with ea_ en_ ec_; subst ea_; subst ec_; clear en_)); (try (have ea_ := Option.some.inj (hw542_3.symm.trans hw536_3); injection ea_ with ea_ en_ ec_; subst ea_; subst ec_; clear en_)); (try (have ea_ := Option.some.inj (hw542_3.symm.trans hw538_3); injection ea_ with ea_ en_ ec_; subst ea_; subst ec_; clear en_)); have p543 : 0 ≤ (x5_1 : Int) := TD; have q543 : x5_1 < (l0.length : Int) := TD; obtain ⟨ad543, A543_3, c543_3, e543, hx543_0, hx543_1, hx543_2, hx543_3, hx543_4, hx543_5, hl543_3, hi543_3⟩ := at_TEntry HR0.out x5_1 p543 q543; obtain rfl : ad536 = ad543 := (by injection e543); replace hx543_0 := hBc HB hx543_0; replace hx543_1 := hBc HB hx543_1; replace hx543_2 := hBc HB hx543_2; replace hx543_3 := hBc HB hx543_3; replace hx543_4 := hBc HB hx543_4; replace hx543_5 := hBc HB hx543_5; have HR543_3 := Aside0.mk hi543_3; have HC543_3 := Aside0.mk hl543_3; clear hi543_3 hl543_3; replace p543 := eq_true p543; replace q543 := eq_true q543; have ea_ := Option.some.inj (hx542_3.symm.trans hx543_3); injection ea_ with ea_ en_ ec_; subst ea_; subst ec_; clear en_))
          go_roundg k1
          case measure => have := HK1.out; omega
          case rel => exact ⟨(wrap64 ((wrap64 (t541 + 1)) + 1)), (wrap64 (x5_1 + 1)), TF, TF, H', ⟨TM⟩, ⟨TB⟩⟩
         ·rw [if_neg c17] at H
          have c17b0 : (((rd_TEntry l0 x5_1).f5) == (wrap64 (t541 + 1))) = false := beq_eq_false_iff_ne.mpr c17
          have c17b1 : (((rd_TEntry l0 x5_1).f5) != (wrap64 (t541 + 1))) = true := bne_iff_ne.mpr c17
          obtain rfl := Option.some.inj H
          try go_wp2
          replace HB := Aside0.mk (below_drew1 HB.out)
          have p536 : 0 ≤ (x5_1 : Int) := TD
          have q536 : x5_1 < (l0.length : Int) := TD
          obtain ⟨ad536, A536_3, c536_3, e536, hx536_0, hx536_1, hx536_2, hx536_3, hx536_4, hx536_5, hl536_3, hi536_3⟩ := at_TEntry HR0.out x5_1 p536 q536
          have hw536_5 := hx536_5
          have hw536_4 := hx536_4
          have hw536_3 := hx536_3
          have hw536_2 := hx536_2
          have hw536_1 := hx536_1
          have hw536_0 := hx536_0
          cases e536
          replace hx536_0 := hBc HB hx536_0
          replace hx536_1 := hBc HB hx536_1
          replace hx536_2 := hBc HB hx536_2
          replace hx536_3 := hBc HB hx536_3
          replace hx536_4 := hBc HB hx536_4
          replace hx536_5 := hBc HB hx536_5
          have HR536_3 := Aside0.mk hi536_3
          have HC536_3 := Aside0.mk hl536_3
          clear hi536_3 hl536_3
          replace p536 := eq_true p536
          replace q536 := eq_true q536
          refine start_ (n := 8) (S := fun w' => w'.cell? (ad536.add ((x5_1).toNat * 6)) = some (.string ((rd_TEntry l0 x5_1).f0)) ∧ w'.cell? ⟨(ad536.add ((x5_1).toNat * 6)).block, (ad536.add ((x5_1).toNat * 6)).off + 1, none⟩ = some (.int .i64 ((rd_TEntry l0 x5_1).f1)) ∧ w'.cell? ⟨(ad536.add ((x5_1).toNat * 6)).block, (ad536.add ((x5_1).toNat * 6)).off + 2, none⟩ = some (.bool ((rd_TEntry l0 x5_1).f2)) ∧ w'.cell? ⟨(ad536.add ((x5_1).toNat * 6)).block, (ad536.add ((x5_1).toNat * 6)).off + 3, none⟩ = some (.slice A536_3 ((rd_TEntry l0 x5_1).f3).length c536_3) ∧ w'.cell? ⟨(ad536.add ((x5_1).toNat * 6)).block, (ad536.add ((x5_1).toNat * 6)).off + 4, none⟩ = some (.int .i64 ((rd_TEntry l0 x5_1).f4)) ∧ w'.cell? ⟨(ad536.add ((x5_1).toNat * 6)).block, (ad536.add ((x5_1).toNat * 6)).off + 5, none⟩ = some (.int .i64 ((rd_TEntry l0 x5_1).f5))) (ds := []) #[false, false, false, false, false, false, false, false] KR rfl rfl ⟨((HB.out.cell (World.block_lt_of_cell? w _ hw536_0)).trans hw536_0), ((HB.out.cell (World.block_lt_of_cell? w _ hw536_1)).trans hw536_1), ((HB.out.cell (World.block_lt_of_cell? w _ hw536_2)).trans hw536_2), ((HB.out.cell (World.block_lt_of_cell? w _ hw536_3)).trans hw536_3), ((HB.out.cell (World.block_lt_of_cell? w _ hw536_4)).trans hw536_4), ((HB.out.cell (World.block_lt_of_cell? w _ hw536_5)).trans hw536_5)⟩ (fun hHeld => ?_); refine with_tabW laws_heldEntryS.tab4 laws_heldEntryS.bits4 (fun HT_ HW_ => ?_)
          generalize wr.drew = w21 at HB HR536_3 hx536_0 hx536_1 hx536_2 hx536_3 hx536_4 hx536_5 hHeld ⊢
          refine pA 0 12 (mL 8 1) HT_ rfl rfl ?_
          refine pA 1 13 (mL 8 3) HT_ rfl rfl ?_
          refine pA 2 14 (mL 8 7) HT_ rfl rfl ?_
          refine pA 3 15 (mL 8 15) HT_ rfl rfl ?_
          refine pA 5 17 (mL 8 47) HT_ rfl rfl ?_
          refine tA 4 16 (mL 8 63) HT_ HW_ hHeld rfl rfl (by rintro w' ⟨s0, s1, s2, s3, s4, s5⟩; go_simp; with_reducible rfl) ?_
          refine one_ (i := 6) (N := some 18) (mL 8 127) rfl rfl (one_of HT_.out KR) (by decide) (fun K hK => ?_)
          refine goes_ Try.func93 KR rfl #[.int .i64 x1_1] (by rfl) rfl rfl TA ?_
          with_reducible refine (laws_markText.calls k1 x1_1 t537 _ A5.out).mono ?_
          rintro e w22 ⟨rfl, hb⟩
          refine ⟨_, rfl, ?_⟩
          replace HB := BS hb
          (try clear hb)
          (try clear hb2)
          (try clear hk)
          (try clear hi)
          refine hK.out _ _ ⟨((HB.out.cell (World.block_lt_of_cell? w _ hw536_0)).trans hw536_0), ((HB.out.cell (World.block_lt_of_cell? w _ hw536_1)).trans hw536_1), ((HB.out.cell (World.block_lt_of_cell? w _ hw536_2)).trans hw536_2), ((HB.out.cell (World.block_lt_of_cell? w _ hw536_3)).trans hw536_3), ((HB.out.cell (World.block_lt_of_cell? w _ hw536_4)).trans hw536_4), ((HB.out.cell (World.block_lt_of_cell? w _ hw536_5)).trans hw536_5)⟩ (fun hHeld => ?_)
          clear hK K
          refine nA ?_
          refine pA 7 19 (mL 8 255) HT_ rfl rfl ?_
          refine done_ (done_of HT_.out KR) ?_
          have p538 : 0 ≤ (x5_1 : Int) := TD
          have q538 : x5_1 < (l0.length : Int) := TD
          obtain ⟨ad538, A538_3, c538_3, e538, hx538_0, hx538_1, hx538_2, hx538_3, hx538_4, hx538_5, hl538_3, hi538_3⟩ := at_TEntry HR0.out x5_1 p538 q538
          have hw538_3 := hx538_3
          obtain rfl : ad536 = ad538 := (by injection e538)
          replace hx538_0 := hBc HB hx538_0
          replace hx538_1 := hBc HB hx538_1
          replace hx538_2 := hBc HB hx538_2
          replace hx538_3 := hBc HB hx538_3
          replace hx538_4 := hBc HB hx538_4
          replace hx538_5 := hBc HB hx538_5
          have HR538_3 := Aside0.mk hi538_3
          have HC538_3 := Aside0.mk hl538_3
          clear hi538_3 hl538_3
          replace p538 := eq_true p538
          replace q538 := eq_true q538
          (try (have eu_ := Option.some.inj (hx538_3.symm.trans (by first | exact hx536_3 | exact hHeld.1 | exact hHeld | exact hHeld.2.1 | exact hHeld.2 | exact hHeld.2.2.1 | exact hHeld.2.2 | exact hHeld.2.2.2.1 | exact hHeld.2.2.2 | exact hHeld.2.2.2.2.1 | exact hHeld.2.2.2.2 | exact hHeld.2.2.2.2.2.1 | exact hHeld.2.2.2.2.2 | exact hHeld.2.2.2.2.2.2.1 | exact hHeld.2.2.2.2.2.2 | exact hHeld.2.2.2.2.2.2.2.1 | exact hHeld.2.2.2.2.2.2.2 | exact hHeld.2.2.2.2.2.2.2.2.1 | exact hHeld.2.2.2.2.2.2.2.2 | exact hHeld.2.2.2.2.2.2.2.2.2.1 | exact hHeld.2.2.2.2.2.2.2.2.2)); injection eu_ with ea_ en_ ec_; subst ea_; subst ec_; clear en_))
          (try (have ea_ := Option.some.inj (hw538_3.symm.trans hw536_3); injection ea_ with ea_ en_ ec_; subst ea_; subst ec_; clear en_))
          (try (have ea_ := Option.some.inj (hw538_3.symm.trans hw542_3); injection ea_ with ea_ en_ ec_; subst ea_; subst ec_; clear en_))
          have p539 : 0 ≤ (x5_1 : Int) := TD
          have q539 : x5_1 < (l0.length : Int) := TD
          obtain ⟨ad539, A539_3, c539_3, e539, hx539_0, hx539_1, hx539_2, hx539_3, hx539_4, hx539_5, hl539_3, hi539_3⟩ := at_TEntry HR0.out x5_1 p539 q539
          obtain rfl : ad536 = ad539 := (by injection e539)
          replace hx539_0 := hBc HB hx539_0
          replace hx539_1 := hBc HB hx539_1
          replace hx539_2 := hBc HB hx539_2
          replace hx539_3 := hBc HB hx539_3
          replace hx539_4 := hBc HB hx539_4
          replace hx539_5 := hBc HB hx539_5
          have HR539_3 := Aside0.mk hi539_3
          have HC539_3 := Aside0.mk hl539_3
          clear hi539_3 hl539_3
          replace p539 := eq_true p539
          replace q539 := eq_true q539
          have ea_ := Option.some.inj (hx538_3.symm.trans hx539_3)
          injection ea_ with ea_ en_ ec_
          subst ea_
          subst ec_
          clear en_
          have p540 : 0 ≤ (x5_1 : Int) := TD
          have q540 : x5_1 < (l0.length : Int) := TD
          obtain ⟨ad540, A540_3, c540_3, e540, hx540_0, hx540_1, hx540_2, hx540_3, hx540_4, hx540_5, hl540_3, hi540_3⟩ := at_TEntry HR0.out x5_1 p540 q540
          obtain rfl : ad536 = ad540 := (by injection e540)
          replace hx540_0 := hBc HB hx540_0
          replace hx540_1 := hBc HB hx540_1
          replace hx540_2 := hBc HB hx540_2
          replace hx540_3 := hBc HB hx540_3
          replace hx540_4 := hBc HB hx540_4
          replace hx540_5 := hBc HB hx540_5
          have HR540_3 := Aside0.mk hi540_3
          have HC540_3 := Aside0.mk hl540_3
          clear hi540_3 hl540_3
          replace p540 := eq_true p540
          replace q540 := eq_true q540
          have ea_ := Option.some.inj (hx538_3.symm.trans hx540_3)
          injection ea_ with ea_ en_ ec_
          subst ea_
          subst ec_
          clear en_
          try go_wp2_with (first | ((with_reducible refine gate_callee (f := 95) rfl ?_); refine goesL_ (some 48) rfl rfl Try.func95 KR rfl #[.slice A538_3 ((rd_TEntry l0 x5_1).f3).length c538_3, .int .i64 (wrap64 ((wrap64 ((wrap64 (x1_1 + 1)) + 1)) + 1))] rfl TA ?_; (with_reducible refine (laws_heldRecordS.calls k1 _ _ ((rd_TEntry l0 x5_1).f3) (wrap64 ((wrap64 ((wrap64 (x1_1 + 1)) + 1)) + 1)) t541 _ ?side1 ?side2 A11.out).mono ?_); (case side1 => exact CW ((Kd.C_below HR540_3.out HB.out))); (case side2 => exact HC540_3.out); rintro e w23 ⟨rfl, hb⟩; refine ⟨_, rfl, ?_⟩; replace HB := BS hb; clear hb; have p542 : 0 ≤ (x5_1 : Int) := TD; have q542 : x5_1 < (l0.length : Int) := TD; obtain ⟨ad542, A542_3, c542_3, e542, hx542_0, hx542_1, hx542_2, hx542_3, hx542_4, hx542_5, hl542_3, hi542_3⟩ := at_TEntry HR0.out x5_1 p542 q542; have hw542_3 := hx542_3; obtain rfl : ad536 = ad542 := (by injection e542); replace hx542_0 := hBc HB hx542_0; replace hx542_1 := hBc HB hx542_1; replace hx542_2 := hBc HB hx542_2; replace hx542_3 := hBc HB hx542_3; replace hx542_4 := hBc HB hx542_4; replace hx542_5 := hBc HB hx542_5; have HR542_3 := Aside0.mk hi542_3; have HC542_3 := Aside0.mk hl542_3; clear hi542_3 hl542_3; replace p542 := eq_true p542; replace q542 := eq_true q542; (try (have eu_ := Option.some.inj (hx542_3.symm.trans (by first | exact hx540_3 | exact hHeld.1 | exact hHeld | exact hHeld.2.1 | exact hHeld.2 | exact hHeld.2.2.1 | exact hHeld.2.2 | exact hHeld.2.2.2.1 | exact hHeld.2.2.2 | exact hHeld.2.2.2.2.1 | exact hHeld.2.2.2.2 | exact hHeld.2.2.2.2.2.1 | exact hHeld.2.2.2.2.2 | exact hHeld.2.2.2.2.2.2.1 | exact hHeld.2.2.2.2.2.2 | exact hHeld.2.2.2.2.2.2.2.1 | exact hHeld.2.2.2.2.2.2.2 | exact hHeld.2.2.2.2.2.2.2.2.1 | exact hHeld.2.2.2.2.2.2.2.2 | exact hHeld.2.2.2.2.2.2.2.2.2.1 | exact hHeld.2.2.2.2.2.2.2.2.2)); injection eu_ with ea_ en_ ec_; subst ea_; subst ec_; clear en_)); (try (have ea_ := Option.some.inj (hw542_3.symm.trans hw536_3); injection ea_ with ea_ en_ ec_; subst ea_; subst ec_; clear en_)); (try (have ea_ := Option.some.inj (hw542_3.symm.trans hw538_3); injection ea_ with ea_ en_ ec_; subst ea_; subst ec_; clear en_)); have p543 : 0 ≤ (x5_1 : Int) := TD; have q543 : x5_1 < (l0.length : Int) := TD; obtain ⟨ad543, A543_3, c543_3, e543, hx543_0, hx543_1, hx543_2, hx543_3, hx543_4, hx543_5, hl543_3, hi543_3⟩ := at_TEntry HR0.out x5_1 p543 q543; obtain rfl : ad536 = ad543 := (by injection e543); replace hx543_0 := hBc HB hx543_0; replace hx543_1 := hBc HB hx543_1; replace hx543_2 := hBc HB hx543_2; replace hx543_3 := hBc HB hx543_3; replace hx543_4 := hBc HB hx543_4; replace hx543_5 := hBc HB hx543_5; have HR543_3 := Aside0.mk hi543_3; have HC543_3 := Aside0.mk hl543_3; clear hi543_3 hl543_3; replace p543 := eq_true p543; replace q543 := eq_true q543; have ea_ := Option.some.inj (hx542_3.symm.trans hx543_3); injection ea_ with ea_ en_ ec_; subst ea_; subst ec_; clear en_))
          go_ret
          exact ⟨TE, TB⟩
        ·rw [if_neg c16] at H
         have c16b0 : (((rd_TEntry l0 x5_1).f4) == t541) = false := beq_eq_false_iff_ne.mpr c16
         have c16b1 : (((rd_TEntry l0 x5_1).f4) != t541) = true := bne_iff_ne.mpr c16
         obtain rfl := Option.some.inj H
         try go_wp2
         replace HB := Aside0.mk (below_drew1 HB.out)
         have p536 : 0 ≤ (x5_1 : Int) := TD
         have q536 : x5_1 < (l0.length : Int) := TD
         obtain ⟨ad536, A536_3, c536_3, e536, hx536_0, hx536_1, hx536_2, hx536_3, hx536_4, hx536_5, hl536_3, hi536_3⟩ := at_TEntry HR0.out x5_1 p536 q536
         have hw536_5 := hx536_5
         have hw536_4 := hx536_4
         have hw536_3 := hx536_3
         have hw536_2 := hx536_2
         have hw536_1 := hx536_1
         have hw536_0 := hx536_0
         cases e536
         replace hx536_0 := hBc HB hx536_0
         replace hx536_1 := hBc HB hx536_1
         replace hx536_2 := hBc HB hx536_2
         replace hx536_3 := hBc HB hx536_3
         replace hx536_4 := hBc HB hx536_4
         replace hx536_5 := hBc HB hx536_5
         have HR536_3 := Aside0.mk hi536_3
         have HC536_3 := Aside0.mk hl536_3
         clear hi536_3 hl536_3
         replace p536 := eq_true p536
         replace q536 := eq_true q536
         refine start_ (n := 8) (S := fun w' => w'.cell? (ad536.add ((x5_1).toNat * 6)) = some (.string ((rd_TEntry l0 x5_1).f0)) ∧ w'.cell? ⟨(ad536.add ((x5_1).toNat * 6)).block, (ad536.add ((x5_1).toNat * 6)).off + 1, none⟩ = some (.int .i64 ((rd_TEntry l0 x5_1).f1)) ∧ w'.cell? ⟨(ad536.add ((x5_1).toNat * 6)).block, (ad536.add ((x5_1).toNat * 6)).off + 2, none⟩ = some (.bool ((rd_TEntry l0 x5_1).f2)) ∧ w'.cell? ⟨(ad536.add ((x5_1).toNat * 6)).block, (ad536.add ((x5_1).toNat * 6)).off + 3, none⟩ = some (.slice A536_3 ((rd_TEntry l0 x5_1).f3).length c536_3) ∧ w'.cell? ⟨(ad536.add ((x5_1).toNat * 6)).block, (ad536.add ((x5_1).toNat * 6)).off + 4, none⟩ = some (.int .i64 ((rd_TEntry l0 x5_1).f4)) ∧ w'.cell? ⟨(ad536.add ((x5_1).toNat * 6)).block, (ad536.add ((x5_1).toNat * 6)).off + 5, none⟩ = some (.int .i64 ((rd_TEntry l0 x5_1).f5))) (ds := []) #[false, false, false, false, false, false, false, false] KR rfl rfl ⟨((HB.out.cell (World.block_lt_of_cell? w _ hw536_0)).trans hw536_0), ((HB.out.cell (World.block_lt_of_cell? w _ hw536_1)).trans hw536_1), ((HB.out.cell (World.block_lt_of_cell? w _ hw536_2)).trans hw536_2), ((HB.out.cell (World.block_lt_of_cell? w _ hw536_3)).trans hw536_3), ((HB.out.cell (World.block_lt_of_cell? w _ hw536_4)).trans hw536_4), ((HB.out.cell (World.block_lt_of_cell? w _ hw536_5)).trans hw536_5)⟩ (fun hHeld => ?_); refine with_tabW laws_heldEntryS.tab4 laws_heldEntryS.bits4 (fun HT_ HW_ => ?_)
         generalize wr.drew = w24 at HB HR536_3 hx536_0 hx536_1 hx536_2 hx536_3 hx536_4 hx536_5 hHeld ⊢
         refine pA 0 12 (mL 8 1) HT_ rfl rfl ?_
         refine pA 1 13 (mL 8 3) HT_ rfl rfl ?_
         refine pA 2 14 (mL 8 7) HT_ rfl rfl ?_
         refine pA 3 15 (mL 8 15) HT_ rfl rfl ?_
         refine pA 5 17 (mL 8 47) HT_ rfl rfl ?_
         refine tA 4 16 (mL 8 63) HT_ HW_ hHeld rfl rfl (by rintro w' ⟨s0, s1, s2, s3, s4, s5⟩; go_simp; with_reducible rfl) ?_
         refine one_ (i := 6) (N := some 18) (mL 8 127) rfl rfl (one_of HT_.out KR) (by decide) (fun K hK => ?_)
         refine goes_ Try.func93 KR rfl #[.int .i64 x1_1] (by rfl) rfl rfl TA ?_
         with_reducible refine (laws_markText.calls k1 x1_1 t537 _ A5.out).mono ?_
         rintro e w25 ⟨rfl, hb⟩
         refine ⟨_, rfl, ?_⟩
         replace HB := BS hb
         (try clear hb)
         (try clear hb2)
         (try clear hk)
         (try clear hi)
         refine hK.out _ _ ⟨((HB.out.cell (World.block_lt_of_cell? w _ hw536_0)).trans hw536_0), ((HB.out.cell (World.block_lt_of_cell? w _ hw536_1)).trans hw536_1), ((HB.out.cell (World.block_lt_of_cell? w _ hw536_2)).trans hw536_2), ((HB.out.cell (World.block_lt_of_cell? w _ hw536_3)).trans hw536_3), ((HB.out.cell (World.block_lt_of_cell? w _ hw536_4)).trans hw536_4), ((HB.out.cell (World.block_lt_of_cell? w _ hw536_5)).trans hw536_5)⟩ (fun hHeld => ?_)
         clear hK K
         refine nA ?_
         refine pA 7 19 (mL 8 255) HT_ rfl rfl ?_
         refine done_ (done_of HT_.out KR) ?_
         have p538 : 0 ≤ (x5_1 : Int) := TD
         have q538 : x5_1 < (l0.length : Int) := TD
         obtain ⟨ad538, A538_3, c538_3, e538, hx538_0, hx538_1, hx538_2, hx538_3, hx538_4, hx538_5, hl538_3, hi538_3⟩ := at_TEntry HR0.out x5_1 p538 q538
         have hw538_3 := hx538_3
         obtain rfl : ad536 = ad538 := (by injection e538)
         replace hx538_0 := hBc HB hx538_0
         replace hx538_1 := hBc HB hx538_1
         replace hx538_2 := hBc HB hx538_2
         replace hx538_3 := hBc HB hx538_3
         replace hx538_4 := hBc HB hx538_4
         replace hx538_5 := hBc HB hx538_5
         have HR538_3 := Aside0.mk hi538_3
         have HC538_3 := Aside0.mk hl538_3
         clear hi538_3 hl538_3
         replace p538 := eq_true p538
         replace q538 := eq_true q538
         (try (have eu_ := Option.some.inj (hx538_3.symm.trans (by first | exact hx536_3 | exact hHeld.1 | exact hHeld | exact hHeld.2.1 | exact hHeld.2 | exact hHeld.2.2.1 | exact hHeld.2.2 | exact hHeld.2.2.2.1 | exact hHeld.2.2.2 | exact hHeld.2.2.2.2.1 | exact hHeld.2.2.2.2 | exact hHeld.2.2.2.2.2.1 | exact hHeld.2.2.2.2.2 | exact hHeld.2.2.2.2.2.2.1 | exact hHeld.2.2.2.2.2.2 | exact hHeld.2.2.2.2.2.2.2.1 | exact hHeld.2.2.2.2.2.2.2 | exact hHeld.2.2.2.2.2.2.2.2.1 | exact hHeld.2.2.2.2.2.2.2.2 | exact hHeld.2.2.2.2.2.2.2.2.2.1 | exact hHeld.2.2.2.2.2.2.2.2.2)); injection eu_ with ea_ en_ ec_; subst ea_; subst ec_; clear en_))
         (try (have ea_ := Option.some.inj (hw538_3.symm.trans hw536_3); injection ea_ with ea_ en_ ec_; subst ea_; subst ec_; clear en_))
         (try (have ea_ := Option.some.inj (hw538_3.symm.trans hw542_3); injection ea_ with ea_ en_ ec_; subst ea_; subst ec_; clear en_))
         have p539 : 0 ≤ (x5_1 : Int) := TD
         have q539 : x5_1 < (l0.length : Int) := TD
         obtain ⟨ad539, A539_3, c539_3, e539, hx539_0, hx539_1, hx539_2, hx539_3, hx539_4, hx539_5, hl539_3, hi539_3⟩ := at_TEntry HR0.out x5_1 p539 q539
         obtain rfl : ad536 = ad539 := (by injection e539)
         replace hx539_0 := hBc HB hx539_0
         replace hx539_1 := hBc HB hx539_1
         replace hx539_2 := hBc HB hx539_2
         replace hx539_3 := hBc HB hx539_3
         replace hx539_4 := hBc HB hx539_4
         replace hx539_5 := hBc HB hx539_5
         have HR539_3 := Aside0.mk hi539_3
         have HC539_3 := Aside0.mk hl539_3
         clear hi539_3 hl539_3
         replace p539 := eq_true p539
         replace q539 := eq_true q539
         have ea_ := Option.some.inj (hx538_3.symm.trans hx539_3)
         injection ea_ with ea_ en_ ec_
         subst ea_
         subst ec_
         clear en_
         have p540 : 0 ≤ (x5_1 : Int) := TD
         have q540 : x5_1 < (l0.length : Int) := TD
         obtain ⟨ad540, A540_3, c540_3, e540, hx540_0, hx540_1, hx540_2, hx540_3, hx540_4, hx540_5, hl540_3, hi540_3⟩ := at_TEntry HR0.out x5_1 p540 q540
         obtain rfl : ad536 = ad540 := (by injection e540)
         replace hx540_0 := hBc HB hx540_0
         replace hx540_1 := hBc HB hx540_1
         replace hx540_2 := hBc HB hx540_2
         replace hx540_3 := hBc HB hx540_3
         replace hx540_4 := hBc HB hx540_4
         replace hx540_5 := hBc HB hx540_5
         have HR540_3 := Aside0.mk hi540_3
         have HC540_3 := Aside0.mk hl540_3
         clear hi540_3 hl540_3
         replace p540 := eq_true p540
         replace q540 := eq_true q540
         have ea_ := Option.some.inj (hx538_3.symm.trans hx540_3)
         injection ea_ with ea_ en_ ec_
         subst ea_
         subst ec_
         clear en_
         try go_wp2_with (first | ((with_reducible refine gate_callee (f := 95) rfl ?_); refine goesL_ (some 48) rfl rfl Try.func95 KR rfl #[.slice A538_3 ((rd_TEntry l0 x5_1).f3).length c538_3, .int .i64 (wrap64 ((wrap64 ((wrap64 (x1_1 + 1)) + 1)) + 1))] rfl TA ?_; (with_reducible refine (laws_heldRecordS.calls k1 _ _ ((rd_TEntry l0 x5_1).f3) (wrap64 ((wrap64 ((wrap64 (x1_1 + 1)) + 1)) + 1)) t541 _ ?side1 ?side2 A11.out).mono ?_); (case side1 => exact CW ((Kd.C_below HR540_3.out HB.out))); (case side2 => exact HC540_3.out); rintro e w26 ⟨rfl, hb⟩; refine ⟨_, rfl, ?_⟩; replace HB := BS hb; clear hb; have p542 : 0 ≤ (x5_1 : Int) := TD; have q542 : x5_1 < (l0.length : Int) := TD; obtain ⟨ad542, A542_3, c542_3, e542, hx542_0, hx542_1, hx542_2, hx542_3, hx542_4, hx542_5, hl542_3, hi542_3⟩ := at_TEntry HR0.out x5_1 p542 q542; have hw542_3 := hx542_3; obtain rfl : ad536 = ad542 := (by injection e542); replace hx542_0 := hBc HB hx542_0; replace hx542_1 := hBc HB hx542_1; replace hx542_2 := hBc HB hx542_2; replace hx542_3 := hBc HB hx542_3; replace hx542_4 := hBc HB hx542_4; replace hx542_5 := hBc HB hx542_5; have HR542_3 := Aside0.mk hi542_3; have HC542_3 := Aside0.mk hl542_3; clear hi542_3 hl542_3; replace p542 := eq_true p542; replace q542 := eq_true q542; (try (have eu_ := Option.some.inj (hx542_3.symm.trans (by first | exact hx540_3 | exact hHeld.1 | exact hHeld | exact hHeld.2.1 | exact hHeld.2 | exact hHeld.2.2.1 | exact hHeld.2.2 | exact hHeld.2.2.2.1 | exact hHeld.2.2.2 | exact hHeld.2.2.2.2.1 | exact hHeld.2.2.2.2 | exact hHeld.2.2.2.2.2.1 | exact hHeld.2.2.2.2.2 | exact hHeld.2.2.2.2.2.2.1 | exact hHeld.2.2.2.2.2.2 | exact hHeld.2.2.2.2.2.2.2.1 | exact hHeld.2.2.2.2.2.2.2 | exact hHeld.2.2.2.2.2.2.2.2.1 | exact hHeld.2.2.2.2.2.2.2.2 | exact hHeld.2.2.2.2.2.2.2.2.2.1 | exact hHeld.2.2.2.2.2.2.2.2.2)); injection eu_ with ea_ en_ ec_; subst ea_; subst ec_; clear en_)); (try (have ea_ := Option.some.inj (hw542_3.symm.trans hw536_3); injection ea_ with ea_ en_ ec_; subst ea_; subst ec_; clear en_)); (try (have ea_ := Option.some.inj (hw542_3.symm.trans hw538_3); injection ea_ with ea_ en_ ec_; subst ea_; subst ec_; clear en_))))
         go_ret
         exact ⟨TE, TB⟩
     ·rw [if_neg c7] at H
      have c7b0 : (((rd_TEntry l0 x5_1).f1) == (wrap64 (x1_1 + 1))) = false := beq_eq_false_iff_ne.mpr c7
      have c7b1 : (((rd_TEntry l0 x5_1).f1) != (wrap64 (x1_1 + 1))) = true := bne_iff_ne.mpr c7
      obtain rfl := Option.some.inj H
      try go_wp2
      replace HB := Aside0.mk (below_drew1 HB.out)
      have p536 : 0 ≤ (x5_1 : Int) := TD
      have q536 : x5_1 < (l0.length : Int) := TD
      obtain ⟨ad536, A536_3, c536_3, e536, hx536_0, hx536_1, hx536_2, hx536_3, hx536_4, hx536_5, hl536_3, hi536_3⟩ := at_TEntry HR0.out x5_1 p536 q536
      have hw536_5 := hx536_5
      have hw536_4 := hx536_4
      have hw536_3 := hx536_3
      have hw536_2 := hx536_2
      have hw536_1 := hx536_1
      have hw536_0 := hx536_0
      cases e536
      replace hx536_0 := hBc HB hx536_0
      replace hx536_1 := hBc HB hx536_1
      replace hx536_2 := hBc HB hx536_2
      replace hx536_3 := hBc HB hx536_3
      replace hx536_4 := hBc HB hx536_4
      replace hx536_5 := hBc HB hx536_5
      have HR536_3 := Aside0.mk hi536_3
      have HC536_3 := Aside0.mk hl536_3
      clear hi536_3 hl536_3
      replace p536 := eq_true p536
      replace q536 := eq_true q536
      refine start_ (n := 8) (S := fun w' => w'.cell? (ad536.add ((x5_1).toNat * 6)) = some (.string ((rd_TEntry l0 x5_1).f0)) ∧ w'.cell? ⟨(ad536.add ((x5_1).toNat * 6)).block, (ad536.add ((x5_1).toNat * 6)).off + 1, none⟩ = some (.int .i64 ((rd_TEntry l0 x5_1).f1)) ∧ w'.cell? ⟨(ad536.add ((x5_1).toNat * 6)).block, (ad536.add ((x5_1).toNat * 6)).off + 2, none⟩ = some (.bool ((rd_TEntry l0 x5_1).f2)) ∧ w'.cell? ⟨(ad536.add ((x5_1).toNat * 6)).block, (ad536.add ((x5_1).toNat * 6)).off + 3, none⟩ = some (.slice A536_3 ((rd_TEntry l0 x5_1).f3).length c536_3) ∧ w'.cell? ⟨(ad536.add ((x5_1).toNat * 6)).block, (ad536.add ((x5_1).toNat * 6)).off + 4, none⟩ = some (.int .i64 ((rd_TEntry l0 x5_1).f4)) ∧ w'.cell? ⟨(ad536.add ((x5_1).toNat * 6)).block, (ad536.add ((x5_1).toNat * 6)).off + 5, none⟩ = some (.int .i64 ((rd_TEntry l0 x5_1).f5))) (ds := []) #[false, false, false, false, false, false, false, false] KR rfl rfl ⟨((HB.out.cell (World.block_lt_of_cell? w _ hw536_0)).trans hw536_0), ((HB.out.cell (World.block_lt_of_cell? w _ hw536_1)).trans hw536_1), ((HB.out.cell (World.block_lt_of_cell? w _ hw536_2)).trans hw536_2), ((HB.out.cell (World.block_lt_of_cell? w _ hw536_3)).trans hw536_3), ((HB.out.cell (World.block_lt_of_cell? w _ hw536_4)).trans hw536_4), ((HB.out.cell (World.block_lt_of_cell? w _ hw536_5)).trans hw536_5)⟩ (fun hHeld => ?_); refine with_tabW laws_heldEntryS.tab4 laws_heldEntryS.bits4 (fun HT_ HW_ => ?_)
      generalize wr.drew = w27 at HB HR536_3 hx536_0 hx536_1 hx536_2 hx536_3 hx536_4 hx536_5 hHeld ⊢
      refine pA 0 12 (mL 8 1) HT_ rfl rfl ?_
      refine pA 1 13 (mL 8 3) HT_ rfl rfl ?_
      refine pA 2 14 (mL 8 7) HT_ rfl rfl ?_
      refine pA 3 15 (mL 8 15) HT_ rfl rfl ?_
      refine pA 5 17 (mL 8 47) HT_ rfl rfl ?_
      refine tA 4 16 (mL 8 63) HT_ HW_ hHeld rfl rfl (by rintro w' ⟨s0, s1, s2, s3, s4, s5⟩; go_simp; with_reducible rfl) ?_
      refine one_ (i := 6) (N := some 18) (mL 8 127) rfl rfl (one_of HT_.out KR) (by decide) (fun K hK => ?_)
      refine goes_ Try.func93 KR rfl #[.int .i64 x1_1] (by rfl) rfl rfl TA ?_
      with_reducible refine (laws_markText.calls k1 x1_1 t537 _ A5.out).mono ?_
      rintro e w28 ⟨rfl, hb⟩
      refine ⟨_, rfl, ?_⟩
      replace HB := BS hb
      (try clear hb)
      (try clear hb2)
      (try clear hk)
      (try clear hi)
      refine hK.out _ _ ⟨((HB.out.cell (World.block_lt_of_cell? w _ hw536_0)).trans hw536_0), ((HB.out.cell (World.block_lt_of_cell? w _ hw536_1)).trans hw536_1), ((HB.out.cell (World.block_lt_of_cell? w _ hw536_2)).trans hw536_2), ((HB.out.cell (World.block_lt_of_cell? w _ hw536_3)).trans hw536_3), ((HB.out.cell (World.block_lt_of_cell? w _ hw536_4)).trans hw536_4), ((HB.out.cell (World.block_lt_of_cell? w _ hw536_5)).trans hw536_5)⟩ (fun hHeld => ?_)
      clear hK K
      refine nA ?_
      refine pA 7 19 (mL 8 255) HT_ rfl rfl ?_
      refine done_ (done_of HT_.out KR) ?_
      have p538 : 0 ≤ (x5_1 : Int) := TD
      have q538 : x5_1 < (l0.length : Int) := TD
      obtain ⟨ad538, A538_3, c538_3, e538, hx538_0, hx538_1, hx538_2, hx538_3, hx538_4, hx538_5, hl538_3, hi538_3⟩ := at_TEntry HR0.out x5_1 p538 q538
      have hw538_3 := hx538_3
      obtain rfl : ad536 = ad538 := (by injection e538)
      replace hx538_0 := hBc HB hx538_0
      replace hx538_1 := hBc HB hx538_1
      replace hx538_2 := hBc HB hx538_2
      replace hx538_3 := hBc HB hx538_3
      replace hx538_4 := hBc HB hx538_4
      replace hx538_5 := hBc HB hx538_5
      have HR538_3 := Aside0.mk hi538_3
      have HC538_3 := Aside0.mk hl538_3
      clear hi538_3 hl538_3
      replace p538 := eq_true p538
      replace q538 := eq_true q538
      (try (have eu_ := Option.some.inj (hx538_3.symm.trans (by first | exact hx536_3 | exact hHeld.1 | exact hHeld | exact hHeld.2.1 | exact hHeld.2 | exact hHeld.2.2.1 | exact hHeld.2.2 | exact hHeld.2.2.2.1 | exact hHeld.2.2.2 | exact hHeld.2.2.2.2.1 | exact hHeld.2.2.2.2 | exact hHeld.2.2.2.2.2.1 | exact hHeld.2.2.2.2.2 | exact hHeld.2.2.2.2.2.2.1 | exact hHeld.2.2.2.2.2.2 | exact hHeld.2.2.2.2.2.2.2.1 | exact hHeld.2.2.2.2.2.2.2 | exact hHeld.2.2.2.2.2.2.2.2.1 | exact hHeld.2.2.2.2.2.2.2.2 | exact hHeld.2.2.2.2.2.2.2.2.2.1 | exact hHeld.2.2.2.2.2.2.2.2.2)); injection eu_ with ea_ en_ ec_; subst ea_; subst ec_; clear en_))
      (try (have ea_ := Option.some.inj (hw538_3.symm.trans hw536_3); injection ea_ with ea_ en_ ec_; subst ea_; subst ec_; clear en_))
      (try (have ea_ := Option.some.inj (hw538_3.symm.trans hw542_3); injection ea_ with ea_ en_ ec_; subst ea_; subst ec_; clear en_))
      try go_wp2
      go_ret
      exact ⟨TE, TB⟩
    ·rw [if_neg c6] at H
     have c6b0 : (((rd_TEntry l0 x5_1).f0).toList == t537.toList) = false := beq_eq_false_iff_ne.mpr c6
     have c6b1 : (((rd_TEntry l0 x5_1).f0).toList != t537.toList) = true := bne_iff_ne.mpr c6
     obtain rfl := Option.some.inj H
     try go_wp2
     replace HB := Aside0.mk (below_drew1 HB.out)
     have p536 : 0 ≤ (x5_1 : Int) := TD
     have q536 : x5_1 < (l0.length : Int) := TD
     obtain ⟨ad536, A536_3, c536_3, e536, hx536_0, hx536_1, hx536_2, hx536_3, hx536_4, hx536_5, hl536_3, hi536_3⟩ := at_TEntry HR0.out x5_1 p536 q536
     have hw536_5 := hx536_5
     have hw536_4 := hx536_4
     have hw536_3 := hx536_3
     have hw536_2 := hx536_2
     have hw536_1 := hx536_1
     have hw536_0 := hx536_0
     cases e536
     replace hx536_0 := hBc HB hx536_0
     replace hx536_1 := hBc HB hx536_1
     replace hx536_2 := hBc HB hx536_2
     replace hx536_3 := hBc HB hx536_3
     replace hx536_4 := hBc HB hx536_4
     replace hx536_5 := hBc HB hx536_5
     have HR536_3 := Aside0.mk hi536_3
     have HC536_3 := Aside0.mk hl536_3
     clear hi536_3 hl536_3
     replace p536 := eq_true p536
     replace q536 := eq_true q536
     refine start_ (n := 8) (S := fun w' => w'.cell? (ad536.add ((x5_1).toNat * 6)) = some (.string ((rd_TEntry l0 x5_1).f0)) ∧ w'.cell? ⟨(ad536.add ((x5_1).toNat * 6)).block, (ad536.add ((x5_1).toNat * 6)).off + 1, none⟩ = some (.int .i64 ((rd_TEntry l0 x5_1).f1)) ∧ w'.cell? ⟨(ad536.add ((x5_1).toNat * 6)).block, (ad536.add ((x5_1).toNat * 6)).off + 2, none⟩ = some (.bool ((rd_TEntry l0 x5_1).f2)) ∧ w'.cell? ⟨(ad536.add ((x5_1).toNat * 6)).block, (ad536.add ((x5_1).toNat * 6)).off + 3, none⟩ = some (.slice A536_3 ((rd_TEntry l0 x5_1).f3).length c536_3) ∧ w'.cell? ⟨(ad536.add ((x5_1).toNat * 6)).block, (ad536.add ((x5_1).toNat * 6)).off + 4, none⟩ = some (.int .i64 ((rd_TEntry l0 x5_1).f4)) ∧ w'.cell? ⟨(ad536.add ((x5_1).toNat * 6)).block, (ad536.add ((x5_1).toNat * 6)).off + 5, none⟩ = some (.int .i64 ((rd_TEntry l0 x5_1).f5))) (ds := []) #[false, false, false, false, false, false, false, false] KR rfl rfl ⟨((HB.out.cell (World.block_lt_of_cell? w _ hw536_0)).trans hw536_0), ((HB.out.cell (World.block_lt_of_cell? w _ hw536_1)).trans hw536_1), ((HB.out.cell (World.block_lt_of_cell? w _ hw536_2)).trans hw536_2), ((HB.out.cell (World.block_lt_of_cell? w _ hw536_3)).trans hw536_3), ((HB.out.cell (World.block_lt_of_cell? w _ hw536_4)).trans hw536_4), ((HB.out.cell (World.block_lt_of_cell? w _ hw536_5)).trans hw536_5)⟩ (fun hHeld => ?_); refine with_tabW laws_heldEntryS.tab4 laws_heldEntryS.bits4 (fun HT_ HW_ => ?_)
     generalize wr.drew = w29 at HB HR536_3 hx536_0 hx536_1 hx536_2 hx536_3 hx536_4 hx536_5 hHeld ⊢
     refine pA 0 12 (mL 8 1) HT_ rfl rfl ?_
     refine pA 1 13 (mL 8 3) HT_ rfl rfl ?_
     refine pA 2 14 (mL 8 7) HT_ rfl rfl ?_
     refine pA 3 15 (mL 8 15) HT_ rfl rfl ?_
     refine pA 5 17 (mL 8 47) HT_ rfl rfl ?_
     refine tA 4 16 (mL 8 63) HT_ HW_ hHeld rfl rfl (by rintro w' ⟨s0, s1, s2, s3, s4, s5⟩; go_simp; with_reducible rfl) ?_
     refine one_ (i := 6) (N := some 18) (mL 8 127) rfl rfl (one_of HT_.out KR) (by decide) (fun K hK => ?_)
     refine goes_ Try.func93 KR rfl #[.int .i64 x1_1] (by rfl) rfl rfl TA ?_
     with_reducible refine (laws_markText.calls k1 x1_1 t537 _ A5.out).mono ?_
     rintro e w30 ⟨rfl, hb⟩
     refine ⟨_, rfl, ?_⟩
     replace HB := BS hb
     (try clear hb)
     (try clear hb2)
     (try clear hk)
     (try clear hi)
     refine hK.out _ _ ⟨((HB.out.cell (World.block_lt_of_cell? w _ hw536_0)).trans hw536_0), ((HB.out.cell (World.block_lt_of_cell? w _ hw536_1)).trans hw536_1), ((HB.out.cell (World.block_lt_of_cell? w _ hw536_2)).trans hw536_2), ((HB.out.cell (World.block_lt_of_cell? w _ hw536_3)).trans hw536_3), ((HB.out.cell (World.block_lt_of_cell? w _ hw536_4)).trans hw536_4), ((HB.out.cell (World.block_lt_of_cell? w _ hw536_5)).trans hw536_5)⟩ (fun hHeld => ?_)
     clear hK K
     refine nA ?_
     refine pA 7 19 (mL 8 255) HT_ rfl rfl ?_
     refine done_ (done_of HT_.out KR) ?_
     try go_wp2
     go_ret
     exact ⟨TE, TB⟩
   ·rw [if_neg c3] at H
    have c3b0 : decide (x5_1 < (l0.length : Int)) = false := decide_eq_false c3
    clear c3
    obtain rfl := Option.some.inj H
    go_wp2
    go_ret
    exact ⟨TE, TB⟩
end
section
/-! ### laws_heldCache: function 57 -/
def laws_heldCache.f (k : Nat) (a0_0 : Int) (l0_1 : List (S_Entry)) (a1 : Int) : Option (Int) := (laws_heldEntryS.f k l0_1 a1).bind fun t545 => (if t545 < 0 then (some (-1)) else (some t545))
theorem laws_heldCache.calls (k : Nat) (a0_0 : Int) (A0_1 : Option Addr) (c0_1 : Nat) (l0_1 : List (S_Entry)) (a1 : Int) (r : Int) (w : World) (hr0_1 : Kd.C k_Entry w A0_1 l0_1.length l0_1) (hc0_1 : l0_1.length ≤ c0_1) (h : laws_heldCache.f k a0_0 l0_1 a1 = some r) :
  Calls Try.prog 57 #[.agg #[.int .i64 a0_0, .slice A0_1 l0_1.length c0_1], .int .i64 a1] w fun e w' => e = .returned (.int .i64 r) ∧ Below w.heap.size w w' := by
 have hu70 := Try.underlying70
 have HR0_1 := Aside0.mk hr0_1
 have HC0_1 := Aside0.mk hc0_1
 clear hr0_1 hc0_1
 have HB := Aside0.mk (Below.refl w.heap.size w)
 have H : ((laws_heldEntryS.f k l0_1 a1).bind fun t545 => (if t545 < 0 then (some (-1)) else (some t545))) = some r := h
 clear h
 obtain ⟨t545, A3, H⟩ := bnd H
 by_cases c4 : t545 < 0
 ·rw [if_pos c4] at H
  have c4b0 : decide (t545 < 0) = true := decide_eq_true c4
  clear c4
  obtain rfl := Option.some.inj H
  go_enter Try.func57, Try.ntmps57
  go_wp2_with (first | ((with_reducible refine gate_dst (N := 2) rfl ?_); refine bE 2 #[.int .i64 a0_0, .slice A0_1 l0_1.length c0_1] 70 ?_; intro gb544 hg w5 hbox hb; have BK544 := Aside0.mk (hbox); have GE544 := bG hg; replace HB := BS hb; clear hb hbox hg; have hcz6 := cz2 BK544) | ((with_reducible refine gate_callee (f := 84) rfl ?_); refine goesL_ (some 8) rfl rfl Try.func84 KR rfl #[.slice A0_1 l0_1.length c0_1, .int .i64 a1] rfl TA ?_; (with_reducible refine (laws_heldEntryS.calls k _ _ l0_1 a1 t545 _ ?side1 ?side2 A3.out).mono ?_); (case side1 => exact CW ((Kd.C_below HR0_1.out HB.out))); (case side2 => exact HC0_1.out); rintro e w7 ⟨rfl, hb⟩; refine ⟨_, rfl, ?_⟩; replace BK544 := KB BK544 hb; replace HB := BS hb; clear hb))
  go_ret
  exact ⟨TE, TB⟩
 ·rw [if_neg c4] at H
  have c4b0 : decide (t545 < 0) = false := decide_eq_false c4
  clear c4
  obtain rfl := Option.some.inj H
  go_enter Try.func57, Try.ntmps57
  go_wp2_with (first | ((with_reducible refine gate_dst (N := 2) rfl ?_); refine bE 2 #[.int .i64 a0_0, .slice A0_1 l0_1.length c0_1] 70 ?_; intro gb544 hg w8 hbox hb; have BK544 := Aside0.mk (hbox); have GE544 := bG hg; replace HB := BS hb; clear hb hbox hg; have hcz9 := cz2 BK544) | ((with_reducible refine gate_callee (f := 84) rfl ?_); refine goesL_ (some 8) rfl rfl Try.func84 KR rfl #[.slice A0_1 l0_1.length c0_1, .int .i64 a1] rfl TA ?_; (with_reducible refine (laws_heldEntryS.calls k _ _ l0_1 a1 t545 _ ?side1 ?side2 A3.out).mono ?_); (case side1 => exact CW ((Kd.C_below HR0_1.out HB.out))); (case side2 => exact HC0_1.out); rintro e w10 ⟨rfl, hb⟩; refine ⟨_, rfl, ?_⟩; replace BK544 := KB BK544 hb; replace HB := BS hb; clear hb))
  go_ret
  exact ⟨TE, TB⟩
end
section
/-! ### laws_FnExactNewCache: function 14 -/
def laws_FnExactNewCache.f (k : Nat)  : Option (Bool) := (spec_NewCache.f).bind fun bt546 => ((impl_NewCache.f).bind fun bt551 => ((laws_eqCache.f k bt551.1 bt551.2 bt546.1 bt546.2).bind fun t556 => (if t556 = true then ((laws_markCache.f bt551.1 bt551.2 1).bind fun t557 => ((laws_heldCache.f k bt551.1 bt551.2 1).bind fun t558 => (if t558 < 0 then (some false) else (if t558 = t557 then ((impl_NewCache.f).bind fun bt559 => ((laws_eqCache.f k bt559.1 bt559.2 bt546.1 bt546.2).bind fun t564 => (if t564 = true then ((laws_heldCache.f k bt551.1 bt551.2 1).bind fun t565 => (if t565 < 0 then (some false) else (if t565 = t557 then (some true) else (some false)))) else (some false)))) else (some false))))) else (some false))))
theorem laws_FnExactNewCache.calls (k : Nat)  (r : Bool) (w : World) (h : laws_FnExactNewCache.f k  = some r) :
  Calls Try.prog 14 #[] w fun e w' => e = .returned (.bool r) ∧ Below w.heap.size w w' := by
 have hu70 := Try.underlying70
 have HB := Aside0.mk (Below.refl w.heap.size w)
 have H : ((spec_NewCache.f).bind fun bt546 => ((impl_NewCache.f).bind fun bt551 => ((laws_eqCache.f k bt551.1 bt551.2 bt546.1 bt546.2).bind fun t556 => (if t556 = true then ((laws_markCache.f bt551.1 bt551.2 1).bind fun t557 => ((laws_heldCache.f k bt551.1 bt551.2 1).bind fun t558 => (if t558 < 0 then (some false) else (if t558 = t557 then ((impl_NewCache.f).bind fun bt559 => ((laws_eqCache.f k bt559.1 bt559.2 bt546.1 bt546.2).bind fun t564 => (if t564 = true then ((laws_heldCache.f k bt551.1 bt551.2 1).bind fun t565 => (if t565 < 0 then (some false) else (if t565 = t557 then (some true) else (some false)))) else (some false)))) else (some false))))) else (some false))))) = some r := h
 clear h
 obtain ⟨⟨t546, t547⟩, A1, H⟩ := bnd H
 try dsimp only at H
 obtain ⟨⟨t551, t552⟩, A2, H⟩ := bnd H
 try dsimp only at H
 obtain ⟨t556, A3, H⟩ := bnd H
 by_cases c4 : t556 = true
 ·subst c4
  replace H := ift H
  obtain ⟨t557, A5, H⟩ := bnd H
  obtain ⟨t558, A6, H⟩ := bnd H
  by_cases c7 : t558 < 0
  ·rw [if_pos c7] at H
   have c7b0 : decide (t558 < 0) = true := decide_eq_true c7
   clear c7
   obtain rfl := Option.some.inj H
   go_enter Try.func14, Try.ntmps14
   go_wp2_with (first | ((with_reducible refine gate_callee (f := 53) rfl ?_); refine goesL_ (some 6) rfl rfl Try.func53 KR rfl #[] rfl TA ?_; (with_reducible refine (spec_NewCache.calls  t546 t547 _ A1.out).mono ?_); rintro e w8 ⟨v548, rfl, ho0, hb⟩; refine ⟨_, rfl, ?_⟩; have HO549 := Aside0.mk (Kd.S_lower ho0 (below_size TB)); replace HB := BS hb; clear hb; (try clear ho0)) | ((with_reducible refine gate_dst (N := 1) rfl ?_); refine bE 1 #[.int .i64 0, .slice none 0 0] 70 ?_; intro gb550 hg w9 hbox hb; replace HO549 := Aside0.mk (Kd.S_below (by (with_reducible repeat (first | apply Kd.S_alloc | apply Kd.S_drewN | apply Kd.S_drew)); exact HO549.out) hb); have BK550 := Aside0.mk (hbox); have GE550 := bG hg; replace HB := BS hb; clear hb hbox hg; have hcz10 := cz2 BK550; obtain ⟨Ao11, co11, eo11⟩ := Kd.S_slice HO549.out; subst eo11) | ((with_reducible refine gate_callee (f := 54) rfl ?_); refine goesL_ (some 7) rfl rfl Try.func54 KR rfl #[] rfl TA ?_; (with_reducible refine (impl_NewCache.calls  t551 t552 _ A2.out).mono ?_); rintro e w12 ⟨v553, rfl, ho0, hb⟩; refine ⟨_, rfl, ?_⟩; have HO554 := Aside0.mk (Kd.S_lower (Kd.S_new' ho0 (Kd.S_lt (by (with_reducible repeat (first | apply Kd.S_alloc | apply Kd.S_drewN | apply Kd.S_drew)); exact (Kd.S_mono (Kd.S_far (p := ⟨gb550, 1, none⟩) (Kd.S_far (p := ⟨gb550, 0, none⟩) (Kd.S_types HO549.out BK550.out (by decide)) (fun _ hk => hk.2) (.int .i64 t546)) (fun _ hk => hk.2) (.slice Ao11 t547.length co11)) (fun _ h_ => h_.1))))) (below_size TB)); replace HO549 := Aside0.mk (Kd.S_elder' (by (with_reducible repeat (first | apply Kd.S_alloc | apply Kd.S_drewN | apply Kd.S_drew)); exact (Kd.S_mono (Kd.S_far (p := ⟨gb550, 1, none⟩) (Kd.S_far (p := ⟨gb550, 0, none⟩) (Kd.S_types HO549.out BK550.out (by decide)) (fun _ hk => hk.2) (.int .i64 t546)) (fun _ hk => hk.2) (.slice Ao11 t547.length co11)) (fun _ h_ => h_.1))) (Kd.S_base ho0) hb); replace BK550 := KP BK550 #[.int .i64 t546, .slice Ao11 t547.length co11] hb; replace HB := BS hb; clear hb; (try clear ho0)) | ((with_reducible refine gate_dst (N := 2) rfl ?_); refine bE 2 #[.int .i64 0, .slice none 0 0] 70 ?_; intro gb555 hg w13 hbox hb; replace HO549 := Aside0.mk (Kd.S_below (by (with_reducible repeat (first | apply Kd.S_alloc | apply Kd.S_drewN | apply Kd.S_drew)); exact HO549.out) hb); replace HO554 := Aside0.mk (Kd.S_below (by (with_reducible repeat (first | apply Kd.S_alloc | apply Kd.S_drewN | apply Kd.S_drew)); exact HO554.out) hb); have BK555 := Aside0.mk (hbox); have GE555 := bG hg; replace HB := BS hb; have NB550_555 := bN BK550 hg; have NB555_550 := bM BK550 hg; replace BK550 := KB BK550 hb; clear hb hbox hg; obtain ⟨hnb14, hnc14⟩ := nn NB555_550; have hcz15 := cz2 BK555; obtain ⟨Ao16, co16, eo16⟩ := Kd.S_slice HO554.out; subst eo16; have hcz17 := cz2 BK550) | ((with_reducible refine gate_callee (f := 55) rfl ?_); refine goesL_ (some 10) rfl rfl Try.func55 KR rfl #[.agg #[.int .i64 t551, .slice Ao16 t552.length co16], .agg #[.int .i64 t546, .slice Ao11 t547.length co11]] rfl TA ?_; (with_reducible refine (laws_eqCache.calls k t551 _ _ t552 t546 _ _ t547 true _ ?side1 ?side2 ?side3 ?side4 A3.out).mono ?_); (case side1 => refine (Kd.S_reads' (e := 107) (base := w.heap.size) (ok := fun k_ => (True ∧ some k_ ≠ (.slice Ao11 t547.length co11 : Value).ownBlock)) (n := t552.length) (c := co16) ?_).2.2; exact (by (with_reducible repeat (first | apply Kd.S_alloc | apply Kd.S_drewN | apply Kd.S_drew)); exact (Kd.S_mono (Kd.S_far (p := ⟨gb555, 1, none⟩) (Kd.S_far (p := ⟨gb555, 0, none⟩) (Kd.S_types HO554.out BK555.out (by decide)) (fun _ hk => hk.2) (.int .i64 t551)) (fun _ hk => hk.2) (.slice Ao16 t552.length co16)) (fun _ h_ => h_.1)))); (case side2 => exact (Kd.S_reads' HO554.out).2.1); (case side3 => refine (Kd.S_reads' (e := 107) (base := w.heap.size) (ok := fun k_ => (True ∧ some k_ ≠ (.slice Ao16 t552.length co16 : Value).ownBlock)) (n := t547.length) (c := co11) ?_).2.2; exact (by (with_reducible repeat (first | apply Kd.S_alloc | apply Kd.S_drewN | apply Kd.S_drew)); exact (Kd.S_mono (Kd.S_far (p := ⟨gb555, 1, none⟩) (Kd.S_far (p := ⟨gb555, 0, none⟩) (Kd.S_types HO549.out BK555.out (by decide)) (fun _ hk => hk.2) (.int .i64 t551)) (fun _ hk => hk.2) (.slice Ao16 t552.length co16)) (fun _ h_ => h_.1)))); (case side4 => exact (Kd.S_reads' HO549.out).2.1); rintro e w18 ⟨rfl, hb⟩; refine ⟨_, rfl, ?_⟩; replace HO549 := Aside0.mk (Kd.S_below (by (with_reducible repeat (first | apply Kd.S_alloc | apply Kd.S_drewN | apply Kd.S_drew)); exact (Kd.S_mono (Kd.S_far (p := ⟨gb555, 1, none⟩) (Kd.S_far (p := ⟨gb555, 0, none⟩) (Kd.S_types HO549.out BK555.out (by decide)) (fun _ hk => hk.2) (.int .i64 t551)) (fun _ hk => hk.2) (.slice Ao16 t552.length co16)) (fun _ h_ => h_.1))) hb); replace HO554 := Aside0.mk (Kd.S_below (by (with_reducible repeat (first | apply Kd.S_alloc | apply Kd.S_drewN | apply Kd.S_drew)); exact (Kd.S_mono (Kd.S_far (p := ⟨gb555, 1, none⟩) (Kd.S_far (p := ⟨gb555, 0, none⟩) (Kd.S_types HO554.out BK555.out (by decide)) (fun _ hk => hk.2) (.int .i64 t551)) (fun _ hk => hk.2) (.slice Ao16 t552.length co16)) (fun _ h_ => h_.1))) hb); replace BK550 := KF BK550 hb; replace BK555 := KP BK555 #[.int .i64 t551, .slice Ao16 t552.length co16] hb; replace HB := BS hb; clear hb; have hcz19 := cz2 BK555) | ((with_reducible refine gate_callee (f := 56) rfl ?_); refine goesL_ (some 14) rfl rfl Try.func56 KR rfl #[.agg #[.int .i64 t551, .slice Ao16 t552.length co16], .int .i64 1] rfl TA ?_; (with_reducible refine (laws_markCache.calls t551 _ _ t552 1 t557 _ ?side1 ?side2 A5.out).mono ?_); (case side1 => exact CW ((Kd.S_reads' HO554.out).2.2)); (case side2 => exact (Kd.S_reads' HO554.out).2.1); rintro e w20 ⟨rfl, hb⟩; refine ⟨_, rfl, ?_⟩; replace HO549 := Aside0.mk (Kd.S_below (by (with_reducible repeat (first | apply Kd.S_alloc | apply Kd.S_drewN | apply Kd.S_drew)); exact HO549.out) hb); replace HO554 := Aside0.mk (Kd.S_below (by (with_reducible repeat (first | apply Kd.S_alloc | apply Kd.S_drewN | apply Kd.S_drew)); exact HO554.out) hb); replace BK550 := KB BK550 hb; replace BK555 := KB BK555 hb; replace HB := BS hb; clear hb; have hcz21 := cz2 BK555) | ((with_reducible refine gate_callee (f := 57) rfl ?_); refine goesL_ (some 17) rfl rfl Try.func57 KR rfl #[.agg #[.int .i64 t551, .slice Ao16 t552.length co16], .int .i64 1] rfl TA ?_; (with_reducible refine (laws_heldCache.calls k t551 _ _ t552 1 t558 _ ?side1 ?side2 A6.out).mono ?_); (case side1 => exact CW ((Kd.S_reads' HO554.out).2.2)); (case side2 => exact (Kd.S_reads' HO554.out).2.1); rintro e w22 ⟨rfl, hb⟩; refine ⟨_, rfl, ?_⟩; replace HO549 := Aside0.mk (Kd.S_below (by (with_reducible repeat (first | apply Kd.S_alloc | apply Kd.S_drewN | apply Kd.S_drew)); exact HO549.out) hb); replace HO554 := Aside0.mk (Kd.S_below (by (with_reducible repeat (first | apply Kd.S_alloc | apply Kd.S_drewN | apply Kd.S_drew)); exact HO554.out) hb); replace BK550 := KB BK550 hb; replace BK555 := KB BK555 hb; replace HB := BS hb; clear hb))
   go_ret
   exact ⟨TE, TB⟩
  ·rw [if_neg c7] at H
   have c7b0 : decide (t558 < 0) = false := decide_eq_false c7
   clear c7
   by_cases c23 : t558 = t557
   ·rw [if_pos c23] at H
    have c23b0 : (t558 == t557) = true := beq_iff_eq.mpr c23
    have c23b1 : (t558 != t557) = false := bne_eq_false_iff_eq.mpr c23
    clear c23
    obtain ⟨⟨t559, t560⟩, A24, H⟩ := bnd H
    try dsimp only at H
    obtain ⟨t564, A25, H⟩ := bnd H
    by_cases c26 : t564 = true
    ·subst c26
     replace H := ift H
     obtain ⟨t565, A27, H⟩ := bnd H
     by_cases c28 : t565 < 0
     ·rw [if_pos c28] at H
      have c28b0 : decide (t565 < 0) = true := decide_eq_true c28
      clear c28
      obtain rfl := Option.some.inj H
      go_enter Try.func14, Try.ntmps14
      go_wp2_with (first | ((with_reducible refine gate_callee (f := 53) rfl ?_); refine goesL_ (some 6) rfl rfl Try.func53 KR rfl #[] rfl TA ?_; (with_reducible refine (spec_NewCache.calls  t546 t547 _ A1.out).mono ?_); rintro e w29 ⟨v548, rfl, ho0, hb⟩; refine ⟨_, rfl, ?_⟩; have HO549 := Aside0.mk (Kd.S_lower ho0 (below_size TB)); replace HB := BS hb; clear hb; (try clear ho0)) | ((with_reducible refine gate_dst (N := 1) rfl ?_); refine bE 1 #[.int .i64 0, .slice none 0 0] 70 ?_; intro gb550 hg w30 hbox hb; replace HO549 := Aside0.mk (Kd.S_below (by (with_reducible repeat (first | apply Kd.S_alloc | apply Kd.S_drewN | apply Kd.S_drew)); exact HO549.out) hb); have BK550 := Aside0.mk (hbox); have GE550 := bG hg; replace HB := BS hb; clear hb hbox hg; have hcz31 := cz2 BK550; obtain ⟨Ao32, co32, eo32⟩ := Kd.S_slice HO549.out; subst eo32) | ((with_reducible refine gate_callee (f := 54) rfl ?_); refine goesL_ (some 7) rfl rfl Try.func54 KR rfl #[] rfl TA ?_; (with_reducible refine (impl_NewCache.calls  t551 t552 _ A2.out).mono ?_); rintro e w33 ⟨v553, rfl, ho0, hb⟩; refine ⟨_, rfl, ?_⟩; have HO554 := Aside0.mk (Kd.S_lower (Kd.S_new' ho0 (Kd.S_lt (by (with_reducible repeat (first | apply Kd.S_alloc | apply Kd.S_drewN | apply Kd.S_drew)); exact (Kd.S_mono (Kd.S_far (p := ⟨gb550, 1, none⟩) (Kd.S_far (p := ⟨gb550, 0, none⟩) (Kd.S_types HO549.out BK550.out (by decide)) (fun _ hk => hk.2) (.int .i64 t546)) (fun _ hk => hk.2) (.slice Ao32 t547.length co32)) (fun _ h_ => h_.1))))) (below_size TB)); replace HO549 := Aside0.mk (Kd.S_elder' (by (with_reducible repeat (first | apply Kd.S_alloc | apply Kd.S_drewN | apply Kd.S_drew)); exact (Kd.S_mono (Kd.S_far (p := ⟨gb550, 1, none⟩) (Kd.S_far (p := ⟨gb550, 0, none⟩) (Kd.S_types HO549.out BK550.out (by decide)) (fun _ hk => hk.2) (.int .i64 t546)) (fun _ hk => hk.2) (.slice Ao32 t547.length co32)) (fun _ h_ => h_.1))) (Kd.S_base ho0) hb); replace BK550 := KP BK550 #[.int .i64 t546, .slice Ao32 t547.length co32] hb; replace HB := BS hb; clear hb; (try clear ho0)) | ((with_reducible refine gate_dst (N := 2) rfl ?_); refine bE 2 #[.int .i64 0, .slice none 0 0] 70 ?_; intro gb555 hg w34 hbox hb; replace HO549 := Aside0.mk (Kd.S_below (by (with_reducible repeat (first | apply Kd.S_alloc | apply Kd.S_drewN | apply Kd.S_drew)); exact HO549.out) hb); replace HO554 := Aside0.mk (Kd.S_below (by (with_reducible repeat (first | apply Kd.S_alloc | apply Kd.S_drewN | apply Kd.S_drew)); exact HO554.out) hb); have BK555 := Aside0.mk (hbox); have GE555 := bG hg; replace HB := BS hb; have NB550_555 := bN BK550 hg; have NB555_550 := bM BK550 hg; replace BK550 := KB BK550 hb; clear hb hbox hg; obtain ⟨hnb35, hnc35⟩ := nn NB555_550; have hcz36 := cz2 BK555; obtain ⟨Ao37, co37, eo37⟩ := Kd.S_slice HO554.out; subst eo37; have hcz38 := cz2 BK550) | ((with_reducible refine gate_callee (f := 55) rfl ?_); refine goesL_ (some 10) rfl rfl Try.func55 KR rfl #[.agg #[.int .i64 t551, .slice Ao37 t552.length co37], .agg #[.int .i64 t546, .slice Ao32 t547.length co32]] rfl TA ?_; (with_reducible refine (laws_eqCache.calls k t551 _ _ t552 t546 _ _ t547 true _ ?side1 ?side2 ?side3 ?side4 A3.out).mono ?_); (case side1 => refine (Kd.S_reads' (e := 107) (base := w.heap.size) (ok := fun k_ => (True ∧ some k_ ≠ (.slice Ao32 t547.length co32 : Value).ownBlock)) (n := t552.length) (c := co37) ?_).2.2; exact (by (with_reducible repeat (first | apply Kd.S_alloc | apply Kd.S_drewN | apply Kd.S_drew)); exact (Kd.S_mono (Kd.S_far (p := ⟨gb555, 1, none⟩) (Kd.S_far (p := ⟨gb555, 0, none⟩) (Kd.S_types HO554.out BK555.out (by decide)) (fun _ hk => hk.2) (.int .i64 t551)) (fun _ hk => hk.2) (.slice Ao37 t552.length co37)) (fun _ h_ => h_.1)))); (case side2 => exact (Kd.S_reads' HO554.out).2.1); (case side3 => refine (Kd.S_reads' (e := 107) (base := w.heap.size) (ok := fun k_ => (True ∧ some k_ ≠ (.slice Ao37 t552.length co37 : Value).ownBlock)) (n := t547.length) (c := co32) ?_).2.2; exact (by (with_reducible repeat (first | apply Kd.S_alloc | apply Kd.S_drewN | apply Kd.S_drew)); exact (Kd.S_mono (Kd.S_far (p := ⟨gb555, 1, none⟩) (Kd.S_far (p := ⟨gb555, 0, none⟩) (Kd.S_types HO549.out BK555.out (by decide)) (fun _ hk => hk.2) (.int .i64 t551)) (fun _ hk => hk.2) (.slice Ao37 t552.length co37)) (fun _ h_ => h_.1)))); (case side4 => exact (Kd.S_reads' HO549.out).2.1); rintro e w39 ⟨rfl, hb⟩; refine ⟨_, rfl, ?_⟩; replace HO549 := Aside0.mk (Kd.S_below (by (with_reducible repeat (first | apply Kd.S_alloc | apply Kd.S_drewN | apply Kd.S_drew)); exact (Kd.S_mono (Kd.S_far (p := ⟨gb555, 1, none⟩) (Kd.S_far (p := ⟨gb555, 0, none⟩) (Kd.S_types HO549.out BK555.out (by decide)) (fun _ hk => hk.2) (.int .i64 t551)) (fun _ hk => hk.2) (.slice Ao37 t552.length co37)) (fun _ h_ => h_.1))) hb); replace HO554 := Aside0.mk (Kd.S_below (by (with_reducible repeat (first | apply Kd.S_alloc | apply Kd.S_drewN | apply Kd.S_drew)); exact (Kd.S_mono (Kd.S_far (p := ⟨gb555, 1, none⟩) (Kd.S_far (p := ⟨gb555, 0, none⟩) (Kd.S_types HO554.out BK555.out (by decide)) (fun _ hk => hk.2) (.int .i64 t551)) (fun _ hk => hk.2) (.slice Ao37 t552.length co37)) (fun _ h_ => h_.1))) hb); replace BK550 := KF BK550 hb; replace BK555 := KP BK555 #[.int .i64 t551, .slice Ao37 t552.length co37] hb; replace HB := BS hb; clear hb; have hcz40 := cz2 BK555) | ((with_reducible refine gate_callee (f := 56) rfl ?_); refine goesL_ (some 14) rfl rfl Try.func56 KR rfl #[.agg #[.int .i64 t551, .slice Ao37 t552.length co37], .int .i64 1] rfl TA ?_; (with_reducible refine (laws_markCache.calls t551 _ _ t552 1 t557 _ ?side1 ?side2 A5.out).mono ?_); (case side1 => exact CW ((Kd.S_reads' HO554.out).2.2)); (case side2 => exact (Kd.S_reads' HO554.out).2.1); rintro e w41 ⟨rfl, hb⟩; refine ⟨_, rfl, ?_⟩; replace HO549 := Aside0.mk (Kd.S_below (by (with_reducible repeat (first | apply Kd.S_alloc | apply Kd.S_drewN | apply Kd.S_drew)); exact HO549.out) hb); replace HO554 := Aside0.mk (Kd.S_below (by (with_reducible repeat (first | apply Kd.S_alloc | apply Kd.S_drewN | apply Kd.S_drew)); exact HO554.out) hb); replace BK550 := KB BK550 hb; replace BK555 := KB BK555 hb; replace HB := BS hb; clear hb; have hcz42 := cz2 BK555) | ((with_reducible refine gate_callee (f := 57) rfl ?_); refine goesL_ (some 17) rfl rfl Try.func57 KR rfl #[.agg #[.int .i64 t551, .slice Ao37 t552.length co37], .int .i64 1] rfl TA ?_; (with_reducible refine (laws_heldCache.calls k t551 _ _ t552 1 t558 _ ?side1 ?side2 A6.out).mono ?_); (case side1 => exact CW ((Kd.S_reads' HO554.out).2.2)); (case side2 => exact (Kd.S_reads' HO554.out).2.1); rintro e w43 ⟨rfl, hb⟩; refine ⟨_, rfl, ?_⟩; replace HO549 := Aside0.mk (Kd.S_below (by (with_reducible repeat (first | apply Kd.S_alloc | apply Kd.S_drewN | apply Kd.S_drew)); exact HO549.out) hb); replace HO554 := Aside0.mk (Kd.S_below (by (with_reducible repeat (first | apply Kd.S_alloc | apply Kd.S_drewN | apply Kd.S_drew)); exact HO554.out) hb); replace BK550 := KB BK550 hb; replace BK555 := KB BK555 hb; replace HB := BS hb; clear hb) | ((with_reducible refine gate_callee (f := 54) rfl ?_); refine goesL_ (some 23) rfl rfl Try.func54 KR rfl #[] rfl TA ?_; (with_reducible refine (impl_NewCache.calls  t559 t560 _ A24.out).mono ?_); rintro e w44 ⟨v561, rfl, ho0, hb⟩; refine ⟨_, rfl, ?_⟩; have HO562 := Aside0.mk (Kd.S_lower (Kd.S_new' (Kd.S_new' ho0 (Kd.S_lt (by (with_reducible repeat (first | apply Kd.S_alloc | apply Kd.S_drewN | apply Kd.S_drew)); exact HO549.out))) (Kd.S_lt (by (with_reducible repeat (first | apply Kd.S_alloc | apply Kd.S_drewN | apply Kd.S_drew)); exact HO554.out))) (below_size TB)); replace HO549 := Aside0.mk (Kd.S_elder' (by (with_reducible repeat (first | apply Kd.S_alloc | apply Kd.S_drewN | apply Kd.S_drew)); exact HO549.out) (Kd.S_base ho0) hb); replace HO554 := Aside0.mk (Kd.S_elder' (by (with_reducible repeat (first | apply Kd.S_alloc | apply Kd.S_drewN | apply Kd.S_drew)); exact HO554.out) (Kd.S_base ho0) hb); replace BK550 := KB BK550 hb; replace BK555 := KB BK555 hb; replace HB := BS hb; clear hb; (try clear ho0)) | ((with_reducible refine gate_dst (N := 5) rfl ?_); refine bE 5 #[.int .i64 0, .slice none 0 0] 70 ?_; intro gb563 hg w45 hbox hb; replace HO549 := Aside0.mk (Kd.S_below (by (with_reducible repeat (first | apply Kd.S_alloc | apply Kd.S_drewN | apply Kd.S_drew)); exact HO549.out) hb); replace HO554 := Aside0.mk (Kd.S_below (by (with_reducible repeat (first | apply Kd.S_alloc | apply Kd.S_drewN | apply Kd.S_drew)); exact HO554.out) hb); replace HO562 := Aside0.mk (Kd.S_below (by (with_reducible repeat (first | apply Kd.S_alloc | apply Kd.S_drewN | apply Kd.S_drew)); exact HO562.out) hb); have BK563 := Aside0.mk (hbox); have GE563 := bG hg; replace HB := BS hb; have NB550_563 := bN BK550 hg; have NB563_550 := bM BK550 hg; replace BK550 := KB BK550 hb; have NB555_563 := bN BK555 hg; have NB563_555 := bM BK555 hg; replace BK555 := KB BK555 hb; clear hb hbox hg; obtain ⟨hnb46, hnc46⟩ := nn NB563_550; obtain ⟨hnb47, hnc47⟩ := nn NB563_555; have hcz48 := cz2 BK563; obtain ⟨Ao49, co49, eo49⟩ := Kd.S_slice HO562.out; subst eo49; have hcz50 := cz2 BK550) | ((with_reducible refine gate_callee (f := 55) rfl ?_); refine goesL_ (some 26) rfl rfl Try.func55 KR rfl #[.agg #[.int .i64 t559, .slice Ao49 t560.length co49], .agg #[.int .i64 t546, .slice Ao32 t547.length co32]] rfl TA ?_; (with_reducible refine (laws_eqCache.calls k t559 _ _ t560 t546 _ _ t547 true _ ?side1 ?side2 ?side3 ?side4 A25.out).mono ?_); (case side1 => refine (Kd.S_reads' (e := 107) (base := w.heap.size) (ok := fun k_ => ((True ∧ some k_ ≠ (.slice Ao32 t547.length co32 : Value).ownBlock) ∧ some k_ ≠ (.slice Ao37 t552.length co37 : Value).ownBlock)) (n := t560.length) (c := co49) ?_).2.2; exact (by (with_reducible repeat (first | apply Kd.S_alloc | apply Kd.S_drewN | apply Kd.S_drew)); exact (Kd.S_mono (Kd.S_far (p := ⟨gb563, 1, none⟩) (Kd.S_far (p := ⟨gb563, 0, none⟩) (Kd.S_types HO562.out BK563.out (by decide)) (fun _ hk => hk.2) (.int .i64 t559)) (fun _ hk => hk.2) (.slice Ao49 t560.length co49)) (fun _ h_ => h_.1)))); (case side2 => exact (Kd.S_reads' HO562.out).2.1); (case side3 => refine (Kd.S_reads' (e := 107) (base := w.heap.size) (ok := fun k_ => ((True ∧ some k_ ≠ (.slice Ao37 t552.length co37 : Value).ownBlock) ∧ some k_ ≠ (.slice Ao49 t560.length co49 : Value).ownBlock)) (n := t547.length) (c := co32) ?_).2.2; exact (by (with_reducible repeat (first | apply Kd.S_alloc | apply Kd.S_drewN | apply Kd.S_drew)); exact (Kd.S_mono (Kd.S_far (p := ⟨gb563, 1, none⟩) (Kd.S_far (p := ⟨gb563, 0, none⟩) (Kd.S_types HO549.out BK563.out (by decide)) (fun _ hk => hk.2) (.int .i64 t559)) (fun _ hk => hk.2) (.slice Ao49 t560.length co49)) (fun _ h_ => h_.1)))); (case side4 => exact (Kd.S_reads' HO549.out).2.1); rintro e w51 ⟨rfl, hb⟩; refine ⟨_, rfl, ?_⟩; replace HO549 := Aside0.mk (Kd.S_below (by (with_reducible repeat (first | apply Kd.S_alloc | apply Kd.S_drewN | apply Kd.S_drew)); exact (Kd.S_mono (Kd.S_far (p := ⟨gb563, 1, none⟩) (Kd.S_far (p := ⟨gb563, 0, none⟩) (Kd.S_types HO549.out BK563.out (by decide)) (fun _ hk => hk.2) (.int .i64 t559)) (fun _ hk => hk.2) (.slice Ao49 t560.length co49)) (fun _ h_ => h_.1))) hb); replace HO554 := Aside0.mk (Kd.S_below (by (with_reducible repeat (first | apply Kd.S_alloc | apply Kd.S_drewN | apply Kd.S_drew)); exact (Kd.S_mono (Kd.S_far (p := ⟨gb563, 1, none⟩) (Kd.S_far (p := ⟨gb563, 0, none⟩) (Kd.S_types HO554.out BK563.out (by decide)) (fun _ hk => hk.2) (.int .i64 t559)) (fun _ hk => hk.2) (.slice Ao49 t560.length co49)) (fun _ h_ => h_.1))) hb); replace HO562 := Aside0.mk (Kd.S_below (by (with_reducible repeat (first | apply Kd.S_alloc | apply Kd.S_drewN | apply Kd.S_drew)); exact (Kd.S_mono (Kd.S_far (p := ⟨gb563, 1, none⟩) (Kd.S_far (p := ⟨gb563, 0, none⟩) (Kd.S_types HO562.out BK563.out (by decide)) (fun _ hk => hk.2) (.int .i64 t559)) (fun _ hk => hk.2) (.slice Ao49 t560.length co49)) (fun _ h_ => h_.1))) hb); replace BK550 := KF BK550 hb; replace BK555 := KF BK555 hb; replace BK563 := KP BK563 #[.int .i64 t559, .slice Ao49 t560.length co49] hb; replace HB := BS hb; clear hb; have hcz52 := cz2 BK555) | ((with_reducible refine gate_callee (f := 57) rfl ?_); refine goesL_ (some 30) rfl rfl Try.func57 KR rfl #[.agg #[.int .i64 t551, .slice Ao37 t552.length co37], .int .i64 1] rfl TA ?_; (with_reducible refine (laws_heldCache.calls k t551 _ _ t552 1 t565 _ ?side1 ?side2 A27.out).mono ?_); (case side1 => exact CW ((Kd.S_reads' HO554.out).2.2)); (case side2 => exact (Kd.S_reads' HO554.out).2.1); rintro e w53 ⟨rfl, hb⟩; refine ⟨_, rfl, ?_⟩; replace HO549 := Aside0.mk (Kd.S_below (by (with_reducible repeat (first | apply Kd.S_alloc | apply Kd.S_drewN | apply Kd.S_drew)); exact HO549.out) hb); replace HO554 := Aside0.mk (Kd.S_below (by (with_reducible repeat (first | apply Kd.S_alloc | apply Kd.S_drewN | apply Kd.S_drew)); exact HO554.out) hb); replace HO562 := Aside0.mk (Kd.S_below (by (with_reducible repeat (first | apply Kd.S_alloc | apply Kd.S_drewN | apply Kd.S_drew)); exact HO562.out) hb); replace BK550 := KB BK550 hb; replace BK555 := KB BK555 hb; replace BK563 := KB BK563 hb; replace HB := BS hb; clear hb))
      go_ret
      exact ⟨TE, TB⟩
     ·rw [if_neg c28] at H
      have c28b0 : decide (t565 < 0) = false := decide_eq_false c28
      clear c28
      by_cases c54 : t565 = t557
      ·rw [if_pos c54] at H
       have c54b0 : (t565 == t557) = true := beq_iff_eq.mpr c54
       have c54b1 : (t565 != t557) = false := bne_eq_false_iff_eq.mpr c54
       clear c54
       obtain rfl := Option.some.inj H
       go_enter Try.func14, Try.ntmps14
       go_wp2_with (first | ((with_reducible refine gate_callee (f := 53) rfl ?_); refine goesL_ (some 6) rfl rfl Try.func53 KR rfl #[] rfl TA ?_; (with_reducible refine (spec_NewCache.calls  t546 t547 _ A1.out).mono ?_); rintro e w55 ⟨v548, rfl, ho0, hb⟩; refine ⟨_, rfl, ?_⟩; have HO549 := Aside0.mk (Kd.S_lower ho0 (below_size TB)); replace HB := BS hb; clear hb; (try clear ho0)) | ((with_reducible refine gate_dst (N := 1) rfl ?_); refine bE 1 #[.int .i64 0, .slice none 0 0] 70 ?_; intro gb550 hg w56 hbox hb; replace HO549 := Aside0.mk (Kd.S_below (by (with_reducible repeat (first | apply Kd.S_alloc | apply Kd.S_drewN | apply Kd.S_drew)); exact HO549.out) hb); have BK550 := Aside0.mk (hbox); have GE550 := bG hg; replace HB := BS hb; clear hb hbox hg; have hcz57 := cz2 BK550; obtain ⟨Ao58, co58, eo58⟩ := Kd.S_slice HO549.out; subst eo58) | ((with_reducible refine gate_callee (f := 54) rfl ?_); refine goesL_ (some 7) rfl rfl Try.func54 KR rfl #[] rfl TA ?_; (with_reducible refine (impl_NewCache.calls  t551 t552 _ A2.out).mono ?_); rintro e w59 ⟨v553, rfl, ho0, hb⟩; refine ⟨_, rfl, ?_⟩; have HO554 := Aside0.mk (Kd.S_lower (Kd.S_new' ho0 (Kd.S_lt (by (with_reducible repeat (first | apply Kd.S_alloc | apply Kd.S_drewN | apply Kd.S_drew)); exact (Kd.S_mono (Kd.S_far (p := ⟨gb550, 1, none⟩) (Kd.S_far (p := ⟨gb550, 0, none⟩) (Kd.S_types HO549.out BK550.out (by decide)) (fun _ hk => hk.2) (.int .i64 t546)) (fun _ hk => hk.2) (.slice Ao58 t547.length co58)) (fun _ h_ => h_.1))))) (below_size TB)); replace HO549 := Aside0.mk (Kd.S_elder' (by (with_reducible repeat (first | apply Kd.S_alloc | apply Kd.S_drewN | apply Kd.S_drew)); exact (Kd.S_mono (Kd.S_far (p := ⟨gb550, 1, none⟩) (Kd.S_far (p := ⟨gb550, 0, none⟩) (Kd.S_types HO549.out BK550.out (by decide)) (fun _ hk => hk.2) (.int .i64 t546)) (fun _ hk => hk.2) (.slice Ao58 t547.length co58)) (fun _ h_ => h_.1))) (Kd.S_base ho0) hb); replace BK550 := KP BK550 #[.int .i64 t546, .slice Ao58 t547.length co58] hb; replace HB := BS hb; clear hb; (try clear ho0)) | ((with_reducible refine gate_dst (N := 2) rfl ?_); refine bE 2 #[.int .i64 0, .slice none 0 0] 70 ?_; intro gb555 hg w60 hbox hb; replace HO549 := Aside0.mk (Kd.S_below (by (with_reducible repeat (first | apply Kd.S_alloc | apply Kd.S_drewN | apply Kd.S_drew)); exact HO549.out) hb); replace HO554 := Aside0.mk (Kd.S_below (by (with_reducible repeat (first | apply Kd.S_alloc | apply Kd.S_drewN | apply Kd.S_drew)); exact HO554.out) hb); have BK555 := Aside0.mk (hbox); have GE555 := bG hg; replace HB := BS hb; have NB550_555 := bN BK550 hg; have NB555_550 := bM BK550 hg; replace BK550 := KB BK550 hb; clear hb hbox hg; obtain ⟨hnb61, hnc61⟩ := nn NB555_550; have hcz62 := cz2 BK555; obtain ⟨Ao63, co63, eo63⟩ := Kd.S_slice HO554.out; subst eo63; have hcz64 := cz2 BK550) | ((with_reducible refine gate_callee (f := 55) rfl ?_); refine goesL_ (some 10) rfl rfl Try.func55 KR rfl #[.agg #[.int .i64 t551, .slice Ao63 t552.length co63], .agg #[.int .i64 t546, .slice Ao58 t547.length co58]] rfl TA ?_; (with_reducible refine (laws_eqCache.calls k t551 _ _ t552 t546 _ _ t547 true _ ?side1 ?side2 ?side3 ?side4 A3.out).mono ?_); (case side1 => refine (Kd.S_reads' (e := 107) (base := w.heap.size) (ok := fun k_ => (True ∧ some k_ ≠ (.slice Ao58 t547.length co58 : Value).ownBlock)) (n := t552.length) (c := co63) ?_).2.2; exact (by (with_reducible repeat (first | apply Kd.S_alloc | apply Kd.S_drewN | apply Kd.S_drew)); exact (Kd.S_mono (Kd.S_far (p := ⟨gb555, 1, none⟩) (Kd.S_far (p := ⟨gb555, 0, none⟩) (Kd.S_types HO554.out BK555.out (by decide)) (fun _ hk => hk.2) (.int .i64 t551)) (fun _ hk => hk.2) (.slice Ao63 t552.length co63)) (fun _ h_ => h_.1)))); (case side2 => exact (Kd.S_reads' HO554.out).2.1); (case side3 => refine (Kd.S_reads' (e := 107) (base := w.heap.size) (ok := fun k_ => (True ∧ some k_ ≠ (.slice Ao63 t552.length co63 : Value).ownBlock)) (n := t547.length) (c := co58) ?_).2.2; exact (by (with_reducible repeat (first | apply Kd.S_alloc | apply Kd.S_drewN | apply Kd.S_drew)); exact (Kd.S_mono (Kd.S_far (p := ⟨gb555, 1, none⟩) (Kd.S_far (p := ⟨gb555, 0, none⟩) (Kd.S_types HO549.out BK555.out (by decide)) (fun _ hk => hk.2) (.int .i64 t551)) (fun _ hk => hk.2) (.slice Ao63 t552.length co63)) (fun _ h_ => h_.1)))); (case side4 => exact (Kd.S_reads' HO549.out).2.1); rintro e w65 ⟨rfl, hb⟩; refine ⟨_, rfl, ?_⟩; replace HO549 := Aside0.mk (Kd.S_below (by (with_reducible repeat (first | apply Kd.S_alloc | apply Kd.S_drewN | apply Kd.S_drew)); exact (Kd.S_mono (Kd.S_far (p := ⟨gb555, 1, none⟩) (Kd.S_far (p := ⟨gb555, 0, none⟩) (Kd.S_types HO549.out BK555.out (by decide)) (fun _ hk => hk.2) (.int .i64 t551)) (fun _ hk => hk.2) (.slice Ao63 t552.length co63)) (fun _ h_ => h_.1))) hb); replace HO554 := Aside0.mk (Kd.S_below (by (with_reducible repeat (first | apply Kd.S_alloc | apply Kd.S_drewN | apply Kd.S_drew)); exact (Kd.S_mono (Kd.S_far (p := ⟨gb555, 1, none⟩) (Kd.S_far (p := ⟨gb555, 0, none⟩) (Kd.S_types HO554.out BK555.out (by decide)) (fun _ hk => hk.2) (.int .i64 t551)) (fun _ hk => hk.2) (.slice Ao63 t552.length co63)) (fun _ h_ => h_.1))) hb); replace BK550 := KF BK550 hb; replace BK555 := KP BK555 #[.int .i64 t551, .slice Ao63 t552.length co63] hb; replace HB := BS hb; clear hb; have hcz66 := cz2 BK555) | ((with_reducible refine gate_callee (f := 56) rfl ?_); refine goesL_ (some 14) rfl rfl Try.func56 KR rfl #[.agg #[.int .i64 t551, .slice Ao63 t552.length co63], .int .i64 1] rfl TA ?_; (with_reducible refine (laws_markCache.calls t551 _ _ t552 1 t557 _ ?side1 ?side2 A5.out).mono ?_); (case side1 => exact CW ((Kd.S_reads' HO554.out).2.2)); (case side2 => exact (Kd.S_reads' HO554.out).2.1); rintro e w67 ⟨rfl, hb⟩; refine ⟨_, rfl, ?_⟩; replace HO549 := Aside0.mk (Kd.S_below (by (with_reducible repeat (first | apply Kd.S_alloc | apply Kd.S_drewN | apply Kd.S_drew)); exact HO549.out) hb); replace HO554 := Aside0.mk (Kd.S_below (by (with_reducible repeat (first | apply Kd.S_alloc | apply Kd.S_drewN | apply Kd.S_drew)); exact HO554.out) hb); replace BK550 := KB BK550 hb; replace BK555 := KB BK555 hb; replace HB := BS hb; clear hb; have hcz68 := cz2 BK555) | ((with_reducible refine gate_callee (f := 57) rfl ?_); refine goesL_ (some 17) rfl rfl Try.func57 KR rfl #[.agg #[.int .i64 t551, .slice Ao63 t552.length co63], .int .i64 1] rfl TA ?_; (with_reducible refine (laws_heldCache.calls k t551 _ _ t552 1 t558 _ ?side1 ?side2 A6.out).mono ?_); (case side1 => exact CW ((Kd.S_reads' HO554.out).2.2)); (case side2 => exact (Kd.S_reads' HO554.out).2.1); rintro e w69 ⟨rfl, hb⟩; refine ⟨_, rfl, ?_⟩; replace HO549 := Aside0.mk (Kd.S_below (by (with_reducible repeat (first | apply Kd.S_alloc | apply Kd.S_drewN | apply Kd.S_drew)); exact HO549.out) hb); replace HO554 := Aside0.mk (Kd.S_below (by (with_reducible repeat (first | apply Kd.S_alloc | apply Kd.S_drewN | apply Kd.S_drew)); exact HO554.out) hb); replace BK550 := KB BK550 hb; replace BK555 := KB BK555 hb; replace HB := BS hb; clear hb) | ((with_reducible refine gate_callee (f := 54) rfl ?_); refine goesL_ (some 23) rfl rfl Try.func54 KR rfl #[] rfl TA ?_; (with_reducible refine (impl_NewCache.calls  t559 t560 _ A24.out).mono ?_); rintro e w70 ⟨v561, rfl, ho0, hb⟩; refine ⟨_, rfl, ?_⟩; have HO562 := Aside0.mk (Kd.S_lower (Kd.S_new' (Kd.S_new' ho0 (Kd.S_lt (by (with_reducible repeat (first | apply Kd.S_alloc | apply Kd.S_drewN | apply Kd.S_drew)); exact HO549.out))) (Kd.S_lt (by (with_reducible repeat (first | apply Kd.S_alloc | apply Kd.S_drewN | apply Kd.S_drew)); exact HO554.out))) (below_size TB)); replace HO549 := Aside0.mk (Kd.S_elder' (by (with_reducible repeat (first | apply Kd.S_alloc | apply Kd.S_drewN | apply Kd.S_drew)); exact HO549.out) (Kd.S_base ho0) hb); replace HO554 := Aside0.mk (Kd.S_elder' (by (with_reducible repeat (first | apply Kd.S_alloc | apply Kd.S_drewN | apply Kd.S_drew)); exact HO554.out) (Kd.S_base ho0) hb); replace BK550 := KB BK550 hb; replace BK555 := KB BK555 hb; replace HB := BS hb; clear hb; (try clear ho0)) | ((with_reducible refine gate_dst (N := 5) rfl ?_); refine bE 5 #[.int .i64 0, .slice none 0 0] 70 ?_; intro gb563 hg w71 hbox hb; replace HO549 := Aside0.mk (Kd.S_below (by (with_reducible repeat (first | apply Kd.S_alloc | apply Kd.S_drewN | apply Kd.S_drew)); exact HO549.out) hb); replace HO554 := Aside0.mk (Kd.S_below (by (with_reducible repeat (first | apply Kd.S_alloc | apply Kd.S_drewN | apply Kd.S_drew)); exact HO554.out) hb); replace HO562 := Aside0.mk (Kd.S_below (by (with_reducible repeat (first | apply Kd.S_alloc | apply Kd.S_drewN | apply Kd.S_drew)); exact HO562.out) hb); have BK563 := Aside0.mk (hbox); have GE563 := bG hg; replace HB := BS hb; have NB550_563 := bN BK550 hg; have NB563_550 := bM BK550 hg; replace BK550 := KB BK550 hb; have NB555_563 := bN BK555 hg; have NB563_555 := bM BK555 hg; replace BK555 := KB BK555 hb; clear hb hbox hg; obtain ⟨hnb72, hnc72⟩ := nn NB563_550; obtain ⟨hnb73, hnc73⟩ := nn NB563_555; have hcz74 := cz2 BK563; obtain ⟨Ao75, co75, eo75⟩ := Kd.S_slice HO562.out; subst eo75; have hcz76 := cz2 BK550) | ((with_reducible refine gate_callee (f := 55) rfl ?_); refine goesL_ (some 26) rfl rfl Try.func55 KR rfl #[.agg #[.int .i64 t559, .slice Ao75 t560.length co75], .agg #[.int .i64 t546, .slice Ao58 t547.length co58]] rfl TA ?_; (with_reducible refine (laws_eqCache.calls k t559 _ _ t560 t546 _ _ t547 true _ ?side1 ?side2 ?side3 ?side4 A25.out).mono ?_); (case side1 => refine (Kd.S_reads' (e := 107) (base := w.heap.size) (ok := fun k_ => ((True ∧ some k_ ≠ (.slice Ao58 t547.length co58 : Value).ownBlock) ∧ some k_ ≠ (.slice Ao63 t552.length co63 : Value).ownBlock)) (n := t560.length) (c := co75) ?_).2.2; exact (by (with_reducible repeat (first | apply Kd.S_alloc | apply Kd.S_drewN | apply Kd.S_drew)); exact (Kd.S_mono (Kd.S_far (p := ⟨gb563, 1, none⟩) (Kd.S_far (p := ⟨gb563, 0, none⟩) (Kd.S_types HO562.out BK563.out (by decide)) (fun _ hk => hk.2) (.int .i64 t559)) (fun _ hk => hk.2) (.slice Ao75 t560.length co75)) (fun _ h_ => h_.1)))); (case side2 => exact (Kd.S_reads' HO562.out).2.1); (case side3 => refine (Kd.S_reads' (e := 107) (base := w.heap.size) (ok := fun k_ => ((True ∧ some k_ ≠ (.slice Ao63 t552.length co63 : Value).ownBlock) ∧ some k_ ≠ (.slice Ao75 t560.length co75 : Value).ownBlock)) (n := t547.length) (c := co58) ?_).2.2; exact (by (with_reducible repeat (first | apply Kd.S_alloc | apply Kd.S_drewN | apply Kd.S_drew)); exact (Kd.S_mono (Kd.S_far (p := ⟨gb563, 1, none⟩) (Kd.S_far (p := ⟨gb563, 0, none⟩) (Kd.S_types HO549.out BK563.out (by decide)) (fun _ hk => hk.2) (.int .i64 t559)) (fun _ hk => hk.2) (.slice Ao75 t560.length co75)) (fun _ h_ => h_.1)))); (case side4 => exact (Kd.S_reads' HO549.out).2.1); rintro e w77 ⟨rfl, hb⟩; refine ⟨_, rfl, ?_⟩; replace HO549 := Aside0.mk (Kd.S_below (by (with_reducible repeat (first | apply Kd.S_alloc | apply Kd.S_drewN | apply Kd.S_drew)); exact (Kd.S_mono (Kd.S_far (p := ⟨gb563, 1, none⟩) (Kd.S_far (p := ⟨gb563, 0, none⟩) (Kd.S_types HO549.out BK563.out (by decide)) (fun _ hk => hk.2) (.int .i64 t559)) (fun _ hk => hk.2) (.slice Ao75 t560.length co75)) (fun _ h_ => h_.1))) hb); replace HO554 := Aside0.mk (Kd.S_below (by (with_reducible repeat (first | apply Kd.S_alloc | apply Kd.S_drewN | apply Kd.S_drew)); exact (Kd.S_mono (Kd.S_far (p := ⟨gb563, 1, none⟩) (Kd.S_far (p := ⟨gb563, 0, none⟩) (Kd.S_types HO554.out BK563.out (by decide)) (fun _ hk => hk.2) (.int .i64 t559)) (fun _ hk => hk.2) (.slice Ao75 t560.length co75)) (fun _ h_ => h_.1))) hb); replace HO562 := Aside0.mk (Kd.S_below (by (with_reducible repeat (first | apply Kd.S_alloc | apply Kd.S_drewN | apply Kd.S_drew)); exact (Kd.S_mono (Kd.S_far (p := ⟨gb563, 1, none⟩) (Kd.S_far (p := ⟨gb563, 0, none⟩) (Kd.S_types HO562.out BK563.out (by decide)) (fun _ hk => hk.2) (.int .i64 t559)) (fun _ hk => hk.2) (.slice Ao75 t560.length co75)) (fun _ h_ => h_.1))) hb); replace BK550 := KF BK550 hb; replace BK555 := KF BK555 hb; replace BK563 := KP BK563 #[.int .i64 t559, .slice Ao75 t560.length co75] hb; replace HB := BS hb; clear hb; have hcz78 := cz2 BK555) | ((with_reducible refine gate_callee (f := 57) rfl ?_); refine goesL_ (some 30) rfl rfl Try.func57 KR rfl #[.agg #[.int .i64 t551, .slice Ao63 t552.length co63], .int .i64 1] rfl TA ?_; (with_reducible refine (laws_heldCache.calls k t551 _ _ t552 1 t565 _ ?side1 ?side2 A27.out).mono ?_); (case side1 => exact CW ((Kd.S_reads' HO554.out).2.2)); (case side2 => exact (Kd.S_reads' HO554.out).2.1); rintro e w79 ⟨rfl, hb⟩; refine ⟨_, rfl, ?_⟩; replace HO549 := Aside0.mk (Kd.S_below (by (with_reducible repeat (first | apply Kd.S_alloc | apply Kd.S_drewN | apply Kd.S_drew)); exact HO549.out) hb); replace HO554 := Aside0.mk (Kd.S_below (by (with_reducible repeat (first | apply Kd.S_alloc | apply Kd.S_drewN | apply Kd.S_drew)); exact HO554.out) hb); replace HO562 := Aside0.mk (Kd.S_below (by (with_reducible repeat (first | apply Kd.S_alloc | apply Kd.S_drewN | apply Kd.S_drew)); exact HO562.out) hb); replace BK550 := KB BK550 hb; replace BK555 := KB BK555 hb; replace BK563 := KB BK563 hb; replace HB := BS hb; clear hb))
       go_ret
       exact ⟨TE, TB⟩
      ·rw [if_neg c54] at H
       have c54b0 : (t565 == t557) = false := beq_eq_false_iff_ne.mpr c54
       have c54b1 : (t565 != t557) = true := bne_iff_ne.mpr c54
       obtain rfl := Option.some.inj H
       go_enter Try.func14, Try.ntmps14
       go_wp2_with (first | ((with_reducible refine gate_callee (f := 53) rfl ?_); refine goesL_ (some 6) rfl rfl Try.func53 KR rfl #[] rfl TA ?_; (with_reducible refine (spec_NewCache.calls  t546 t547 _ A1.out).mono ?_); rintro e w80 ⟨v548, rfl, ho0, hb⟩; refine ⟨_, rfl, ?_⟩; have HO549 := Aside0.mk (Kd.S_lower ho0 (below_size TB)); replace HB := BS hb; clear hb; (try clear ho0)) | ((with_reducible refine gate_dst (N := 1) rfl ?_); refine bE 1 #[.int .i64 0, .slice none 0 0] 70 ?_; intro gb550 hg w81 hbox hb; replace HO549 := Aside0.mk (Kd.S_below (by (with_reducible repeat (first | apply Kd.S_alloc | apply Kd.S_drewN | apply Kd.S_drew)); exact HO549.out) hb); have BK550 := Aside0.mk (hbox); have GE550 := bG hg; replace HB := BS hb; clear hb hbox hg; have hcz82 := cz2 BK550; obtain ⟨Ao83, co83, eo83⟩ := Kd.S_slice HO549.out; subst eo83) | ((with_reducible refine gate_callee (f := 54) rfl ?_); refine goesL_ (some 7) rfl rfl Try.func54 KR rfl #[] rfl TA ?_; (with_reducible refine (impl_NewCache.calls  t551 t552 _ A2.out).mono ?_); rintro e w84 ⟨v553, rfl, ho0, hb⟩; refine ⟨_, rfl, ?_⟩; have HO554 := Aside0.mk (Kd.S_lower (Kd.S_new' ho0 (Kd.S_lt (by (with_reducible repeat (first | apply Kd.S_alloc | apply Kd.S_drewN | apply Kd.S_drew)); exact (Kd.S_mono (Kd.S_far (p := ⟨gb550, 1, none⟩) (Kd.S_far (p := ⟨gb550, 0, none⟩) (Kd.S_types HO549.out BK550.out (by decide)) (fun _ hk => hk.2) (.int .i64 t546)) (fun _ hk => hk.2) (.slice Ao83 t547.length co83)) (fun _ h_ => h_.1))))) (below_size TB)); replace HO549 := Aside0.mk (Kd.S_elder' (by (with_reducible repeat (first | apply Kd.S_alloc | apply Kd.S_drewN | apply Kd.S_drew)); exact (Kd.S_mono (Kd.S_far (p := ⟨gb550, 1, none⟩) (Kd.S_far (p := ⟨gb550, 0, none⟩) (Kd.S_types HO549.out BK550.out (by decide)) (fun _ hk => hk.2) (.int .i64 t546)) (fun _ hk => hk.2) (.slice Ao83 t547.length co83)) (fun _ h_ => h_.1))) (Kd.S_base ho0) hb); replace BK550 := KP BK550 #[.int .i64 t546, .slice Ao83 t547.length co83] hb; replace HB := BS hb; clear hb; (try clear ho0)) | ((with_reducible refine gate_dst (N := 2) rfl ?_); refine bE 2 #[.int .i64 0, .slice none 0 0] 70 ?_; intro gb555 hg w85 hbox hb; replace HO549 := Aside0.mk (Kd.S_below (by (with_reducible repeat (first | apply Kd.S_alloc | apply Kd.S_drewN | apply Kd.S_drew)); exact HO549.out) hb); replace HO554 := Aside0.mk (Kd.S_below (by (with_reducible repeat (first | apply Kd.S_alloc | apply Kd.S_drewN | apply Kd.S_drew)); exact HO554.out) hb); have BK555 := Aside0.mk (hbox); have GE555 := bG hg; replace HB := BS hb; have NB550_555 := bN BK550 hg; have NB555_550 := bM BK550 hg; replace BK550 := KB BK550 hb; clear hb hbox hg; obtain ⟨hnb86, hnc86⟩ := nn NB555_550; have hcz87 := cz2 BK555; obtain ⟨Ao88, co88, eo88⟩ := Kd.S_slice HO554.out; subst eo88; have hcz89 := cz2 BK550) | ((with_reducible refine gate_callee (f := 55) rfl ?_); refine goesL_ (some 10) rfl rfl Try.func55 KR rfl #[.agg #[.int .i64 t551, .slice Ao88 t552.length co88], .agg #[.int .i64 t546, .slice Ao83 t547.length co83]] rfl TA ?_; (with_reducible refine (laws_eqCache.calls k t551 _ _ t552 t546 _ _ t547 true _ ?side1 ?side2 ?side3 ?side4 A3.out).mono ?_); (case side1 => refine (Kd.S_reads' (e := 107) (base := w.heap.size) (ok := fun k_ => (True ∧ some k_ ≠ (.slice Ao83 t547.length co83 : Value).ownBlock)) (n := t552.length) (c := co88) ?_).2.2; exact (by (with_reducible repeat (first | apply Kd.S_alloc | apply Kd.S_drewN | apply Kd.S_drew)); exact (Kd.S_mono (Kd.S_far (p := ⟨gb555, 1, none⟩) (Kd.S_far (p := ⟨gb555, 0, none⟩) (Kd.S_types HO554.out BK555.out (by decide)) (fun _ hk => hk.2) (.int .i64 t551)) (fun _ hk => hk.2) (.slice Ao88 t552.length co88)) (fun _ h_ => h_.1)))); (case side2 => exact (Kd.S_reads' HO554.out).2.1); (case side3 => refine (Kd.S_reads' (e := 107) (base := w.heap.size) (ok := fun k_ => (True ∧ some k_ ≠ (.slice Ao88 t552.length co88 : Value).ownBlock)) (n := t547.length) (c := co83) ?_).2.2; exact (by (with_reducible repeat (first | apply Kd.S_alloc | apply Kd.S_drewN | apply Kd.S_drew)); exact (Kd.S_mono (Kd.S_far (p := ⟨gb555, 1, none⟩) (Kd.S_far (p := ⟨gb555, 0, none⟩) (Kd.S_types HO549.out BK555.out (by decide)) (fun _ hk => hk.2) (.int .i64 t551)) (fun _ hk => hk.2) (.slice Ao88 t552.length co88)) (fun _ h_ => h_.1)))); (case side4 => exact (Kd.S_reads' HO549.out).2.1); rintro e w90 ⟨rfl, hb⟩; refine ⟨_, rfl, ?_⟩; replace HO549 := Aside0.mk (Kd.S_below (by (with_reducible repeat (first | apply Kd.S_alloc | apply Kd.S_drewN | apply Kd.S_drew)); exact (Kd.S_mono (Kd.S_far (p := ⟨gb555, 1, none⟩) (Kd.S_far (p := ⟨gb555, 0, none⟩) (Kd.S_types HO549.out BK555.out (by decide)) (fun _ hk => hk.2) (.int .i64 t551)) (fun _ hk => hk.2) (.slice Ao88 t552.length co88)) (fun _ h_ => h_.1))) hb); replace HO554 := Aside0.mk (Kd.S_below (by (with_reducible repeat (first | apply Kd.S_alloc | apply Kd.S_drewN | apply Kd.S_drew)); exact (Kd.S_mono (Kd.S_far (p := ⟨gb555, 1, none⟩) (Kd.S_far (p := ⟨gb555, 0, none⟩) (Kd.S_types HO554.out BK555.out (by decide)) (fun _ hk => hk.2) (.int .i64 t551)) (fun _ hk => hk.2) (.slice Ao88 t552.length co88)) (fun _ h_ => h_.1))) hb); replace BK550 := KF BK550 hb; replace BK555 := KP BK555 #[.int .i64 t551, .slice Ao88 t552.length co88] hb; replace HB := BS hb; clear hb; have hcz91 := cz2 BK555) | ((with_reducible refine gate_callee (f := 56) rfl ?_); refine goesL_ (some 14) rfl rfl Try.func56 KR rfl #[.agg #[.int .i64 t551, .slice Ao88 t552.length co88], .int .i64 1] rfl TA ?_; (with_reducible refine (laws_markCache.calls t551 _ _ t552 1 t557 _ ?side1 ?side2 A5.out).mono ?_); (case side1 => exact CW ((Kd.S_reads' HO554.out).2.2)); (case side2 => exact (Kd.S_reads' HO554.out).2.1); rintro e w92 ⟨rfl, hb⟩; refine ⟨_, rfl, ?_⟩; replace HO549 := Aside0.mk (Kd.S_below (by (with_reducible repeat (first | apply Kd.S_alloc | apply Kd.S_drewN | apply Kd.S_drew)); exact HO549.out) hb); replace HO554 := Aside0.mk (Kd.S_below (by (with_reducible repeat (first | apply Kd.S_alloc | apply Kd.S_drewN | apply Kd.S_drew)); exact HO554.out) hb); replace BK550 := KB BK550 hb; replace BK555 := KB BK555 hb; replace HB := BS hb; clear hb; have hcz93 := cz2 BK555) | ((with_reducible refine gate_callee (f := 57) rfl ?_); refine goesL_ (some 17) rfl rfl Try.func57 KR rfl #[.agg #[.int .i64 t551, .slice Ao88 t552.length co88], .int .i64 1] rfl TA ?_; (with_reducible refine (laws_heldCache.calls k t551 _ _ t552 1 t558 _ ?side1 ?side2 A6.out).mono ?_); (case side1 => exact CW ((Kd.S_reads' HO554.out).2.2)); (case side2 => exact (Kd.S_reads' HO554.out).2.1); rintro e w94 ⟨rfl, hb⟩; refine ⟨_, rfl, ?_⟩; replace HO549 := Aside0.mk (Kd.S_below (by (with_reducible repeat (first | apply Kd.S_alloc | apply Kd.S_drewN | apply Kd.S_drew)); exact HO549.out) hb); replace HO554 := Aside0.mk (Kd.S_below (by (with_reducible repeat (first | apply Kd.S_alloc | apply Kd.S_drewN | apply Kd.S_drew)); exact HO554.out) hb); replace BK550 := KB BK550 hb; replace BK555 := KB BK555 hb; replace HB := BS hb; clear hb) | ((with_reducible refine gate_callee (f := 54) rfl ?_); refine goesL_ (some 23) rfl rfl Try.func54 KR rfl #[] rfl TA ?_; (with_reducible refine (impl_NewCache.calls  t559 t560 _ A24.out).mono ?_); rintro e w95 ⟨v561, rfl, ho0, hb⟩; refine ⟨_, rfl, ?_⟩; have HO562 := Aside0.mk (Kd.S_lower (Kd.S_new' (Kd.S_new' ho0 (Kd.S_lt (by (with_reducible repeat (first | apply Kd.S_alloc | apply Kd.S_drewN | apply Kd.S_drew)); exact HO549.out))) (Kd.S_lt (by (with_reducible repeat (first | apply Kd.S_alloc | apply Kd.S_drewN | apply Kd.S_drew)); exact HO554.out))) (below_size TB)); replace HO549 := Aside0.mk (Kd.S_elder' (by (with_reducible repeat (first | apply Kd.S_alloc | apply Kd.S_drewN | apply Kd.S_drew)); exact HO549.out) (Kd.S_base ho0) hb); replace HO554 := Aside0.mk (Kd.S_elder' (by (with_reducible repeat (first | apply Kd.S_alloc | apply Kd.S_drewN | apply Kd.S_drew)); exact HO554.out) (Kd.S_base ho0) hb); replace BK550 := KB BK550 hb; replace BK555 := KB BK555 hb; replace HB := BS hb; clear hb; (try clear ho0)) | ((with_reducible refine gate_dst (N := 5) rfl ?_); refine bE 5 #[.int .i64 0, .slice none 0 0] 70 ?_; intro gb563 hg w96 hbox hb; replace HO549 := Aside0.mk (Kd.S_below (by (with_reducible repeat (first | apply Kd.S_alloc | apply Kd.S_drewN | apply Kd.S_drew)); exact HO549.out) hb); replace HO554 := Aside0.mk (Kd.S_below (by (with_reducible repeat (first | apply Kd.S_alloc | apply Kd.S_drewN | apply Kd.S_drew)); exact HO554.out) hb); replace HO562 := Aside0.mk (Kd.S_below (by (with_reducible repeat (first | apply Kd.S_alloc | apply Kd.S_drewN | apply Kd.S_drew)); exact HO562.out) hb); have BK563 := Aside0.mk (hbox); have GE563 := bG hg; replace HB := BS hb; have NB550_563 := bN BK550 hg; have NB563_550 := bM BK550 hg; replace BK550 := KB BK550 hb; have NB555_563 := bN BK555 hg; have NB563_555 := bM BK555 hg; replace BK555 := KB BK555 hb; clear hb hbox hg; obtain ⟨hnb97, hnc97⟩ := nn NB563_550; obtain ⟨hnb98, hnc98⟩ := nn NB563_555; have hcz99 := cz2 BK563; obtain ⟨Ao100, co100, eo100⟩ := Kd.S_slice HO562.out; subst eo100; have hcz101 := cz2 BK550) | ((with_reducible refine gate_callee (f := 55) rfl ?_); refine goesL_ (some 26) rfl rfl Try.func55 KR rfl #[.agg #[.int .i64 t559, .slice Ao100 t560.length co100], .agg #[.int .i64 t546, .slice Ao83 t547.length co83]] rfl TA ?_; (with_reducible refine (laws_eqCache.calls k t559 _ _ t560 t546 _ _ t547 true _ ?side1 ?side2 ?side3 ?side4 A25.out).mono ?_); (case side1 => refine (Kd.S_reads' (e := 107) (base := w.heap.size) (ok := fun k_ => ((True ∧ some k_ ≠ (.slice Ao83 t547.length co83 : Value).ownBlock) ∧ some k_ ≠ (.slice Ao88 t552.length co88 : Value).ownBlock)) (n := t560.length) (c := co100) ?_).2.2; exact (by (with_reducible repeat (first | apply Kd.S_alloc | apply Kd.S_drewN | apply Kd.S_drew)); exact (Kd.S_mono (Kd.S_far (p := ⟨gb563, 1, none⟩) (Kd.S_far (p := ⟨gb563, 0, none⟩) (Kd.S_types HO562.out BK563.out (by decide)) (fun _ hk => hk.2) (.int .i64 t559)) (fun _ hk => hk.2) (.slice Ao100 t560.length co100)) (fun _ h_ => h_.1)))); (case side2 => exact (Kd.S_reads' HO562.out).2.1); (case side3 => refine (Kd.S_reads' (e := 107) (base := w.heap.size) (ok := fun k_ => ((True ∧ some k_ ≠ (.slice Ao88 t552.length co88 : Value).ownBlock) ∧ some k_ ≠ (.slice Ao100 t560.length co100 : Value).ownBlock)) (n := t547.length) (c := co83) ?_).2.2; exact (by (with_reducible repeat (first | apply Kd.S_alloc | apply Kd.S_drewN | apply Kd.S_drew)); exact (Kd.S_mono (Kd.S_far (p := ⟨gb563, 1, none⟩) (Kd.S_far (p := ⟨gb563, 0, none⟩) (Kd.S_types HO549.out BK563.out (by decide)) (fun _ hk => hk.2) (.int .i64 t559)) (fun _ hk => hk.2) (.slice Ao100 t560.length co100)) (fun _ h_ => h_.1)))); (case side4 => exact (Kd.S_reads' HO549.out).2.1); rintro e w102 ⟨rfl, hb⟩; refine ⟨_, rfl, ?_⟩; replace HO549 := Aside0.mk (Kd.S_below (by (with_reducible repeat (first | apply Kd.S_alloc | apply Kd.S_drewN | apply Kd.S_drew)); exact (Kd.S_mono (Kd.S_far (p := ⟨gb563, 1, none⟩) (Kd.S_far (p := ⟨gb563, 0, none⟩) (Kd.S_types HO549.out BK563.out (by decide)) (fun _ hk => hk.2) (.int .i64 t559)) (fun _ hk => hk.2) (.slice Ao100 t560.length co100)) (fun _ h_ => h_.1))) hb); replace HO554 := Aside0.mk (Kd.S_below (by (with_reducible repeat (first | apply Kd.S_alloc | apply Kd.S_drewN | apply Kd.S_drew)); exact (Kd.S_mono (Kd.S_far (p := ⟨gb563, 1, none⟩) (Kd.S_far (p := ⟨gb563, 0, none⟩) (Kd.S_types HO554.out BK563.out (by decide)) (fun _ hk => hk.2) (.int .i64 t559)) (fun _ hk => hk.2) (.slice Ao100 t560.length co100)) (fun _ h_ => h_.1))) hb); replace HO562 := Aside0.mk (Kd.S_below (by (with_reducible repeat (first | apply Kd.S_alloc | apply Kd.S_drewN | apply Kd.S_drew)); exact (Kd.S_mono (Kd.S_far (p := ⟨gb563, 1, none⟩) (Kd.S_far (p := ⟨gb563, 0, none⟩) (Kd.S_types HO562.out BK563.out (by decide)) (fun _ hk => hk.2) (.int .i64 t559)) (fun _ hk => hk.2) (.slice Ao100 t560.length co100)) (fun _ h_ => h_.1))) hb); replace BK550 := KF BK550 hb; replace BK555 := KF BK555 hb; replace BK563 := KP BK563 #[.int .i64 t559, .slice Ao100 t560.length co100] hb; replace HB := BS hb; clear hb; have hcz103 := cz2 BK555) | ((with_reducible refine gate_callee (f := 57) rfl ?_); refine goesL_ (some 30) rfl rfl Try.func57 KR rfl #[.agg #[.int .i64 t551, .slice Ao88 t552.length co88], .int .i64 1] rfl TA ?_; (with_reducible refine (laws_heldCache.calls k t551 _ _ t552 1 t565 _ ?side1 ?side2 A27.out).mono ?_); (case side1 => exact CW ((Kd.S_reads' HO554.out).2.2)); (case side2 => exact (Kd.S_reads' HO554.out).2.1); rintro e w104 ⟨rfl, hb⟩; refine ⟨_, rfl, ?_⟩; replace HO549 := Aside0.mk (Kd.S_below (by (with_reducible repeat (first | apply Kd.S_alloc | apply Kd.S_drewN | apply Kd.S_drew)); exact HO549.out) hb); replace HO554 := Aside0.mk (Kd.S_below (by (with_reducible repeat (first | apply Kd.S_alloc | apply Kd.S_drewN | apply Kd.S_drew)); exact HO554.out) hb); replace HO562 := Aside0.mk (Kd.S_below (by (with_reducible repeat (first | apply Kd.S_alloc | apply Kd.S_drewN | apply Kd.S_drew)); exact HO562.out) hb); replace BK550 := KB BK550 hb; replace BK555 := KB BK555 hb; replace BK563 := KB BK563 hb; replace HB := BS hb; clear hb))
       go_ret
       exact ⟨TE, TB⟩
    ·replace c26 := Bool.eq_false_iff.mpr c26
     subst c26
     replace H := iff' H
     obtain rfl := Option.some.inj H
     go_enter Try.func14, Try.ntmps14
     go_wp2_with (first | ((with_reducible refine gate_callee (f := 53) rfl ?_); refine goesL_ (some 6) rfl rfl Try.func53 KR rfl #[] rfl TA ?_; (with_reducible refine (spec_NewCache.calls  t546 t547 _ A1.out).mono ?_); rintro e w105 ⟨v548, rfl, ho0, hb⟩; refine ⟨_, rfl, ?_⟩; have HO549 := Aside0.mk (Kd.S_lower ho0 (below_size TB)); replace HB := BS hb; clear hb; (try clear ho0)) | ((with_reducible refine gate_dst (N := 1) rfl ?_); refine bE 1 #[.int .i64 0, .slice none 0 0] 70 ?_; intro gb550 hg w106 hbox hb; replace HO549 := Aside0.mk (Kd.S_below (by (with_reducible repeat (first | apply Kd.S_alloc | apply Kd.S_drewN | apply Kd.S_drew)); exact HO549.out) hb); have BK550 := Aside0.mk (hbox); have GE550 := bG hg; replace HB := BS hb; clear hb hbox hg; have hcz107 := cz2 BK550; obtain ⟨Ao108, co108, eo108⟩ := Kd.S_slice HO549.out; subst eo108) | ((with_reducible refine gate_callee (f := 54) rfl ?_); refine goesL_ (some 7) rfl rfl Try.func54 KR rfl #[] rfl TA ?_; (with_reducible refine (impl_NewCache.calls  t551 t552 _ A2.out).mono ?_); rintro e w109 ⟨v553, rfl, ho0, hb⟩; refine ⟨_, rfl, ?_⟩; have HO554 := Aside0.mk (Kd.S_lower (Kd.S_new' ho0 (Kd.S_lt (by (with_reducible repeat (first | apply Kd.S_alloc | apply Kd.S_drewN | apply Kd.S_drew)); exact (Kd.S_mono (Kd.S_far (p := ⟨gb550, 1, none⟩) (Kd.S_far (p := ⟨gb550, 0, none⟩) (Kd.S_types HO549.out BK550.out (by decide)) (fun _ hk => hk.2) (.int .i64 t546)) (fun _ hk => hk.2) (.slice Ao108 t547.length co108)) (fun _ h_ => h_.1))))) (below_size TB)); replace HO549 := Aside0.mk (Kd.S_elder' (by (with_reducible repeat (first | apply Kd.S_alloc | apply Kd.S_drewN | apply Kd.S_drew)); exact (Kd.S_mono (Kd.S_far (p := ⟨gb550, 1, none⟩) (Kd.S_far (p := ⟨gb550, 0, none⟩) (Kd.S_types HO549.out BK550.out (by decide)) (fun _ hk => hk.2) (.int .i64 t546)) (fun _ hk => hk.2) (.slice Ao108 t547.length co108)) (fun _ h_ => h_.1))) (Kd.S_base ho0) hb); replace BK550 := KP BK550 #[.int .i64 t546, .slice Ao108 t547.length co108] hb; replace HB := BS hb; clear hb; (try clear ho0)) | ((with_reducible refine gate_dst (N := 2) rfl ?_); refine bE 2 #[.int .i64 0, .slice none 0 0] 70 ?_; intro gb555 hg w110 hbox hb; replace HO549 := Aside0.mk (Kd.S_below (by (with_reducible repeat (first | apply Kd.S_alloc | apply Kd.S_drewN | apply Kd.S_drew)); exact HO549.out) hb); replace HO554 := Aside0.mk (Kd.S_below (by (with_reducible repeat (first | apply Kd.S_alloc | apply Kd.S_drewN | apply Kd.S_drew)); exact HO554.out) hb); have BK555 := Aside0.mk (hbox); have GE555 := bG hg; replace HB := BS hb; have NB550_555 := bN BK550 hg; have NB555_550 := bM BK550 hg; replace BK550 := KB BK550 hb; clear hb hbox hg; obtain ⟨hnb111, hnc111⟩ := nn NB555_550; have hcz112 := cz2 BK555; obtain ⟨Ao113, co113, eo113⟩ := Kd.S_slice HO554.out; subst eo113; have hcz114 := cz2 BK550) | ((with_reducible refine gate_callee (f := 55) rfl ?_); refine goesL_ (some 10) rfl rfl Try.func55 KR rfl #[.agg #[.int .i64 t551, .slice Ao113 t552.length co113], .agg #[.int .i64 t546, .slice Ao108 t547.length co108]] rfl TA ?_; (with_reducible refine (laws_eqCache.calls k t551 _ _ t552 t546 _ _ t547 true _ ?side1 ?side2 ?side3 ?side4 A3.out).mono ?_); (case side1 => refine (Kd.S_reads' (e := 107) (base := w.heap.size) (ok := fun k_ => (True ∧ some k_ ≠ (.slice Ao108 t547.length co108 : Value).ownBlock)) (n := t552.length) (c := co113) ?_).2.2; exact (by (with_reducible repeat (first | apply Kd.S_alloc | apply Kd.S_drewN | apply Kd.S_drew)); exact (Kd.S_mono (Kd.S_far (p := ⟨gb555, 1, none⟩) (Kd.S_far (p := ⟨gb555, 0, none⟩) (Kd.S_types HO554.out BK555.out (by decide)) (fun _ hk => hk.2) (.int .i64 t551)) (fun _ hk => hk.2) (.slice Ao113 t552.length co113)) (fun _ h_ => h_.1)))); (case side2 => exact (Kd.S_reads' HO554.out).2.1); (case side3 => refine (Kd.S_reads' (e := 107) (base := w.heap.size) (ok := fun k_ => (True ∧ some k_ ≠ (.slice Ao113 t552.length co113 : Value).ownBlock)) (n := t547.length) (c := co108) ?_).2.2; exact (by (with_reducible repeat (first | apply Kd.S_alloc | apply Kd.S_drewN | apply Kd.S_drew)); exact (Kd.S_mono (Kd.S_far (p := ⟨gb555, 1, none⟩) (Kd.S_far (p := ⟨gb555, 0, none⟩) (Kd.S_types HO549.out BK555.out (by decide)) (fun _ hk => hk.2) (.int .i64 t551)) (fun _ hk => hk.2) (.slice Ao113 t552.length co113)) (fun _ h_ => h_.1)))); (case side4 => exact (Kd.S_reads' HO549.out).2.1); rintro e w115 ⟨rfl, hb⟩; refine ⟨_, rfl, ?_⟩; replace HO549 := Aside0.mk (Kd.S_below (by (with_reducible repeat (first | apply Kd.S_alloc | apply Kd.S_drewN | apply Kd.S_drew)); exact (Kd.S_mono (Kd.S_far (p := ⟨gb555, 1, none⟩) (Kd.S_far (p := ⟨gb555, 0, none⟩) (Kd.S_types HO549.out BK555.out (by decide)) (fun _ hk => hk.2) (.int .i64 t551)) (fun _ hk => hk.2) (.slice Ao113 t552.length co113)) (fun _ h_ => h_.1))) hb); replace HO554 := Aside0.mk (Kd.S_below (by (with_reducible repeat (first | apply Kd.S_alloc | apply Kd.S_drewN | apply Kd.S_drew)); exact (Kd.S_mono (Kd.S_far (p := ⟨gb555, 1, none⟩) (Kd.S_far (p := ⟨gb555, 0, none⟩) (Kd.S_types HO554.out BK555.out (by decide)) (fun _ hk => hk.2) (.int .i64 t551)) (fun _ hk => hk.2) (.slice Ao113 t552.length co113)) (fun _ h_ => h_.1))) hb); replace BK550 := KF BK550 hb; replace BK555 := KP BK555 #[.int .i64 t551, .slice Ao113 t552.length co113] hb; replace HB := BS hb; clear hb; have hcz116 := cz2 BK555) | ((with_reducible refine gate_callee (f := 56) rfl ?_); refine goesL_ (some 14) rfl rfl Try.func56 KR rfl #[.agg #[.int .i64 t551, .slice Ao113 t552.length co113], .int .i64 1] rfl TA ?_; (with_reducible refine (laws_markCache.calls t551 _ _ t552 1 t557 _ ?side1 ?side2 A5.out).mono ?_); (case side1 => exact CW ((Kd.S_reads' HO554.out).2.2)); (case side2 => exact (Kd.S_reads' HO554.out).2.1); rintro e w117 ⟨rfl, hb⟩; refine ⟨_, rfl, ?_⟩; replace HO549 := Aside0.mk (Kd.S_below (by (with_reducible repeat (first | apply Kd.S_alloc | apply Kd.S_drewN | apply Kd.S_drew)); exact HO549.out) hb); replace HO554 := Aside0.mk (Kd.S_below (by (with_reducible repeat (first | apply Kd.S_alloc | apply Kd.S_drewN | apply Kd.S_drew)); exact HO554.out) hb); replace BK550 := KB BK550 hb; replace BK555 := KB BK555 hb; replace HB := BS hb; clear hb; have hcz118 := cz2 BK555) | ((with_reducible refine gate_callee (f := 57) rfl ?_); refine goesL_ (some 17) rfl rfl Try.func57 KR rfl #[.agg #[.int .i64 t551, .slice Ao113 t552.length co113], .int .i64 1] rfl TA ?_; (with_reducible refine (laws_heldCache.calls k t551 _ _ t552 1 t558 _ ?side1 ?side2 A6.out).mono ?_); (case side1 => exact CW ((Kd.S_reads' HO554.out).2.2)); (case side2 => exact (Kd.S_reads' HO554.out).2.1); rintro e w119 ⟨rfl, hb⟩; refine ⟨_, rfl, ?_⟩; replace HO549 := Aside0.mk (Kd.S_below (by (with_reducible repeat (first | apply Kd.S_alloc | apply Kd.S_drewN | apply Kd.S_drew)); exact HO549.out) hb); replace HO554 := Aside0.mk (Kd.S_below (by (with_reducible repeat (first | apply Kd.S_alloc | apply Kd.S_drewN | apply Kd.S_drew)); exact HO554.out) hb); replace BK550 := KB BK550 hb; replace BK555 := KB BK555 hb; replace HB := BS hb; clear hb) | ((with_reducible refine gate_callee (f := 54) rfl ?_); refine goesL_ (some 23) rfl rfl Try.func54 KR rfl #[] rfl TA ?_; (with_reducible refine (impl_NewCache.calls  t559 t560 _ A24.out).mono ?_); rintro e w120 ⟨v561, rfl, ho0, hb⟩; refine ⟨_, rfl, ?_⟩; have HO562 := Aside0.mk (Kd.S_lower (Kd.S_new' (Kd.S_new' ho0 (Kd.S_lt (by (with_reducible repeat (first | apply Kd.S_alloc | apply Kd.S_drewN | apply Kd.S_drew)); exact HO549.out))) (Kd.S_lt (by (with_reducible repeat (first | apply Kd.S_alloc | apply Kd.S_drewN | apply Kd.S_drew)); exact HO554.out))) (below_size TB)); replace HO549 := Aside0.mk (Kd.S_elder' (by (with_reducible repeat (first | apply Kd.S_alloc | apply Kd.S_drewN | apply Kd.S_drew)); exact HO549.out) (Kd.S_base ho0) hb); replace HO554 := Aside0.mk (Kd.S_elder' (by (with_reducible repeat (first | apply Kd.S_alloc | apply Kd.S_drewN | apply Kd.S_drew)); exact HO554.out) (Kd.S_base ho0) hb); replace BK550 := KB BK550 hb; replace BK555 := KB BK555 hb; replace HB := BS hb; clear hb; (try clear ho0)) | ((with_reducible refine gate_dst (N := 5) rfl ?_); refine bE 5 #[.int .i64 0, .slice none 0 0] 70 ?_; intro gb563 hg w121 hbox hb; replace HO549 := Aside0.mk (Kd.S_below (by (with_reducible repeat (first | apply Kd.S_alloc | apply Kd.S_drewN | apply Kd.S_drew)); exact HO549.out) hb); replace HO554 := Aside0.mk (Kd.S_below (by (with_reducible repeat (first | apply Kd.S_alloc | apply Kd.S_drewN | apply Kd.S_drew)); exact HO554.out) hb); replace HO562 := Aside0.mk (Kd.S_below (by (with_reducible repeat (first | apply Kd.S_alloc | apply Kd.S_drewN | apply Kd.S_drew)); exact HO562.out) hb); have BK563 := Aside0.mk (hbox); have GE563 := bG hg; replace HB := BS hb; have NB550_563 := bN BK550 hg; have NB563_550 := bM BK550 hg; replace BK550 := KB BK550 hb; have NB555_563 := bN BK555 hg; have NB563_555 := bM BK555 hg; replace BK555 := KB BK555 hb; clear hb hbox hg; obtain ⟨hnb122, hnc122⟩ := nn NB563_550; obtain ⟨hnb123, hnc123⟩ := nn NB563_555; have hcz124 := cz2 BK563; obtain ⟨Ao125, co125, eo125⟩ := Kd.S_slice HO562.out; subst eo125; have hcz126 := cz2 BK550) | ((with_reducible refine gate_callee (f := 55) rfl ?_); refine goesL_ (some 26) rfl rfl Try.func55 KR rfl #[.agg #[.int .i64 t559, .slice Ao125 t560.length co125], .agg #[.int .i64 t546, .slice Ao108 t547.length co108]] rfl TA ?_; (with_reducible refine (laws_eqCache.calls k t559 _ _ t560 t546 _ _ t547 false _ ?side1 ?side2 ?side3 ?side4 A25.out).mono ?_); (case side1 => refine (Kd.S_reads' (e := 107) (base := w.heap.size) (ok := fun k_ => ((True ∧ some k_ ≠ (.slice Ao108 t547.length co108 : Value).ownBlock) ∧ some k_ ≠ (.slice Ao113 t552.length co113 : Value).ownBlock)) (n := t560.length) (c := co125) ?_).2.2; exact (by (with_reducible repeat (first | apply Kd.S_alloc | apply Kd.S_drewN | apply Kd.S_drew)); exact (Kd.S_mono (Kd.S_far (p := ⟨gb563, 1, none⟩) (Kd.S_far (p := ⟨gb563, 0, none⟩) (Kd.S_types HO562.out BK563.out (by decide)) (fun _ hk => hk.2) (.int .i64 t559)) (fun _ hk => hk.2) (.slice Ao125 t560.length co125)) (fun _ h_ => h_.1)))); (case side2 => exact (Kd.S_reads' HO562.out).2.1); (case side3 => refine (Kd.S_reads' (e := 107) (base := w.heap.size) (ok := fun k_ => ((True ∧ some k_ ≠ (.slice Ao113 t552.length co113 : Value).ownBlock) ∧ some k_ ≠ (.slice Ao125 t560.length co125 : Value).ownBlock)) (n := t547.length) (c := co108) ?_).2.2; exact (by (with_reducible repeat (first | apply Kd.S_alloc | apply Kd.S_drewN | apply Kd.S_drew)); exact (Kd.S_mono (Kd.S_far (p := ⟨gb563, 1, none⟩) (Kd.S_far (p := ⟨gb563, 0, none⟩) (Kd.S_types HO549.out BK563.out (by decide)) (fun _ hk => hk.2) (.int .i64 t559)) (fun _ hk => hk.2) (.slice Ao125 t560.length co125)) (fun _ h_ => h_.1)))); (case side4 => exact (Kd.S_reads' HO549.out).2.1); rintro e w127 ⟨rfl, hb⟩; refine ⟨_, rfl, ?_⟩; replace HO549 := Aside0.mk (Kd.S_below (by (with_reducible repeat (first | apply Kd.S_alloc | apply Kd.S_drewN | apply Kd.S_drew)); exact (Kd.S_mono (Kd.S_far (p := ⟨gb563, 1, none⟩) (Kd.S_far (p := ⟨gb563, 0, none⟩) (Kd.S_types HO549.out BK563.out (by decide)) (fun _ hk => hk.2) (.int .i64 t559)) (fun _ hk => hk.2) (.slice Ao125 t560.length co125)) (fun _ h_ => h_.1))) hb); replace HO554 := Aside0.mk (Kd.S_below (by (with_reducible repeat (first | apply Kd.S_alloc | apply Kd.S_drewN | apply Kd.S_drew)); exact (Kd.S_mono (Kd.S_far (p := ⟨gb563, 1, none⟩) (Kd.S_far (p := ⟨gb563, 0, none⟩) (Kd.S_types HO554.out BK563.out (by decide)) (fun _ hk => hk.2) (.int .i64 t559)) (fun _ hk => hk.2) (.slice Ao125 t560.length co125)) (fun _ h_ => h_.1))) hb); replace HO562 := Aside0.mk (Kd.S_below (by (with_reducible repeat (first | apply Kd.S_alloc | apply Kd.S_drewN | apply Kd.S_drew)); exact (Kd.S_mono (Kd.S_far (p := ⟨gb563, 1, none⟩) (Kd.S_far (p := ⟨gb563, 0, none⟩) (Kd.S_types HO562.out BK563.out (by decide)) (fun _ hk => hk.2) (.int .i64 t559)) (fun _ hk => hk.2) (.slice Ao125 t560.length co125)) (fun _ h_ => h_.1))) hb); replace BK550 := KF BK550 hb; replace BK555 := KF BK555 hb; replace BK563 := KP BK563 #[.int .i64 t559, .slice Ao125 t560.length co125] hb; replace HB := BS hb; clear hb))
     go_ret
     exact ⟨TE, TB⟩
   ·rw [if_neg c23] at H
    have c23b0 : (t558 == t557) = false := beq_eq_false_iff_ne.mpr c23
    have c23b1 : (t558 != t557) = true := bne_iff_ne.mpr c23
    obtain rfl := Option.some.inj H
    go_enter Try.func14, Try.ntmps14
    go_wp2_with (first | ((with_reducible refine gate_callee (f := 53) rfl ?_); refine goesL_ (some 6) rfl rfl Try.func53 KR rfl #[] rfl TA ?_; (with_reducible refine (spec_NewCache.calls  t546 t547 _ A1.out).mono ?_); rintro e w128 ⟨v548, rfl, ho0, hb⟩; refine ⟨_, rfl, ?_⟩; have HO549 := Aside0.mk (Kd.S_lower ho0 (below_size TB)); replace HB := BS hb; clear hb; (try clear ho0)) | ((with_reducible refine gate_dst (N := 1) rfl ?_); refine bE 1 #[.int .i64 0, .slice none 0 0] 70 ?_; intro gb550 hg w129 hbox hb; replace HO549 := Aside0.mk (Kd.S_below (by (with_reducible repeat (first | apply Kd.S_alloc | apply Kd.S_drewN | apply Kd.S_drew)); exact HO549.out) hb); have BK550 := Aside0.mk (hbox); have GE550 := bG hg; replace HB := BS hb; clear hb hbox hg; have hcz130 := cz2 BK550; obtain ⟨Ao131, co131, eo131⟩ := Kd.S_slice HO549.out; subst eo131) | ((with_reducible refine gate_callee (f := 54) rfl ?_); refine goesL_ (some 7) rfl rfl Try.func54 KR rfl #[] rfl TA ?_; (with_reducible refine (impl_NewCache.calls  t551 t552 _ A2.out).mono ?_); rintro e w132 ⟨v553, rfl, ho0, hb⟩; refine ⟨_, rfl, ?_⟩; have HO554 := Aside0.mk (Kd.S_lower (Kd.S_new' ho0 (Kd.S_lt (by (with_reducible repeat (first | apply Kd.S_alloc | apply Kd.S_drewN | apply Kd.S_drew)); exact (Kd.S_mono (Kd.S_far (p := ⟨gb550, 1, none⟩) (Kd.S_far (p := ⟨gb550, 0, none⟩) (Kd.S_types HO549.out BK550.out (by decide)) (fun _ hk => hk.2) (.int .i64 t546)) (fun _ hk => hk.2) (.slice Ao131 t547.length co131)) (fun _ h_ => h_.1))))) (below_size TB)); replace HO549 := Aside0.mk (Kd.S_elder' (by (with_reducible repeat (first | apply Kd.S_alloc | apply Kd.S_drewN | apply Kd.S_drew)); exact (Kd.S_mono (Kd.S_far (p := ⟨gb550, 1, none⟩) (Kd.S_far (p := ⟨gb550, 0, none⟩) (Kd.S_types HO549.out BK550.out (by decide)) (fun _ hk => hk.2) (.int .i64 t546)) (fun _ hk => hk.2) (.slice Ao131 t547.length co131)) (fun _ h_ => h_.1))) (Kd.S_base ho0) hb); replace BK550 := KP BK550 #[.int .i64 t546, .slice Ao131 t547.length co131] hb; replace HB := BS hb; clear hb; (try clear ho0)) | ((with_reducible refine gate_dst (N := 2) rfl ?_); refine bE 2 #[.int .i64 0, .slice none 0 0] 70 ?_; intro gb555 hg w133 hbox hb; replace HO549 := Aside0.mk (Kd.S_below (by (with_reducible repeat (first | apply Kd.S_alloc | apply Kd.S_drewN | apply Kd.S_drew)); exact HO549.out) hb); replace HO554 := Aside0.mk (Kd.S_below (by (with_reducible repeat (first | apply Kd.S_alloc | apply Kd.S_drewN | apply Kd.S_drew)); exact HO554.out) hb); have BK555 := Aside0.mk (hbox); have GE555 := bG hg; replace HB := BS hb; have NB550_555 := bN BK550 hg; have NB555_550 := bM BK550 hg; replace BK550 := KB BK550 hb; clear hb hbox hg; obtain ⟨hnb134, hnc134⟩ := nn NB555_550; have hcz135 := cz2 BK555; obtain ⟨Ao136, co136, eo136⟩ := Kd.S_slice HO554.out; subst eo136; have hcz137 := cz2 BK550) | ((with_reducible refine gate_callee (f := 55) rfl ?_); refine goesL_ (some 10) rfl rfl Try.func55 KR rfl #[.agg #[.int .i64 t551, .slice Ao136 t552.length co136], .agg #[.int .i64 t546, .slice Ao131 t547.length co131]] rfl TA ?_; (with_reducible refine (laws_eqCache.calls k t551 _ _ t552 t546 _ _ t547 true _ ?side1 ?side2 ?side3 ?side4 A3.out).mono ?_); (case side1 => refine (Kd.S_reads' (e := 107) (base := w.heap.size) (ok := fun k_ => (True ∧ some k_ ≠ (.slice Ao131 t547.length co131 : Value).ownBlock)) (n := t552.length) (c := co136) ?_).2.2; exact (by (with_reducible repeat (first | apply Kd.S_alloc | apply Kd.S_drewN | apply Kd.S_drew)); exact (Kd.S_mono (Kd.S_far (p := ⟨gb555, 1, none⟩) (Kd.S_far (p := ⟨gb555, 0, none⟩) (Kd.S_types HO554.out BK555.out (by decide)) (fun _ hk => hk.2) (.int .i64 t551)) (fun _ hk => hk.2) (.slice Ao136 t552.length co136)) (fun _ h_ => h_.1)))); (case side2 => exact (Kd.S_reads' HO554.out).2.1); (case side3 => refine (Kd.S_reads' (e := 107) (base := w.heap.size) (ok := fun k_ => (True ∧ some k_ ≠ (.slice Ao136 t552.length co136 : Value).ownBlock)) (n := t547.length) (c := co131) ?_).2.2; exact (by (with_reducible repeat (first | apply Kd.S_alloc | apply Kd.S_drewN | apply Kd.S_drew)); exact (Kd.S_mono (Kd.S_far (p := ⟨gb555, 1, none⟩) (Kd.S_far (p := ⟨gb555, 0, none⟩) (Kd.S_types HO549.out BK555.out (by decide)) (fun _ hk => hk.2) (.int .i64 t551)) (fun _ hk => hk.2) (.slice Ao136 t552.length co136)) (fun _ h_ => h_.1)))); (case side4 => exact (Kd.S_reads' HO549.out).2.1); rintro e w138 ⟨rfl, hb⟩; refine ⟨_, rfl, ?_⟩; replace HO549 := Aside0.mk (Kd.S_below (by (with_reducible repeat (first | apply Kd.S_alloc | apply Kd.S_drewN | apply Kd.S_drew)); exact (Kd.S_mono (Kd.S_far (p := ⟨gb555, 1, none⟩) (Kd.S_far (p := ⟨gb555, 0, none⟩) (Kd.S_types HO549.out BK555.out (by decide)) (fun _ hk => hk.2) (.int .i64 t551)) (fun _ hk => hk.2) (.slice Ao136 t552.length co136)) (fun _ h_ => h_.1))) hb); replace HO554 := Aside0.mk (Kd.S_below (by (with_reducible repeat (first | apply Kd.S_alloc | apply Kd.S_drewN | apply Kd.S_drew)); exact (Kd.S_mono (Kd.S_far (p := ⟨gb555, 1, none⟩) (Kd.S_far (p := ⟨gb555, 0, none⟩) (Kd.S_types HO554.out BK555.out (by decide)) (fun _ hk => hk.2) (.int .i64 t551)) (fun _ hk => hk.2) (.slice Ao136 t552.length co136)) (fun _ h_ => h_.1))) hb); replace BK550 := KF BK550 hb; replace BK555 := KP BK555 #[.int .i64 t551, .slice Ao136 t552.length co136] hb; replace HB := BS hb; clear hb; have hcz139 := cz2 BK555) | ((with_reducible refine gate_callee (f := 56) rfl ?_); refine goesL_ (some 14) rfl rfl Try.func56 KR rfl #[.agg #[.int .i64 t551, .slice Ao136 t552.length co136], .int .i64 1] rfl TA ?_; (with_reducible refine (laws_markCache.calls t551 _ _ t552 1 t557 _ ?side1 ?side2 A5.out).mono ?_); (case side1 => exact CW ((Kd.S_reads' HO554.out).2.2)); (case side2 => exact (Kd.S_reads' HO554.out).2.1); rintro e w140 ⟨rfl, hb⟩; refine ⟨_, rfl, ?_⟩; replace HO549 := Aside0.mk (Kd.S_below (by (with_reducible repeat (first | apply Kd.S_alloc | apply Kd.S_drewN | apply Kd.S_drew)); exact HO549.out) hb); replace HO554 := Aside0.mk (Kd.S_below (by (with_reducible repeat (first | apply Kd.S_alloc | apply Kd.S_drewN | apply Kd.S_drew)); exact HO554.out) hb); replace BK550 := KB BK550 hb; replace BK555 := KB BK555 hb; replace HB := BS hb; clear hb; have hcz141 := cz2 BK555) | ((with_reducible refine gate_callee (f := 57) rfl ?_); refine goesL_ (some 17) rfl rfl Try.func57 KR rfl #[.agg #[.int .i64 t551, .slice Ao136 t552.length co136], .int .i64 1] rfl TA ?_; (with_reducible refine (laws_heldCache.calls k t551 _ _ t552 1 t558 _ ?side1 ?side2 A6.out).mono ?_); (case side1 => exact CW ((Kd.S_reads' HO554.out).2.2)); (case side2 => exact (Kd.S_reads' HO554.out).2.1); rintro e w142 ⟨rfl, hb⟩; refine ⟨_, rfl, ?_⟩; replace HO549 := Aside0.mk (Kd.S_below (by (with_reducible repeat (first | apply Kd.S_alloc | apply Kd.S_drewN | apply Kd.S_drew)); exact HO549.out) hb); replace HO554 := Aside0.mk (Kd.S_below (by (with_reducible repeat (first | apply Kd.S_alloc | apply Kd.S_drewN | apply Kd.S_drew)); exact HO554.out) hb); replace BK550 := KB BK550 hb; replace BK555 := KB BK555 hb; replace HB := BS hb; clear hb))
    go_ret
    exact ⟨TE, TB⟩
 ·replace c4 := Bool.eq_false_iff.mpr c4
  subst c4
  replace H := iff' H
  obtain rfl := Option.some.inj H
  go_enter Try.func14, Try.ntmps14
  go_wp2_with (first | ((with_reducible refine gate_callee (f := 53) rfl ?_); refine goesL_ (some 6) rfl rfl Try.func53 KR rfl #[] rfl TA ?_; (with_reducible refine (spec_NewCache.calls  t546 t547 _ A1.out).mono ?_); rintro e w143 ⟨v548, rfl, ho0, hb⟩; refine ⟨_, rfl, ?_⟩; have HO549 := Aside0.mk (Kd.S_lower ho0 (below_size TB)); replace HB := BS hb; clear hb; (try clear ho0)) | ((with_reducible refine gate_dst (N := 1) rfl ?_); refine bE 1 #[.int .i64 0, .slice none 0 0] 70 ?_; intro gb550 hg w144 hbox hb; replace HO549 := Aside0.mk (Kd.S_below (by (with_reducible repeat (first | apply Kd.S_alloc | apply Kd.S_drewN | apply Kd.S_drew)); exact HO549.out) hb); have BK550 := Aside0.mk (hbox); have GE550 := bG hg; replace HB := BS hb; clear hb hbox hg; have hcz145 := cz2 BK550; obtain ⟨Ao146, co146, eo146⟩ := Kd.S_slice HO549.out; subst eo146) | ((with_reducible refine gate_callee (f := 54) rfl ?_); refine goesL_ (some 7) rfl rfl Try.func54 KR rfl #[] rfl TA ?_; (with_reducible refine (impl_NewCache.calls  t551 t552 _ A2.out).mono ?_); rintro e w147 ⟨v553, rfl, ho0, hb⟩; refine ⟨_, rfl, ?_⟩; have HO554 := Aside0.mk (Kd.S_lower (Kd.S_new' ho0 (Kd.S_lt (by (with_reducible repeat (first | apply Kd.S_alloc | apply Kd.S_drewN | apply Kd.S_drew)); exact (Kd.S_mono (Kd.S_far (p := ⟨gb550, 1, none⟩) (Kd.S_far (p := ⟨gb550, 0, none⟩) (Kd.S_types HO549.out BK550.out (by decide)) (fun _ hk => hk.2) (.int .i64 t546)) (fun _ hk => hk.2) (.slice Ao146 t547.length co146)) (fun _ h_ => h_.1))))) (below_size TB)); replace HO549 := Aside0.mk (Kd.S_elder' (by (with_reducible repeat (first | apply Kd.S_alloc | apply Kd.S_drewN | apply Kd.S_drew)); exact (Kd.S_mono (Kd.S_far (p := ⟨gb550, 1, none⟩) (Kd.S_far (p := ⟨gb550, 0, none⟩) (Kd.S_types HO549.out BK550.out (by decide)) (fun _ hk => hk.2) (.int .i64 t546)) (fun _ hk => hk.2) (.slice Ao146 t547.length co146)) (fun _ h_ => h_.1))) (Kd.S_base ho0) hb); replace BK550 := KP BK550 #[.int .i64 t546, .slice Ao146 t547.length co146] hb; replace HB := BS hb; clear hb; (try clear ho0)) | ((with_reducible refine gate_dst (N := 2) rfl ?_); refine bE 2 #[.int .i64 0, .slice none 0 0] 70 ?_; intro gb555 hg w148 hbox hb; replace HO549 := Aside0.mk (Kd.S_below (by (with_reducible repeat (first | apply Kd.S_alloc | apply Kd.S_drewN | apply Kd.S_drew)); exact HO549.out) hb); replace HO554 := Aside0.mk (Kd.S_below (by (with_reducible repeat (first | apply Kd.S_alloc | apply Kd.S_drewN | apply Kd.S_drew)); exact HO554.out) hb); have BK555 := Aside0.mk (hbox); have GE555 := bG hg; replace HB := BS hb; have NB550_555 := bN BK550 hg; have NB555_550 := bM BK550 hg; replace BK550 := KB BK550 hb; clear hb hbox hg; obtain ⟨hnb149, hnc149⟩ := nn NB555_550; have hcz150 := cz2 BK555; obtain ⟨Ao151, co151, eo151⟩ := Kd.S_slice HO554.out; subst eo151; have hcz152 := cz2 BK550) | ((with_reducible refine gate_callee (f := 55) rfl ?_); refine goesL_ (some 10) rfl rfl Try.func55 KR rfl #[.agg #[.int .i64 t551, .slice Ao151 t552.length co151], .agg #[.int .i64 t546, .slice Ao146 t547.length co146]] rfl TA ?_; (with_reducible refine (laws_eqCache.calls k t551 _ _ t552 t546 _ _ t547 false _ ?side1 ?side2 ?side3 ?side4 A3.out).mono ?_); (case side1 => refine (Kd.S_reads' (e := 107) (base := w.heap.size) (ok := fun k_ => (True ∧ some k_ ≠ (.slice Ao146 t547.length co146 : Value).ownBlock)) (n := t552.length) (c := co151) ?_).2.2; exact (by (with_reducible repeat (first | apply Kd.S_alloc | apply Kd.S_drewN | apply Kd.S_drew)); exact (Kd.S_mono (Kd.S_far (p := ⟨gb555, 1, none⟩) (Kd.S_far (p := ⟨gb555, 0, none⟩) (Kd.S_types HO554.out BK555.out (by decide)) (fun _ hk => hk.2) (.int .i64 t551)) (fun _ hk => hk.2) (.slice Ao151 t552.length co151)) (fun _ h_ => h_.1)))); (case side2 => exact (Kd.S_reads' HO554.out).2.1); (case side3 => refine (Kd.S_reads' (e := 107) (base := w.heap.size) (ok := fun k_ => (True ∧ some k_ ≠ (.slice Ao151 t552.length co151 : Value).ownBlock)) (n := t547.length) (c := co146) ?_).2.2; exact (by (with_reducible repeat (first | apply Kd.S_alloc | apply Kd.S_drewN | apply Kd.S_drew)); exact (Kd.S_mono (Kd.S_far (p := ⟨gb555, 1, none⟩) (Kd.S_far (p := ⟨gb555, 0, none⟩) (Kd.S_types HO549.out BK555.out (by decide)) (fun _ hk => hk.2) (.int .i64 t551)) (fun _ hk => hk.2) (.slice Ao151 t552.length co151)) (fun _ h_ => h_.1)))); (case side4 => exact (Kd.S_reads' HO549.out).2.1); rintro e w153 ⟨rfl, hb⟩; refine ⟨_, rfl, ?_⟩; replace HO549 := Aside0.mk (Kd.S_below (by (with_reducible repeat (first | apply Kd.S_alloc | apply Kd.S_drewN | apply Kd.S_drew)); exact (Kd.S_mono (Kd.S_far (p := ⟨gb555, 1, none⟩) (Kd.S_far (p := ⟨gb555, 0, none⟩) (Kd.S_types HO549.out BK555.out (by decide)) (fun _ hk => hk.2) (.int .i64 t551)) (fun _ hk => hk.2) (.slice Ao151 t552.length co151)) (fun _ h_ => h_.1))) hb); replace HO554 := Aside0.mk (Kd.S_below (by (with_reducible repeat (first | apply Kd.S_alloc | apply Kd.S_drewN | apply Kd.S_drew)); exact (Kd.S_mono (Kd.S_far (p := ⟨gb555, 1, none⟩) (Kd.S_far (p := ⟨gb555, 0, none⟩) (Kd.S_types HO554.out BK555.out (by decide)) (fun _ hk => hk.2) (.int .i64 t551)) (fun _ hk => hk.2) (.slice Ao151 t552.length co151)) (fun _ h_ => h_.1))) hb); replace BK550 := KF BK550 hb; replace BK555 := KP BK555 #[.int .i64 t551, .slice Ao151 t552.length co151] hb; replace HB := BS hb; clear hb))
  go_ret
  exact ⟨TE, TB⟩

/-- THE ONE PURE STATEMENT of laws_FnExactNewCache. -/
def laws_FnExactNewCache.Pure : Prop := ∃ k, laws_FnExactNewCache.f k  = some true
end
end Go.Proofs.Ytioeomjjfajldaa.Pp
