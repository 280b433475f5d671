/- The functions that the law reaches, one Lean function and its proof for each; written by wip/pp of this workplace, joined by claimit.py. -/
import Derived.Test.YtioeomjjfajldaaProg
import Derived.Below
import Derived.Deep.Draws
import Derived.Deep.AppendLies
import Derived.Maps.AppendAt
import Derived.OwnWalk
import Derived.Laws.BytesArg
import Derived.Laws.MakeOwn
import Derived.Laws.OwnMore
import Derived.Deep.OwnRows
import Derived.Tactics
import Derived.Lib.ConvBytes
import Derived.Laws.Slices
import Derived.WalkKit
import Derived.KernelRfl
import Derived.RowKit3
import Derived.Deep.LoopGhost
import Derived.Deep.QuietTactic
import Derived.BigQuiet
import Derived.WideLaws
import Derived.Deep.DeepCutAuto
import Derived.Deep.CutBlock
import Derived.Deep.RegionHeld3
import Derived.Laws.Rows
import Derived.Lib.AppendStr
import Derived.ArgAppend
import Derived.Laws.IdiomCopy
import Derived.OrdersHeld
import Derived.Laws.BitsLemmas
import Derived.RowKit
import Derived.Test.YtioeomjjfajldaaXWords
import Derived.Test.YtioeomjjfajldaaXSq
import Derived.Test.YtioeomjjfajldaaWWords
import Derived.Test.YtioeomjjfajldaaWLast
import Derived.Test.YtioeomjjfajldaaWTab
import Derived.Test.YtioeomjjfajldaaWFour
import Derived.Test.YtioeomjjfajldaaWQPut
import Derived.Test.YtioeomjjfajldaaWApart
import Derived.Test.YtioeomjjfajldaaWArr
import Derived.Test.YtioeomjjfajldaaWZeros
import Derived.Test.YtioeomjjfajldaaWFoot
import Derived.Test.YtioeomjjfajldaaWKept
import Derived.Test.YtioeomjjfajldaaWShare
import Derived.Test.YtioeomjjfajldaaWN
import Derived.Test.YtioeomjjfajldaaWFootNe
import Derived.Test.YtioeomjjfajldaaWAt
import Derived.Test.YtioeomjjfajldaaWEqStruct
import Derived.Test.YtioeomjjfajldaaWRepsOne
import Derived.Test.YtioeomjjfajldaaWInv
import Derived.Test.YtioeomjjfajldaaWInvWords
import Derived.Test.YtioeomjjfajldaaWGuard
import Derived.Test.YtioeomjjfajldaaWNEv
import Derived.Test.YtioeomjjfajldaaWMore
namespace Go.Proofs.Ytioeomjjfajldaa.Pp
open Go.RowKit Go.Proofs.YtioeomjjfajldaaW.PrintWords Go.Proofs.YtioeomjjfajldaaW.PrintLast Go.Proofs.YtioeomjjfajldaaW.PrintMore
attribute [local go_sem] max2_int min2_int max_two min_two max_three min_three max_four min_four   -- for this text's walks alone
set_option linter.unusedVariables false
set_option linter.unusedSimpArgs false



set_option maxHeartbeats 8000000
set_option maxRecDepth 100000
section
def errW : Option Int → Value
 | none => .nilIface
 | some c => .iface 0 (.int .i64 c)
theorem errW_none : errW none = .nilIface := rfl
theorem errW_some (c : Int) : errW (some c) = .iface 0 (.int .i64 c) := rfl

theorem info3 : (Try.prog.info? 3).map (fun i => (i.zero, i.size, i.bytes)) = some (some (.int .i64 0), 1, 8) := by kernel_rfl
theorem info4 : (Try.prog.info? 4).map (fun i => (i.zero, i.size, i.bytes)) = some (some (.bool false), 1, 1) := by kernel_rfl
theorem info5 : (Try.prog.info? 5).map (fun i => (i.zero, i.size, i.bytes)) = some (some (.int .u8 0), 1, 1) := by kernel_rfl
theorem info65 : (Try.prog.info? 65).map (fun i => (i.zero, i.size, i.bytes)) = some (some (.agg #[(.int .i64 0), (.int .i64 0)]), 2, 16) := by kernel_rfl
-- the values' own types
/-! #### struct type 65 -/
structure S_Column where
 f0 : Int
 f1 : Int
def z_Column : S_Column := ⟨(0 : Int), (0 : Int)⟩
def k_Column : Kd S_Column := Kd.iso (Kd.pair (Kd.int .i64) (Kd.int .i64)) (fun x : S_Column => (x.f0, x.f1))
theorem k_Column_open {w : World} {x : S_Column} {cs : List Value} (h : k_Column.K w x cs) : cs = [.int .i64 x.f0, .int .i64 x.f1] := by
 obtain ⟨_, _, rfl, rfl, rfl⟩ := h
 exact rfl
theorem k_Column_openM {w : World} {base : Nat} {ok : Nat → Prop} {x : S_Column} {cs : List Value} (h : k_Column.M w base ok x cs) : cs = [.int .i64 x.f0, .int .i64 x.f1] := by
 obtain ⟨_, _, rfl, rfl, rfl⟩ := h
 exact rfl
theorem k_Column_mk (w : World) (x : S_Column)  : k_Column.K w x [.int .i64 x.f0, .int .i64 x.f1] := ⟨[.int .i64 x.f0], [.int .i64 x.f1], rfl, rfl, rfl⟩
theorem k_Column_mkM (w : World) (base : Nat) (ok : Nat → Prop) (x : S_Column)  : k_Column.M w base ok x [.int .i64 x.f0, .int .i64 x.f1] := ⟨[.int .i64 x.f0], [.int .i64 x.f1], rfl, rfl, rfl⟩
def rd_TColumn (xs : List S_Column) (i : Int) : S_Column := xs.getD i.toNat z_Column
theorem at_TColumn {w : World} {A : Option Addr} {n : Nat} {xs : List S_Column} (h : Kd.C k_Column w A n xs) (i : Int) (h0 : 0 ≤ i) (h1 : i < n) : ∃ ad , A = some ad ∧ w.cell? (ad.add (i.toNat * 2)) = some (.int .i64 (rd_TColumn xs i).f0) ∧ w.cell? ⟨(ad.add (i.toNat * 2)).block, (ad.add (i.toNat * 2)).off + 1, none⟩ = some (.int .i64 (rd_TColumn xs i).f1) := by
 obtain ⟨ad, c, e, _, hK, hc0⟩ := Kd.C_get h z_Column i h0 h1
 have hc : ∀ j u, c[j]? = some u → w.cell? (ad.add (i.toNat * 2 + j)) = some u := hc0
 obtain rfl := k_Column_open hK
 exact ⟨ad, e, hc 0 _ rfl, by rw [← add_field _ _ 1 (by omega)]; exact hc 1 _ rfl⟩

/-! #### struct type 80 -/
structure S_LColumn where
 f0 : Int
 f1 : Int
def z_LColumn : S_LColumn := ⟨(0 : Int), (0 : Int)⟩
def k_LColumn : Kd S_LColumn := Kd.iso (Kd.pair (Kd.int .i64) (Kd.int .i64)) (fun x : S_LColumn => (x.f0, x.f1))
theorem k_LColumn_open {w : World} {x : S_LColumn} {cs : List Value} (h : k_LColumn.K w x cs) : cs = [.int .i64 x.f0, .int .i64 x.f1] := by
 obtain ⟨_, _, rfl, rfl, rfl⟩ := h
 exact rfl
theorem k_LColumn_openM {w : World} {base : Nat} {ok : Nat → Prop} {x : S_LColumn} {cs : List Value} (h : k_LColumn.M w base ok x cs) : cs = [.int .i64 x.f0, .int .i64 x.f1] := by
 obtain ⟨_, _, rfl, rfl, rfl⟩ := h
 exact rfl
theorem k_LColumn_mk (w : World) (x : S_LColumn)  : k_LColumn.K w x [.int .i64 x.f0, .int .i64 x.f1] := ⟨[.int .i64 x.f0], [.int .i64 x.f1], rfl, rfl, rfl⟩
theorem k_LColumn_mkM (w : World) (base : Nat) (ok : Nat → Prop) (x : S_LColumn)  : k_LColumn.M w base ok x [.int .i64 x.f0, .int .i64 x.f1] := ⟨[.int .i64 x.f0], [.int .i64 x.f1], rfl, rfl, rfl⟩
def rd_TLColumn (xs : List S_LColumn) (i : Int) : S_LColumn := xs.getD i.toNat z_LColumn
theorem at_TLColumn {w : World} {A : Option Addr} {n : Nat} {xs : List S_LColumn} (h : Kd.C k_LColumn w A n xs) (i : Int) (h0 : 0 ≤ i) (h1 : i < n) : ∃ ad , A = some ad ∧ w.cell? (ad.add (i.toNat * 2)) = some (.int .i64 (rd_TLColumn xs i).f0) ∧ w.cell? ⟨(ad.add (i.toNat * 2)).block, (ad.add (i.toNat * 2)).off + 1, none⟩ = some (.int .i64 (rd_TLColumn xs i).f1) := by
 obtain ⟨ad, c, e, _, hK, hc0⟩ := Kd.C_get h z_LColumn i h0 h1
 have hc : ∀ j u, c[j]? = some u → w.cell? (ad.add (i.toNat * 2 + j)) = some u := hc0
 obtain rfl := k_LColumn_open hK
 exact ⟨ad, e, hc 0 _ rfl, by rw [← add_field _ _ 1 (by omega)]; exact hc 1 _ rfl⟩

/-! #### struct type 113 -/
structure S_Record where
 f0 : ByteArray
 f1 : Int
 f2 : Int
 f3 : ByteArray
def z_Record : S_Record := ⟨(⟨#[]⟩ : ByteArray), (0 : Int), (0 : Int), (⟨#[]⟩ : ByteArray)⟩
def k_Record : Kd S_Record := Kd.iso (Kd.pair Kd.string (Kd.pair (Kd.int .i64) (Kd.pair (Kd.int .i64) Kd.string))) (fun x : S_Record => (x.f0, x.f1, x.f2, x.f3))
theorem k_Record_open {w : World} {x : S_Record} {cs : List Value} (h : k_Record.K w x cs) : cs = [.string x.f0, .int .i64 x.f1, .int .i64 x.f2, .string x.f3] := by
 obtain ⟨_, _, rfl, rfl, ⟨_, _, rfl, rfl, ⟨_, _, rfl, rfl, rfl⟩⟩⟩ := h
 exact rfl
theorem k_Record_openM {w : World} {base : Nat} {ok : Nat → Prop} {x : S_Record} {cs : List Value} (h : k_Record.M w base ok x cs) : cs = [.string x.f0, .int .i64 x.f1, .int .i64 x.f2, .string x.f3] := by
 obtain ⟨_, _, rfl, rfl, ⟨_, _, rfl, rfl, ⟨_, _, rfl, rfl, rfl⟩⟩⟩ := h
 exact rfl
theorem k_Record_mk (w : World) (x : S_Record)  : k_Record.K w x [.string x.f0, .int .i64 x.f1, .int .i64 x.f2, .string x.f3] := ⟨[.string x.f0], [.int .i64 x.f1, .int .i64 x.f2, .string x.f3], rfl, rfl, ⟨[.int .i64 x.f1], [.int .i64 x.f2, .string x.f3], rfl, rfl, ⟨[.int .i64 x.f2], [.string x.f3], rfl, rfl, rfl⟩⟩⟩
theorem k_Record_mkM (w : World) (base : Nat) (ok : Nat → Prop) (x : S_Record)  : k_Record.M w base ok x [.string x.f0, .int .i64 x.f1, .int .i64 x.f2, .string x.f3] := ⟨[.string x.f0], [.int .i64 x.f1, .int .i64 x.f2, .string x.f3], rfl, rfl, ⟨[.int .i64 x.f1], [.int .i64 x.f2, .string x.f3], rfl, rfl, ⟨[.int .i64 x.f2], [.string x.f3], rfl, rfl, rfl⟩⟩⟩
def rd_TRecord (xs : List S_Record) (i : Int) : S_Record := xs.getD i.toNat z_Record
theorem at_TRecord {w : World} {A : Option Addr} {n : Nat} {xs : List S_Record} (h : Kd.C k_Record w A n xs) (i : Int) (h0 : 0 ≤ i) (h1 : i < n) : ∃ ad , A = some ad ∧ w.cell? (ad.add (i.toNat * 4)) = some (.string (rd_TRecord xs i).f0) ∧ w.cell? ⟨(ad.add (i.toNat * 4)).block, (ad.add (i.toNat * 4)).off + 1, none⟩ = some (.int .i64 (rd_TRecord xs i).f1) ∧ w.cell? ⟨(ad.add (i.toNat * 4)).block, (ad.add (i.toNat * 4)).off + 2, none⟩ = some (.int .i64 (rd_TRecord xs i).f2) ∧ w.cell? ⟨(ad.add (i.toNat * 4)).block, (ad.add (i.toNat * 4)).off + 3, none⟩ = some (.string (rd_TRecord xs i).f3) := by
 obtain ⟨ad, c, e, _, hK, hc0⟩ := Kd.C_get h z_Record i h0 h1
 have hc : ∀ j u, c[j]? = some u → w.cell? (ad.add (i.toNat * 4 + j)) = some u := hc0
 obtain rfl := k_Record_open hK
 exact ⟨ad, e, hc 0 _ rfl, by rw [← add_field _ _ 1 (by omega)]; exact hc 1 _ rfl, by rw [← add_field _ _ 2 (by omega)]; exact hc 2 _ rfl, by rw [← add_field _ _ 3 (by omega)]; exact hc 3 _ rfl⟩

def rd_L7 (xs : List (List S_Record)) (i : Int) : (List S_Record) := xs.getD i.toNat ([] : List S_Record)
theorem at_L7 {w : World} {A : Option Addr} {n : Nat} {xs : List (List S_Record)} (h : Kd.C (Kd.slice 113 k_Record) w A n xs) (i : Int) (h0 : 0 ≤ i) (h1 : i < n) : ∃ ad A0 c0, A = some ad ∧ w.cell? (ad.add i.toNat) = some (.slice A0 (rd_L7 xs i).length c0) ∧ (rd_L7 xs i).length ≤ c0 ∧ k_Record.C w A0 (rd_L7 xs i).length (rd_L7 xs i) := by
 obtain ⟨ad, c, e, _, hK, hc0⟩ := Kd.C_get h ([] : List S_Record) i h0 h1
 have hc : ∀ j u, c[j]? = some u → w.cell? (ad.add (i.toNat * 1 + j)) = some u := hc0
 obtain ⟨A0, c0, rfl, l0, g0⟩ := hK
 exact ⟨ad, A0, c0, e, by have hq := hc 0 _ rfl; rwa [Nat.mul_one, Nat.add_zero] at hq, l0, g0⟩

/-! #### struct type 107 -/
structure S_Entry where
 f0 : ByteArray
 f1 : Int
 f2 : Bool
 f3 : (List S_Record)
 f4 : Int
 f5 : Int
def z_Entry : S_Entry := ⟨(⟨#[]⟩ : ByteArray), (0 : Int), false, ([] : List S_Record), (0 : Int), (0 : Int)⟩
def k_Entry : Kd S_Entry := Kd.iso (Kd.pair Kd.string (Kd.pair (Kd.int .i64) (Kd.pair Kd.bool (Kd.pair (Kd.slice 113 k_Record) (Kd.pair (Kd.int .i64) (Kd.int .i64)))))) (fun x : S_Entry => (x.f0, x.f1, x.f2, x.f3, x.f4, x.f5))
theorem k_Entry_open {w : World} {x : S_Entry} {cs : List Value} (h : k_Entry.K w x cs) : ∃ A3 c3, cs = [.string x.f0, .int .i64 x.f1, .bool x.f2, .slice A3 x.f3.length c3, .int .i64 x.f4, .int .i64 x.f5] ∧ x.f3.length ≤ c3 ∧ k_Record.C w A3 x.f3.length x.f3 := by
 obtain ⟨_, _, rfl, rfl, ⟨_, _, rfl, rfl, ⟨_, _, rfl, rfl, ⟨_, _, rfl, ⟨A3, c3, rfl, l3, g3⟩, ⟨_, _, rfl, rfl, rfl⟩⟩⟩⟩⟩ := h
 exact ⟨A3, c3, rfl, l3, g3⟩
theorem k_Entry_openM {w : World} {base : Nat} {ok : Nat → Prop} {x : S_Entry} {cs : List Value} (h : k_Entry.M w base ok x cs) : ∃ v3, cs = [.string x.f0, .int .i64 x.f1, .bool x.f2, v3, .int .i64 x.f4, .int .i64 x.f5] ∧ k_Record.R 113 w base ok v3 x.f3 := by
 obtain ⟨_, _, rfl, rfl, ⟨_, _, rfl, rfl, ⟨_, _, rfl, rfl, ⟨_, _, rfl, ⟨v3, rfl, g3⟩, ⟨_, _, rfl, rfl, rfl⟩⟩⟩⟩⟩ := h
 exact ⟨v3, rfl, g3⟩
theorem k_Entry_mk (w : World) (x : S_Entry) {A3 : Option Addr} {c3 : Nat} (l3 : x.f3.length ≤ c3) (g3 : k_Record.C w A3 x.f3.length x.f3) : k_Entry.K w x [.string x.f0, .int .i64 x.f1, .bool x.f2, .slice A3 x.f3.length c3, .int .i64 x.f4, .int .i64 x.f5] := ⟨[.string x.f0], [.int .i64 x.f1, .bool x.f2, .slice A3 x.f3.length c3, .int .i64 x.f4, .int .i64 x.f5], rfl, rfl, ⟨[.int .i64 x.f1], [.bool x.f2, .slice A3 x.f3.length c3, .int .i64 x.f4, .int .i64 x.f5], rfl, rfl, ⟨[.bool x.f2], [.slice A3 x.f3.length c3, .int .i64 x.f4, .int .i64 x.f5], rfl, rfl, ⟨[.slice A3 x.f3.length c3], [.int .i64 x.f4, .int .i64 x.f5], rfl, ⟨A3, c3, rfl, l3, g3⟩, ⟨[.int .i64 x.f4], [.int .i64 x.f5], rfl, rfl, rfl⟩⟩⟩⟩⟩
theorem k_Entry_mkM (w : World) (base : Nat) (ok : Nat → Prop) (x : S_Entry) {v3 : Value} (g3 : k_Record.R 113 w base ok v3 x.f3) : k_Entry.M w base ok x [.string x.f0, .int .i64 x.f1, .bool x.f2, v3, .int .i64 x.f4, .int .i64 x.f5] := ⟨[.string x.f0], [.int .i64 x.f1, .bool x.f2, v3, .int .i64 x.f4, .int .i64 x.f5], rfl, rfl, ⟨[.int .i64 x.f1], [.bool x.f2, v3, .int .i64 x.f4, .int .i64 x.f5], rfl, rfl, ⟨[.bool x.f2], [v3, .int .i64 x.f4, .int .i64 x.f5], rfl, rfl, ⟨[v3], [.int .i64 x.f4, .int .i64 x.f5], rfl, ⟨v3, rfl, g3⟩, ⟨[.int .i64 x.f4], [.int .i64 x.f5], rfl, rfl, rfl⟩⟩⟩⟩⟩
def rd_TEntry (xs : List S_Entry) (i : Int) : S_Entry := xs.getD i.toNat z_Entry
theorem at_TEntry {w : World} {A : Option Addr} {n : Nat} {xs : List S_Entry} (h : Kd.C k_Entry w A n xs) (i : Int) (h0 : 0 ≤ i) (h1 : i < n) : ∃ ad A3 c3, A = some ad ∧ w.cell? (ad.add (i.toNat * 6)) = some (.string (rd_TEntry xs i).f0) ∧ w.cell? ⟨(ad.add (i.toNat * 6)).block, (ad.add (i.toNat * 6)).off + 1, none⟩ = some (.int .i64 (rd_TEntry xs i).f1) ∧ w.cell? ⟨(ad.add (i.toNat * 6)).block, (ad.add (i.toNat * 6)).off + 2, none⟩ = some (.bool (rd_TEntry xs i).f2) ∧ w.cell? ⟨(ad.add (i.toNat * 6)).block, (ad.add (i.toNat * 6)).off + 3, none⟩ = some (.slice A3 (rd_TEntry xs i).f3.length c3) ∧ w.cell? ⟨(ad.add (i.toNat * 6)).block, (ad.add (i.toNat * 6)).off + 4, none⟩ = some (.int .i64 (rd_TEntry xs i).f4) ∧ w.cell? ⟨(ad.add (i.toNat * 6)).block, (ad.add (i.toNat * 6)).off + 5, none⟩ = some (.int .i64 (rd_TEntry xs i).f5) ∧ (rd_TEntry xs i).f3.length ≤ c3 ∧ k_Record.C w A3 (rd_TEntry xs i).f3.length (rd_TEntry xs i).f3 := by
 obtain ⟨ad, c, e, _, hK, hc0⟩ := Kd.C_get h z_Entry i h0 h1
 have hc : ∀ j u, c[j]? = some u → w.cell? (ad.add (i.toNat * 6 + j)) = some u := hc0
 obtain ⟨A3, c3, rfl, l3, g3⟩ := k_Entry_open hK
 exact ⟨ad, A3, c3, e, hc 0 _ rfl, by rw [← add_field _ _ 1 (by omega)]; exact hc 1 _ rfl, by rw [← add_field _ _ 2 (by omega)]; exact hc 2 _ rfl, by rw [← add_field _ _ 3 (by omega)]; exact hc 3 _ rfl, by rw [← add_field _ _ 4 (by omega)]; exact hc 4 _ rfl, by rw [← add_field _ _ 5 (by omega)]; exact hc 5 _ rfl, l3, g3⟩

def rd_L9 (xs : List (List Int)) (i : Int) : (List Int) := xs.getD i.toNat ([] : List Int)
theorem at_L9 {w : World} {A : Option Addr} {n : Nat} {xs : List (List Int)} (h : Kd.C (Kd.slice 3 (Kd.int .i64)) w A n xs) (i : Int) (h0 : 0 ≤ i) (h1 : i < n) : ∃ ad A0 c0, A = some ad ∧ w.cell? (ad.add i.toNat) = some (.slice A0 (rd_L9 xs i).length c0) ∧ (rd_L9 xs i).length ≤ c0 ∧ (Kd.int .i64).C w A0 (rd_L9 xs i).length (rd_L9 xs i) := by
 obtain ⟨ad, c, e, _, hK, hc0⟩ := Kd.C_get h ([] : List Int) i h0 h1
 have hc : ∀ j u, c[j]? = some u → w.cell? (ad.add (i.toNat * 1 + j)) = some u := hc0
 obtain ⟨A0, c0, rfl, l0, g0⟩ := hK
 exact ⟨ad, A0, c0, e, by have hq := hc 0 _ rfl; rwa [Nat.mul_one, Nat.add_zero] at hq, l0, g0⟩

/-! #### struct type 37 -/
structure S_LTurn where
 f0 : (List Int)
 f1 : (List Int)
def z_LTurn : S_LTurn := ⟨([] : List Int), ([] : List Int)⟩
def k_LTurn : Kd S_LTurn := Kd.iso (Kd.pair (Kd.slice 3 (Kd.int .i64)) (Kd.slice 3 (Kd.int .i64))) (fun x : S_LTurn => (x.f0, x.f1))
theorem k_LTurn_open {w : World} {x : S_LTurn} {cs : List Value} (h : k_LTurn.K w x cs) : ∃ A0 c0 A1 c1, cs = [.slice A0 x.f0.length c0, .slice A1 x.f1.length c1] ∧ x.f0.length ≤ c0 ∧ (Kd.int .i64).C w A0 x.f0.length x.f0 ∧ x.f1.length ≤ c1 ∧ (Kd.int .i64).C w A1 x.f1.length x.f1 := by
 obtain ⟨_, _, rfl, ⟨A0, c0, rfl, l0, g0⟩, ⟨A1, c1, rfl, l1, g1⟩⟩ := h
 exact ⟨A0, c0, A1, c1, rfl, l0, g0, l1, g1⟩
theorem k_LTurn_openM {w : World} {base : Nat} {ok : Nat → Prop} {x : S_LTurn} {cs : List Value} (h : k_LTurn.M w base ok x cs) : ∃ v0 v1, cs = [v0, v1] ∧ (Kd.int .i64).R 3 w base ok v0 x.f0 ∧ (Kd.int .i64).R 3 w base ok v1 x.f1 := by
 obtain ⟨_, _, rfl, ⟨v0, rfl, g0⟩, ⟨v1, rfl, g1⟩⟩ := h
 exact ⟨v0, v1, rfl, g0, g1⟩
theorem k_LTurn_mk (w : World) (x : S_LTurn) {A0 : Option Addr} {c0 : Nat} (l0 : x.f0.length ≤ c0) (g0 : (Kd.int .i64).C w A0 x.f0.length x.f0) {A1 : Option Addr} {c1 : Nat} (l1 : x.f1.length ≤ c1) (g1 : (Kd.int .i64).C w A1 x.f1.length x.f1) : k_LTurn.K w x [.slice A0 x.f0.length c0, .slice A1 x.f1.length c1] := ⟨[.slice A0 x.f0.length c0], [.slice A1 x.f1.length c1], rfl, ⟨A0, c0, rfl, l0, g0⟩, ⟨A1, c1, rfl, l1, g1⟩⟩
theorem k_LTurn_mkM (w : World) (base : Nat) (ok : Nat → Prop) (x : S_LTurn) {v0 : Value} (g0 : (Kd.int .i64).R 3 w base ok v0 x.f0) {v1 : Value} (g1 : (Kd.int .i64).R 3 w base ok v1 x.f1) : k_LTurn.M w base ok x [v0, v1] := ⟨[v0], [v1], rfl, ⟨v0, rfl, g0⟩, ⟨v1, rfl, g1⟩⟩
def rd_TLTurn (xs : List S_LTurn) (i : Int) : S_LTurn := xs.getD i.toNat z_LTurn
theorem at_TLTurn {w : World} {A : Option Addr} {n : Nat} {xs : List S_LTurn} (h : Kd.C k_LTurn w A n xs) (i : Int) (h0 : 0 ≤ i) (h1 : i < n) : ∃ ad A0 c0 A1 c1, A = some ad ∧ w.cell? (ad.add (i.toNat * 2)) = some (.slice A0 (rd_TLTurn xs i).f0.length c0) ∧ w.cell? ⟨(ad.add (i.toNat * 2)).block, (ad.add (i.toNat * 2)).off + 1, none⟩ = some (.slice A1 (rd_TLTurn xs i).f1.length c1) ∧ (rd_TLTurn xs i).f0.length ≤ c0 ∧ (Kd.int .i64).C w A0 (rd_TLTurn xs i).f0.length (rd_TLTurn xs i).f0 ∧ (rd_TLTurn xs i).f1.length ≤ c1 ∧ (Kd.int .i64).C w A1 (rd_TLTurn xs i).f1.length (rd_TLTurn xs i).f1 := by
 obtain ⟨ad, c, e, _, hK, hc0⟩ := Kd.C_get h z_LTurn i h0 h1
 have hc : ∀ j u, c[j]? = some u → w.cell? (ad.add (i.toNat * 2 + j)) = some u := hc0
 obtain ⟨A0, c0, A1, c1, rfl, l0, g0, l1, g1⟩ := k_LTurn_open hK
 exact ⟨ad, A0, c0, A1, c1, e, hc 0 _ rfl, by rw [← add_field _ _ 1 (by omega)]; exact hc 1 _ rfl, l0, g0, l1, g1⟩

def WF_LColumn (x : S_LColumn) : Prop := ((Lit.int .i64 x.f0).wf = true) ∧ (Lit.int .i64 x.f1).wf = true
def WF_LTurn (x : S_LTurn) : Prop := (x.f0.length ≤ maxLen ∧ ∀ x_ ∈ x.f0, (Lit.int .i64 x_).wf = true) ∧ x.f1.length ≤ maxLen ∧ ∀ x_ ∈ x.f1, (Lit.int .i64 x_).wf = true
end
section
/-! ### laws_sameInts: function 48 -/
def laws_sameInts.l0 : Nat → List Int → List Int → Int → Int → Option (Bool)
 | 0, _, _, _, _ => none
 | k + 1, x0, x1, x12, x13 => if x13 < x12 then (if 0 ≤ x13 then (if x13 < (x0.length : Int) then (if x13 < (x1.length : Int) then (if (rd x0 x13) = (rd x1 x13) then (laws_sameInts.l0 k x0 x1 x12 (wrap64 (x13 + 1))) else (some false)) else (none)) else (none)) else (none)) else (some true)
def laws_sameInts.f (k : Nat) (l0 : List Int) (l1 : List Int) : Option (Bool) := if (l0.length : Int) = (l1.length : Int) then (laws_sameInts.l0 k l0 l1 (l0.length : Int) 0) else (some false)
theorem laws_sameInts.calls (k : Nat) (A0 : Option Addr) (c0 : Nat) (l0 : List Int) (A1 : Option Addr) (c1 : Nat) (l1 : List Int) (r : Bool) (w : World) (hr0 : Kd.C (Kd.int .i64) w A0 l0.length l0) (hc0 : l0.length ≤ c0) (hr1 : Kd.C (Kd.int .i64) w A1 l1.length l1) (hc1 : l1.length ≤ c1) (h : laws_sameInts.f k l0 l1 = some r) :
  Calls Try.prog 48 #[.slice A0 l0.length c0, .slice A1 l1.length c1] w fun e w' => e = .returned (.bool r) ∧ Drawn0 w w' := by
 have HR0 := Aside0.mk hr0
 have HC0 := Aside0.mk hc0
 clear hr0 hc0
 have HR1 := Aside0.mk hr1
 have HC1 := Aside0.mk hc1
 clear hr1 hc1
 have H : (if (l0.length : Int) = (l1.length : Int) then (laws_sameInts.l0 k l0 l1 (l0.length : Int) 0) else (some false)) = some r := h
 clear h
 by_cases c3 : (l0.length : Int) = (l1.length : Int)
 ·rw [if_pos c3] at H
  have c3b0 : ((l0.length : Int) == (l1.length : Int)) = true := beq_iff_eq.mpr c3
  have c3b1 : ((l0.length : Int) != (l1.length : Int)) = false := bne_eq_false_iff_eq.mpr c3
  have c3b2 : (l0.length == l1.length) = true := by first | simpa using c3 | (simp at c3 ⊢; omega)
  clear c3
  have H' := Aside0.mk H
  clear H
  go_enter Try.func48, Try.ntmps48
  go_wp2
  repeat (go_quiet (fail); try go_wp2)
  go_loopg [13] k (fun kq v13 w' => ∃ (x13_1 : Int), v13 = .int .i64 x13_1 ∧ Aside0 (laws_sameInts.l0 kq l0 l1 (l0.length : Int) x13_1 = some r) ∧ Aside0 (kq ≤ k) ∧ Drawn0 w w')
  case atStart => exact ⟨(0), TF, H', ⟨Nat.le_refl _⟩, TN⟩
  case round =>
   clear H'
   obtain ⟨x13_1, rfl, HA, HK1, ⟨m1, rfl⟩⟩ := hrel
   cases gk with
   | zero => exact absurd HA.out (by simp [laws_sameInts.l0])
   | succ k1 =>
    have H := HA.out
    clear HA
    simp only [laws_sameInts.l0] at H
    by_cases c4 : x13_1 < (l0.length : Int)
    ·rw [if_pos c4] at H
     have c4b0 : decide (x13_1 < (l0.length : Int)) = true := decide_eq_true c4
     clear c4
     obtain ⟨c5, H⟩ := ifn H
     have c5b0 : decide (0 ≤ x13_1) = true := decide_eq_true c5
     clear c5
     obtain ⟨c6, H⟩ := ifn H
     have c6b0 : decide (x13_1 < (l0.length : Int)) = true := decide_eq_true c6
     clear c6
     obtain ⟨c7, H⟩ := ifn H
     have c7b0 : decide (x13_1 < (l1.length : Int)) = true := decide_eq_true c7
     clear c7
     by_cases c8 : (rd l0 x13_1) = (rd l1 x13_1)
     ·rw [if_pos c8] at H
      have c8b0 : ((rd l0 x13_1) == (rd l1 x13_1)) = true := beq_iff_eq.mpr c8
      have c8b1 : ((rd l0 x13_1) != (rd l1 x13_1)) = false := bne_eq_false_iff_eq.mpr c8
      clear c8
      have H' := Aside0.mk H
      clear H
      have p256 : 0 ≤ (x13_1 : Int) := TD
      have q256 : x13_1 < (l0.length : Int) := TD
      obtain ⟨ad256, e256, hx256_0⟩ := Kd.at_int HR0.out x13_1 p256 q256
      cases e256
      replace p256 := eq_true p256
      replace q256 := eq_true q256
      have p257 : 0 ≤ (x13_1 : Int) := TD
      have q257 : x13_1 < (l1.length : Int) := TD
      obtain ⟨ad257, e257, hx257_0⟩ := Kd.at_int HR1.out x13_1 p257 q257
      cases e257
      replace p257 := eq_true p257
      replace q257 := eq_true q257
      go_wp2
      repeat (go_quiet (fail); try go_wp2)
      go_roundg k1
      case measure => have := HK1.out; omega
      case rel => exact ⟨(wrap64 (x13_1 + 1)), TF, H', ⟨TM⟩, TN⟩
     ·rw [if_neg c8] at H
      have c8b0 : ((rd l0 x13_1) == (rd l1 x13_1)) = false := beq_eq_false_iff_ne.mpr c8
      have c8b1 : ((rd l0 x13_1) != (rd l1 x13_1)) = true := bne_iff_ne.mpr c8
      obtain rfl := Option.some.inj H
      have p256 : 0 ≤ (x13_1 : Int) := TD
      have q256 : x13_1 < (l0.length : Int) := TD
      obtain ⟨ad256, e256, hx256_0⟩ := Kd.at_int HR0.out x13_1 p256 q256
      cases e256
      replace p256 := eq_true p256
      replace q256 := eq_true q256
      have p257 : 0 ≤ (x13_1 : Int) := TD
      have q257 : x13_1 < (l1.length : Int) := TD
      obtain ⟨ad257, e257, hx257_0⟩ := Kd.at_int HR1.out x13_1 p257 q257
      cases e257
      replace p257 := eq_true p257
      replace q257 := eq_true q257
      go_wp2
      repeat (go_quiet (fail); try go_wp2)
      go_ret
      exact ⟨TF, TN⟩
    ·rw [if_neg c4] at H
     have c4b0 : decide (x13_1 < (l0.length : Int)) = false := decide_eq_false c4
     clear c4
     obtain rfl := Option.some.inj H
     go_wp2
     repeat (go_quiet (fail); try go_wp2)
     go_ret
     exact ⟨TF, TN⟩
 ·rw [if_neg c3] at H
  have c3b0 : ((l0.length : Int) == (l1.length : Int)) = false := beq_eq_false_iff_ne.mpr c3
  have c3b1 : ((l0.length : Int) != (l1.length : Int)) = true := bne_iff_ne.mpr c3
  have c3b2 : (l0.length == l1.length) = false := by first | simpa using c3 | (simp at c3 ⊢; omega)
  obtain rfl := Option.some.inj H
  go_enter Try.func48, Try.ntmps48
  go_wp2
  repeat (go_quiet (fail); try go_wp2)
  go_ret
  exact ⟨TF, TN⟩
end
section
/-! ### spec_l1In: function 58 -/
def spec_l1In.f (a0 : Int) (a1 : Int) (a2 : Int) : Option (Bool) := if a0 ≥ a1 then (some (decide (a0 ≤ a2))) else (some false)
theorem spec_l1In.calls (a0 : Int) (a1 : Int) (a2 : Int) (r : Bool) (w : World) (h : spec_l1In.f a0 a1 a2 = some r) :
  Calls Try.prog 58 #[.int .i64 a0, .int .i64 a1, .int .i64 a2] w fun e w' => e = .returned (.bool r) ∧ Drawn0 w w' := by
 have H : (if a0 ≥ a1 then (some (decide (a0 ≤ a2))) else (some false)) = some r := h
 clear h
 by_cases c4 : a0 ≥ a1
 ·rw [if_pos c4] at H
  have c4b0 : decide (a1 ≤ a0) = true := decide_eq_true c4
  clear c4
  obtain rfl := Option.some.inj H
  go_enter Try.func58, Try.ntmps58
  go_wp2
  go_ret
  exact ⟨TF, TN⟩
 ·rw [if_neg c4] at H
  have c4b0 : decide (a1 ≤ a0) = false := decide_eq_false c4
  clear c4
  obtain rfl := Option.some.inj H
  go_enter Try.func58, Try.ntmps58
  go_wp2
  go_ret
  exact ⟨TF, TN⟩
end
section
/-! ### spec_GoodWeights: function 15 -/
def spec_GoodWeights.l0 : Nat → List Int → Int → List Int → Int → Int → Option (Bool)
 | 0, _, _, _, _, _ => none
 | k + 1, x0, x3, x6, x7, x8 => if x8 < x7 then (if 0 ≤ x8 then (if x8 < (x6.length : Int) then ((spec_l1In.f (rd x6 x8) 0 50).bind fun t201 => (if t201 = true then (spec_GoodWeights.l0 k x0 (wrap64 (x3 + (rd x6 x8))) x6 x7 (wrap64 (x8 + 1))) else (some false))) else (none)) else (none)) else ((spec_l1In.f (x0.length : Int) 1 12).bind fun t202 => (if t202 = true then (some (decide (x3 > 0))) else (some false)))
def spec_GoodWeights.f (k : Nat) (l0 : List Int) : Option (Bool) := spec_GoodWeights.l0 k l0 0 l0 (l0.length : Int) 0
theorem spec_GoodWeights.calls (k : Nat) (A0 : Option Addr) (c0 : Nat) (l0 : List Int) (r : Bool) (w : World) (hr0 : Kd.C (Kd.int .i64) w A0 l0.length l0) (hc0 : l0.length ≤ c0) (h : spec_GoodWeights.f k l0 = some r) :
  Calls Try.prog 15 #[.slice A0 l0.length c0] w fun e w' => e = .returned (.bool r) ∧ Drawn0 w w' := by
 have HR0 := Aside0.mk hr0
 have HC0 := Aside0.mk hc0
 clear hr0 hc0
 have H : (spec_GoodWeights.l0 k l0 0 l0 (l0.length : Int) 0) = some r := h
 clear h
 have H' := Aside0.mk H
 clear H
 go_enter Try.func15, Try.ntmps15
 go_wp2
 go_loopg [3, 8] k (fun kq v3 v8 w' => ∃ (x3_1 : Int) (x8_1 : Int), v3 = .int .i64 x3_1 ∧ v8 = .int .i64 x8_1 ∧ Aside0 (spec_GoodWeights.l0 kq l0 x3_1 l0 (l0.length : Int) x8_1 = some r) ∧ Aside0 (kq ≤ k) ∧ Drawn0 w w')
 case atStart => exact ⟨(0), (0), TF, TF, H', ⟨Nat.le_refl _⟩, TN⟩
 case round =>
  clear H'
  obtain ⟨x3_1, x8_1, rfl, rfl, HA, HK1, ⟨m1, rfl⟩⟩ := hrel
  cases gk with
  | zero => exact absurd HA.out (by simp [spec_GoodWeights.l0])
  | succ k1 =>
   have H := HA.out
   clear HA
   simp only [spec_GoodWeights.l0] at H
   by_cases c2 : x8_1 < (l0.length : Int)
   ·rw [if_pos c2] at H
    have c2b0 : decide (x8_1 < (l0.length : Int)) = true := decide_eq_true c2
    clear c2
    obtain ⟨c3, H⟩ := ifn H
    have c3b0 : decide (0 ≤ x8_1) = true := decide_eq_true c3
    clear c3
    obtain ⟨c4, H⟩ := ifn H
    have c4b0 : decide (x8_1 < (l0.length : Int)) = true := decide_eq_true c4
    clear c4
    obtain ⟨t201, A5, H⟩ := bnd H
    by_cases c6 : t201 = true
    ·subst c6
     replace H := ift H
     have H' := Aside0.mk H
     clear H
     have p200 : 0 ≤ (x8_1 : Int) := TD
     have q200 : x8_1 < (l0.length : Int) := TD
     obtain ⟨ad200, e200, hx200_0⟩ := Kd.at_int HR0.out x8_1 p200 q200
     cases e200
     replace p200 := eq_true p200
     replace q200 := eq_true q200
     go_wp2_with (first | ((with_reducible refine gate_callee (f := 58) rfl ?_); refine goesL_ (some 13) rfl rfl Try.func58 KR rfl #[.int .i64 (rd l0 x8_1), .int .i64 0, .int .i64 50] rfl TA ?_; (with_reducible refine (spec_l1In.calls (rd l0 x8_1) 0 50 true _ A5.out).mono ?_); rintro e w' ⟨rfl, ⟨nd, rfl⟩⟩; refine ⟨_, rfl, ?_⟩))
     go_roundg k1
     case measure => have := HK1.out; omega
     case rel => exact ⟨(wrap64 (x3_1 + (rd l0 x8_1))), (wrap64 (x8_1 + 1)), TF, TF, H', ⟨TM⟩, TN⟩
    ·replace c6 := Bool.eq_false_iff.mpr c6
     subst c6
     replace H := iff' H
     obtain rfl := Option.some.inj H
     have p200 : 0 ≤ (x8_1 : Int) := TD
     have q200 : x8_1 < (l0.length : Int) := TD
     obtain ⟨ad200, e200, hx200_0⟩ := Kd.at_int HR0.out x8_1 p200 q200
     cases e200
     replace p200 := eq_true p200
     replace q200 := eq_true q200
     go_wp2_with (first | ((with_reducible refine gate_callee (f := 58) rfl ?_); refine goesL_ (some 13) rfl rfl Try.func58 KR rfl #[.int .i64 (rd l0 x8_1), .int .i64 0, .int .i64 50] rfl TA ?_; (with_reducible refine (spec_l1In.calls (rd l0 x8_1) 0 50 false _ A5.out).mono ?_); rintro e w' ⟨rfl, ⟨nd, rfl⟩⟩; refine ⟨_, rfl, ?_⟩))
     go_ret
     exact ⟨TF, TN⟩
   ·rw [if_neg c2] at H
    have c2b0 : decide (x8_1 < (l0.length : Int)) = false := decide_eq_false c2
    clear c2
    obtain ⟨t202, A7, H⟩ := bnd H
    by_cases c8 : t202 = true
    ·subst c8
     replace H := ift H
     obtain rfl := Option.some.inj H
     go_wp2_with (first | ((with_reducible refine gate_callee (f := 58) rfl ?_); refine goesL_ (some 21) rfl rfl Try.func58 KR rfl #[.int .i64 (l0.length : Int), .int .i64 1, .int .i64 12] rfl TA ?_; (with_reducible refine (spec_l1In.calls (l0.length : Int) 1 12 true _ A7.out).mono ?_); rintro e w' ⟨rfl, ⟨nd, rfl⟩⟩; refine ⟨_, rfl, ?_⟩))
     go_ret
     exact ⟨TF, TN⟩
    ·replace c8 := Bool.eq_false_iff.mpr c8
     subst c8
     replace H := iff' H
     obtain rfl := Option.some.inj H
     go_wp2_with (first | ((with_reducible refine gate_callee (f := 58) rfl ?_); refine goesL_ (some 21) rfl rfl Try.func58 KR rfl #[.int .i64 (l0.length : Int), .int .i64 1, .int .i64 12] rfl TA ?_; (with_reducible refine (spec_l1In.calls (l0.length : Int) 1 12 false _ A7.out).mono ?_); rintro e w' ⟨rfl, ⟨nd, rfl⟩⟩; refine ⟨_, rfl, ?_⟩))
     go_ret
     exact ⟨TF, TN⟩
end
section
/-! ### spec_GoodTurn: function 27 -/
mutual
def spec_GoodTurn.j0 : Nat → Bool → List Int → List Int → Option (Bool)
 | 0, _, _, _ => none
 | k + 1, x18, x458000, x458001 => if x18 = true then (some false) else (spec_GoodTurn.l0 k 0 x458001 (x458001.length : Int) 0)
def spec_GoodTurn.l0 : Nat → Int → List Int → Int → Int → Option (Bool)
 | 0, _, _, _, _ => none
 | k + 1, x3, x20, x21, x22 => if x22 < x21 then (if 0 ≤ x22 then (if x22 < (x20.length : Int) then ((spec_l1In.f (rd x20 x22) (-10000) 10000).bind fun t460 => (if t460 = true then (spec_GoodTurn.l0 k (wrap64 (x3 + (rd x20 x22))) x20 x21 (wrap64 (x22 + 1))) else (some false))) else (none)) else (none)) else (some (x3 == 0))
end
def spec_GoodTurn.f (k : Nat) (l0_0 : List Int) (l0_1 : List Int) : Option (Bool) := (spec_GoodWeights.f k l0_0).bind fun t458 => (if t458 = true then (spec_GoodTurn.j0 k ((l0_1.length : Int) != (l0_0.length : Int)) l0_0 l0_1) else (spec_GoodTurn.j0 k true l0_0 l0_1))
theorem spec_GoodTurn.calls (k : Nat) (A0_0 : Option Addr) (c0_0 : Nat) (l0_0 : List Int) (A0_1 : Option Addr) (c0_1 : Nat) (l0_1 : List Int) (r : Bool) (w : World) (hr0_0 : Kd.C (Kd.int .i64) w A0_0 l0_0.length l0_0) (hc0_0 : l0_0.length ≤ c0_0) (hr0_1 : Kd.C (Kd.int .i64) w A0_1 l0_1.length l0_1) (hc0_1 : l0_1.length ≤ c0_1) (h : spec_GoodTurn.f k l0_0 l0_1 = some r) :
  Calls Try.prog 27 #[.agg #[.slice A0_0 l0_0.length c0_0, .slice A0_1 l0_1.length c0_1]] w fun e w' => e = .returned (.bool r) ∧ Below w.heap.size w w' := by
 have hu40 := Try.underlying40
 have HR0_0 := Aside0.mk hr0_0
 have HC0_0 := Aside0.mk hc0_0
 clear hr0_0 hc0_0
 have HR0_1 := Aside0.mk hr0_1
 have HC0_1 := Aside0.mk hc0_1
 clear hr0_1 hc0_1
 have HB := Aside0.mk (Below.refl w.heap.size w)
 have H : ((spec_GoodWeights.f k l0_0).bind fun t458 => (if t458 = true then (spec_GoodTurn.j0 k ((l0_1.length : Int) != (l0_0.length : Int)) l0_0 l0_1) else (spec_GoodTurn.j0 k true l0_0 l0_1))) = some r := h
 clear h
 have HC2 := Aside0.mk H
 clear H
 go_enter Try.func27, Try.ntmps27
 go_upto_region 1 with (first | ((with_reducible refine gate_dst (N := 1) rfl ?_); (try (refine gate_guard (by rfl) ?_; dsimp only)); refine bE 1 #[.slice A0_0 l0_0.length c0_0, .slice A0_1 l0_1.length c0_1] 40 ?_; intro gb457 hg w3 hbox hb; have BK457 := Aside0.mk (hbox); have GE457 := bG hg; replace HB := BS hb; clear hb hbox hg))
 (try simp only [Act.put, List.setIfInBounds_toArray, List.set_cons_zero, List.set_cons_succ])
 go_cut [18] (fun v18 wc => ∃ (kq : Nat) (x18_1 : Bool), v18 = .bool x18_1 ∧ Aside0 (spec_GoodTurn.j0 kq x18_1 l0_0 l0_1 = some r) ∧ Aside0 (kq ≤ k) ∧ Aside0 (wc.heap[gb457]? = some (.cells #[(.slice A0_0 l0_0.length c0_0), (.slice A0_1 l0_1.length c0_1)] 40 (0, 0))) ∧ Aside0 (Below w.heap.size w wc))
 case first =>
  have H := HC2.out
  clear HC2
  obtain ⟨t458, A4, H⟩ := bnd H
  by_cases c5 : t458 = true
  ·subst c5
   replace H := ift H
   have H' := Aside0.mk H
   clear H
   have hcz6 := cz2 BK457
   go_wp2_with (first | ((with_reducible refine gate_callee (f := 15) rfl ?_); refine goesL_ (some 8) rfl rfl Try.func15 KR rfl #[.slice A0_0 l0_0.length c0_0] rfl TA ?_; (with_reducible refine (spec_GoodWeights.calls k _ _ l0_0 true _ ?side1 ?side2 A4.out).mono ?_); (case side1 => exact CW ((Kd.C_below HR0_0.out HB.out))); (case side2 => exact HC0_0.out); rintro e w' ⟨rfl, ⟨nd, rfl⟩⟩; refine ⟨_, rfl, ?_⟩))
   go_meet
   case rel => exact ⟨_, (((l0_1.length : Int) != (l0_0.length : Int))), TF, H', ⟨by first | omega | exact Nat.le_refl _⟩, KW BK457, ⟨TB⟩⟩
  ·replace c5 := Bool.eq_false_iff.mpr c5
   subst c5
   replace H := iff' H
   have H' := Aside0.mk H
   clear H
   have hcz7 := cz2 BK457
   go_wp2_with (first | ((with_reducible refine gate_callee (f := 15) rfl ?_); refine goesL_ (some 8) rfl rfl Try.func15 KR rfl #[.slice A0_0 l0_0.length c0_0] rfl TA ?_; (with_reducible refine (spec_GoodWeights.calls k _ _ l0_0 false _ ?side1 ?side2 A4.out).mono ?_); (case side1 => exact CW ((Kd.C_below HR0_0.out HB.out))); (case side2 => exact HC0_0.out); rintro e w' ⟨rfl, ⟨nd, rfl⟩⟩; refine ⟨_, rfl, ?_⟩))
   go_meet
   case rel => exact ⟨_, (true), TF, H', ⟨by first | omega | exact Nat.le_refl _⟩, KW BK457, ⟨TB⟩⟩
 case rest =>
  clear HC2
  obtain ⟨kq, x18_1, rfl, HA, HJ1, BK457, HB⟩ := hcut
  cases kq with
  | zero => exact absurd HA.out (by simp [spec_GoodTurn.j0])
  | succ kj1 =>
   have H := HA.out
   clear HA
   simp only [spec_GoodTurn.j0] at H
   by_cases c8 : x18_1 = true
   ·subst c8
    replace H := ift H
    obtain rfl := Option.some.inj H
    go_wp2
    go_ret
    exact ⟨TE, TB⟩
   ·replace c8 := Bool.eq_false_iff.mpr c8
    subst c8
    replace H := iff' H
    have H' := Aside0.mk H
    clear H
    have hcz9 := cz2 BK457
    go_wp2
    go_loopg [3, 22] kj1 (fun kq v3 v22 w' => ∃ (x3_2 : Int) (x22_2 : Int), v3 = .int .i64 x3_2 ∧ v22 = .int .i64 x22_2 ∧ Aside0 (spec_GoodTurn.l0 kq x3_2 l0_1 (l0_1.length : Int) x22_2 = some r) ∧ Aside0 (kq ≤ kj1) ∧ Aside0 (w'.heap[gb457]? = some (.cells #[(.slice A0_0 l0_0.length c0_0), (.slice A0_1 l0_1.length c0_1)] 40 (0, 0))) ∧ Aside0 (Below w.heap.size w w'))
    case atStart => exact ⟨(0), (0), TF, TF, H', ⟨Nat.le_refl _⟩, KW BK457, ⟨TB⟩⟩
    case round =>
     clear H'
     obtain ⟨x3_2, x22_2, rfl, rfl, HA, HK2, BK457, HB⟩ := hrel
     cases gk with
     | zero => exact absurd HA.out (by simp [spec_GoodTurn.l0])
     | succ k2 =>
      have H := HA.out
      clear HA
      simp only [spec_GoodTurn.l0] at H
      by_cases c10 : x22_2 < (l0_1.length : Int)
      ·rw [if_pos c10] at H
       have c10b0 : decide (x22_2 < (l0_1.length : Int)) = true := decide_eq_true c10
       clear c10
       obtain ⟨c11, H⟩ := ifn H
       have c11b0 : decide (0 ≤ x22_2) = true := decide_eq_true c11
       clear c11
       obtain ⟨c12, H⟩ := ifn H
       have c12b0 : decide (x22_2 < (l0_1.length : Int)) = true := decide_eq_true c12
       clear c12
       obtain ⟨t460, A13, H⟩ := bnd H
       by_cases c14 : t460 = true
       ·subst c14
        replace H := ift H
        have H' := Aside0.mk H
        clear H
        have p459 : 0 ≤ (x22_2 : Int) := TD
        have q459 : x22_2 < (l0_1.length : Int) := TD
        obtain ⟨ad459, e459, hx459_0⟩ := Kd.at_int (Kd.C_below HR0_1.out HB.out) x22_2 p459 q459
        cases e459
        replace p459 := eq_true p459
        replace q459 := eq_true q459
        go_wp2_with (first | ((with_reducible refine gate_callee (f := 58) rfl ?_); refine goesL_ (some 27) rfl rfl Try.func58 KR rfl #[.int .i64 (rd l0_1 x22_2), .int .i64 (-10000), .int .i64 10000] rfl TA ?_; (with_reducible refine (spec_l1In.calls (rd l0_1 x22_2) (-10000) 10000 true _ A13.out).mono ?_); rintro e w' ⟨rfl, ⟨nd, rfl⟩⟩; refine ⟨_, rfl, ?_⟩))
        go_roundg k2
        case measure => have := HJ1.out; have := HK2.out; omega
        case rel => exact ⟨(wrap64 (x3_2 + (rd l0_1 x22_2))), (wrap64 (x22_2 + 1)), TF, TF, H', ⟨by have := HJ1.out; have := HK2.out; omega⟩, KW BK457, ⟨TB⟩⟩
       ·replace c14 := Bool.eq_false_iff.mpr c14
        subst c14
        replace H := iff' H
        obtain rfl := Option.some.inj H
        have p459 : 0 ≤ (x22_2 : Int) := TD
        have q459 : x22_2 < (l0_1.length : Int) := TD
        obtain ⟨ad459, e459, hx459_0⟩ := Kd.at_int (Kd.C_below HR0_1.out HB.out) x22_2 p459 q459
        cases e459
        replace p459 := eq_true p459
        replace q459 := eq_true q459
        go_wp2_with (first | ((with_reducible refine gate_callee (f := 58) rfl ?_); refine goesL_ (some 27) rfl rfl Try.func58 KR rfl #[.int .i64 (rd l0_1 x22_2), .int .i64 (-10000), .int .i64 10000] rfl TA ?_; (with_reducible refine (spec_l1In.calls (rd l0_1 x22_2) (-10000) 10000 false _ A13.out).mono ?_); rintro e w' ⟨rfl, ⟨nd, rfl⟩⟩; refine ⟨_, rfl, ?_⟩))
        go_ret
        exact ⟨TE, TB⟩
      ·rw [if_neg c10] at H
       have c10b0 : decide (x22_2 < (l0_1.length : Int)) = false := decide_eq_false c10
       clear c10
       obtain rfl := Option.some.inj H
       go_wp2
       go_ret
       exact ⟨TE, TB⟩
end
section
/-! ### impl_totalOf: function 62 -/
def impl_totalOf.l0 : Nat → Int → List Int → Int → Int → Option (Int)
 | 0, _, _, _, _ => none
 | k + 1, x3, x6, x7, x8 => if x8 < x7 then (if 0 ≤ x8 then (if x8 < (x6.length : Int) then (impl_totalOf.l0 k (wrap64 (x3 + (rd x6 x8))) x6 x7 (wrap64 (x8 + 1))) else (none)) else (none)) else (some x3)
def impl_totalOf.f (k : Nat) (l0 : List Int) : Option (Int) := impl_totalOf.l0 k 0 l0 (l0.length : Int) 0
theorem impl_totalOf.calls (k : Nat) (A0 : Option Addr) (c0 : Nat) (l0 : List Int) (r : Int) (w : World) (hr0 : Kd.C (Kd.int .i64) w A0 l0.length l0) (hc0 : l0.length ≤ c0) (h : impl_totalOf.f k l0 = some r) :
  Calls Try.prog 62 #[.slice A0 l0.length c0] w fun e w' => e = .returned (.int .i64 r) ∧ Drawn0 w w' := by
 have HR0 := Aside0.mk hr0
 have HC0 := Aside0.mk hc0
 clear hr0 hc0
 have H : (impl_totalOf.l0 k 0 l0 (l0.length : Int) 0) = some r := h
 clear h
 have H' := Aside0.mk H
 clear H
 go_enter Try.func62, Try.ntmps62
 go_wp2
 go_loopg [3, 8] k (fun kq v3 v8 w' => ∃ (x3_1 : Int) (x8_1 : Int), v3 = .int .i64 x3_1 ∧ v8 = .int .i64 x8_1 ∧ Aside0 (impl_totalOf.l0 kq x3_1 l0 (l0.length : Int) x8_1 = some r) ∧ Aside0 (kq ≤ k) ∧ Drawn0 w w')
 case atStart => exact ⟨(0), (0), TF, TF, H', ⟨Nat.le_refl _⟩, TN⟩
 case round =>
  clear H'
  obtain ⟨x3_1, x8_1, rfl, rfl, HA, HK1, ⟨m1, rfl⟩⟩ := hrel
  cases gk with
  | zero => exact absurd HA.out (by simp [impl_totalOf.l0])
  | succ k1 =>
   have H := HA.out
   clear HA
   simp only [impl_totalOf.l0] at H
   by_cases c2 : x8_1 < (l0.length : Int)
   ·rw [if_pos c2] at H
    have c2b0 : decide (x8_1 < (l0.length : Int)) = true := decide_eq_true c2
    clear c2
    obtain ⟨c3, H⟩ := ifn H
    have c3b0 : decide (0 ≤ x8_1) = true := decide_eq_true c3
    clear c3
    obtain ⟨c4, H⟩ := ifn H
    have c4b0 : decide (x8_1 < (l0.length : Int)) = true := decide_eq_true c4
    clear c4
    have H' := Aside0.mk H
    clear H
    have p156 : 0 ≤ (x8_1 : Int) := TD
    have q156 : x8_1 < (l0.length : Int) := TD
    obtain ⟨ad156, e156, hx156_0⟩ := Kd.at_int HR0.out x8_1 p156 q156
    cases e156
    replace p156 := eq_true p156
    replace q156 := eq_true q156
    go_wp2
    go_roundg k1
    case measure => have := HK1.out; omega
    case rel => exact ⟨(wrap64 (x3_1 + (rd l0 x8_1))), (wrap64 (x8_1 + 1)), TF, TF, H', ⟨TM⟩, TN⟩
   ·rw [if_neg c2] at H
    have c2b0 : decide (x8_1 < (l0.length : Int)) = false := decide_eq_false c2
    clear c2
    obtain rfl := Option.some.inj H
    go_wp2
    go_ret
    exact ⟨TF, TN⟩
end
section
/-! ### impl_within: function 59 -/
def impl_within.f (a0 : Int) (a1 : Int) (a2 : Int) : Option (Bool) := if a0 ≥ a1 then (some (decide (a0 ≤ a2))) else (some false)
theorem impl_within.calls (a0 : Int) (a1 : Int) (a2 : Int) (r : Bool) (w : World) (h : impl_within.f a0 a1 a2 = some r) :
  Calls Try.prog 59 #[.int .i64 a0, .int .i64 a1, .int .i64 a2] w fun e w' => e = .returned (.bool r) ∧ Drawn0 w w' := by
 have H : (if a0 ≥ a1 then (some (decide (a0 ≤ a2))) else (some false)) = some r := h
 clear h
 by_cases c4 : a0 ≥ a1
 ·rw [if_pos c4] at H
  have c4b0 : decide (a1 ≤ a0) = true := decide_eq_true c4
  clear c4
  obtain rfl := Option.some.inj H
  go_enter Try.func59, Try.ntmps59
  go_wp2
  go_ret
  exact ⟨TF, TN⟩
 ·rw [if_neg c4] at H
  have c4b0 : decide (a1 ≤ a0) = false := decide_eq_false c4
  clear c4
  obtain rfl := Option.some.inj H
  go_enter Try.func59, Try.ntmps59
  go_wp2
  go_ret
  exact ⟨TF, TN⟩
end
section
/-! ### impl_GoodWeights_1: function 61 -/
def impl_GoodWeights_1.f (a0 : Int) : Option (Bool) := (impl_within.f a0 0 50).bind fun t152 => (some (!t152))
theorem impl_GoodWeights_1.calls (a0 : Int) (r : Bool) (w : World) (h : impl_GoodWeights_1.f a0 = some r) :
  Calls Try.prog 61 #[.int .i64 a0] w fun e w' => e = .returned (.bool r) ∧ Drawn0 w w' := by
 have H : ((impl_within.f a0 0 50).bind fun t152 => (some (!t152))) = some r := h
 clear h
 obtain ⟨t152, A2, H⟩ := bnd H
 obtain rfl := Option.some.inj H
 go_enter Try.func61, Try.ntmps61
 go_wp2_with (first | ((with_reducible refine gate_callee (f := 59) rfl ?_); refine goesL_ (some 4) rfl rfl Try.func59 KR rfl #[.int .i64 a0, .int .i64 0, .int .i64 50] rfl TA ?_; (with_reducible refine (impl_within.calls a0 0 50 t152 _ A2.out).mono ?_); rintro e w' ⟨rfl, ⟨nd, rfl⟩⟩; refine ⟨_, rfl, ?_⟩))
 go_ret
 exact ⟨TF, TN⟩
end
section
/-! ### slices_IndexFunc_int_int_GoodWeights_1: function 85 -/
def slices_IndexFunc_int_int_GoodWeights_1.l0 : Nat → List Int → Int → Int → Option (Int)
 | 0, _, _, _ => none
 | k + 1, x0, x7, x8 => if x8 < x7 then (if 0 ≤ x8 then (if x8 < (x0.length : Int) then ((impl_GoodWeights_1.f (rd x0 x8)).bind fun t154 => (if t154 = true then (some x8) else (slices_IndexFunc_int_int_GoodWeights_1.l0 k x0 x7 (wrap64 (x8 + 1))))) else (none)) else (none)) else (some (-1))
def slices_IndexFunc_int_int_GoodWeights_1.f (k : Nat) (l0 : List Int)  : Option (Int) := slices_IndexFunc_int_int_GoodWeights_1.l0 k l0 (l0.length : Int) 0
theorem slices_IndexFunc_int_int_GoodWeights_1.calls (k : Nat) (A0 : Option Addr) (c0 : Nat) (l0 : List Int)  (r : Int) (w : World) (hr0 : Kd.C (Kd.int .i64) w A0 l0.length l0) (hc0 : l0.length ≤ c0) (h : slices_IndexFunc_int_int_GoodWeights_1.f k l0 = some r) :
  Calls Try.prog 85 #[.slice A0 l0.length c0, .func (.func 61) #[] #[]] w fun e w' => e = .returned (.int .i64 r) ∧ Drawn0 w w' := by
 have HR0 := Aside0.mk hr0
 have HC0 := Aside0.mk hc0
 clear hr0 hc0
 have H : (slices_IndexFunc_int_int_GoodWeights_1.l0 k l0 (l0.length : Int) 0) = some r := h
 clear h
 have H' := Aside0.mk H
 clear H
 go_enter Try.func85, Try.ntmps85
 go_wp2
 go_loopg [8] k (fun kq v8 w' => ∃ (x8_1 : Int), v8 = .int .i64 x8_1 ∧ Aside0 (slices_IndexFunc_int_int_GoodWeights_1.l0 kq l0 (l0.length : Int) x8_1 = some r) ∧ Aside0 (kq ≤ k) ∧ Drawn0 w w')
 case atStart => exact ⟨(0), TF, H', ⟨Nat.le_refl _⟩, TN⟩
 case round =>
  clear H'
  obtain ⟨x8_1, rfl, HA, HK1, ⟨m1, rfl⟩⟩ := hrel
  cases gk with
  | zero => exact absurd HA.out (by simp [slices_IndexFunc_int_int_GoodWeights_1.l0])
  | succ k1 =>
   have H := HA.out
   clear HA
   simp only [slices_IndexFunc_int_int_GoodWeights_1.l0] at H
   by_cases c3 : x8_1 < (l0.length : Int)
   ·rw [if_pos c3] at H
    have c3b0 : decide (x8_1 < (l0.length : Int)) = true := decide_eq_true c3
    clear c3
    obtain ⟨c4, H⟩ := ifn H
    have c4b0 : decide (0 ≤ x8_1) = true := decide_eq_true c4
    clear c4
    obtain ⟨c5, H⟩ := ifn H
    have c5b0 : decide (x8_1 < (l0.length : Int)) = true := decide_eq_true c5
    clear c5
    obtain ⟨t154, A6, H⟩ := bnd H
    by_cases c7 : t154 = true
    ·subst c7
     replace H := ift H
     obtain rfl := Option.some.inj H
     have p153 : 0 ≤ (x8_1 : Int) := TD
     have q153 : x8_1 < (l0.length : Int) := TD
     obtain ⟨ad153, e153, hx153_0⟩ := Kd.at_int HR0.out x8_1 p153 q153
     cases e153
     replace p153 := eq_true p153
     replace q153 := eq_true q153
     go_wp2_with (first | (go_at_call 61; (with_reducible refine (impl_GoodWeights_1.calls (rd l0 x8_1) true _ A6.out).mono ?_); rintro e w' ⟨rfl, ⟨nd, rfl⟩⟩))
     go_ret
     exact ⟨TF, TN⟩
    ·replace c7 := Bool.eq_false_iff.mpr c7
     subst c7
     replace H := iff' H
     have H' := Aside0.mk H
     clear H
     have p153 : 0 ≤ (x8_1 : Int) := TD
     have q153 : x8_1 < (l0.length : Int) := TD
     obtain ⟨ad153, e153, hx153_0⟩ := Kd.at_int HR0.out x8_1 p153 q153
     cases e153
     replace p153 := eq_true p153
     replace q153 := eq_true q153
     go_wp2_with (first | (go_at_call 61; (with_reducible refine (impl_GoodWeights_1.calls (rd l0 x8_1) false _ A6.out).mono ?_); rintro e w' ⟨rfl, ⟨nd, rfl⟩⟩))
     go_roundg k1
     case measure => have := HK1.out; omega
     case rel => exact ⟨(wrap64 (x8_1 + 1)), TF, H', ⟨TM⟩, TN⟩
   ·rw [if_neg c3] at H
    have c3b0 : decide (x8_1 < (l0.length : Int)) = false := decide_eq_false c3
    clear c3
    obtain rfl := Option.some.inj H
    go_wp2
    go_ret
    exact ⟨TF, TN⟩
end
section
/-! ### slices_ContainsFunc_int_int_GoodWeights_1: function 60 -/
def slices_ContainsFunc_int_int_GoodWeights_1.f (k : Nat) (l0 : List Int)  : Option (Bool) := (slices_IndexFunc_int_int_GoodWeights_1.f k l0).bind fun t155 => (some (decide (t155 ≥ 0)))
theorem slices_ContainsFunc_int_int_GoodWeights_1.calls (k : Nat) (A0 : Option Addr) (c0 : Nat) (l0 : List Int)  (r : Bool) (w : World) (hr0 : Kd.C (Kd.int .i64) w A0 l0.length l0) (hc0 : l0.length ≤ c0) (h : slices_ContainsFunc_int_int_GoodWeights_1.f k l0 = some r) :
  Calls Try.prog 60 #[.slice A0 l0.length c0, .func (.func 61) #[] #[]] w fun e w' => e = .returned (.bool r) ∧ Drawn0 w w' := by
 have HR0 := Aside0.mk hr0
 have HC0 := Aside0.mk hc0
 clear hr0 hc0
 have H : ((slices_IndexFunc_int_int_GoodWeights_1.f k l0).bind fun t155 => (some (decide (t155 ≥ 0)))) = some r := h
 clear h
 obtain ⟨t155, A3, H⟩ := bnd H
 obtain rfl := Option.some.inj H
 go_enter Try.func60, Try.ntmps60
 go_wp2_with (first | ((with_reducible refine gate_callee (f := 85) rfl ?_); refine goesL_ (some 7) rfl rfl Try.func85 KR rfl #[.slice A0 l0.length c0, .func (.func 61) #[] #[]] rfl TA ?_; (with_reducible refine (slices_IndexFunc_int_int_GoodWeights_1.calls k _ _ l0  t155 _ ?side1 ?side2 A3.out).mono ?_); (case side1 => exact CW (HR0.out)); (case side2 => exact HC0.out); rintro e w' ⟨rfl, ⟨nd, rfl⟩⟩; refine ⟨_, rfl, ?_⟩))
 go_ret
 exact ⟨TF, TN⟩
end
section
/-! ### impl_GoodWeights: function 17 -/
def impl_GoodWeights.f (k : Nat) (l0 : List Int) : Option (Bool) := (impl_within.f (l0.length : Int) 1 12).bind fun t157 => (if t157 = true then ((slices_ContainsFunc_int_int_GoodWeights_1.f k l0).bind fun t158 => (if t158 = true then (some false) else ((impl_totalOf.f k l0).bind fun t159 => (some (decide (t159 > 0)))))) else (some false))
theorem impl_GoodWeights.calls (k : Nat) (A0 : Option Addr) (c0 : Nat) (l0 : List Int) (r : Bool) (w : World) (hr0 : Kd.C (Kd.int .i64) w A0 l0.length l0) (hc0 : l0.length ≤ c0) (h : impl_GoodWeights.f k l0 = some r) :
  Calls Try.prog 17 #[.slice A0 l0.length c0] w fun e w' => e = .returned (.bool r) ∧ Drawn0 w w' := by
 have HR0 := Aside0.mk hr0
 have HC0 := Aside0.mk hc0
 clear hr0 hc0
 have H : ((impl_within.f (l0.length : Int) 1 12).bind fun t157 => (if t157 = true then ((slices_ContainsFunc_int_int_GoodWeights_1.f k l0).bind fun t158 => (if t158 = true then (some false) else ((impl_totalOf.f k l0).bind fun t159 => (some (decide (t159 > 0)))))) else (some false))) = some r := h
 clear h
 obtain ⟨t157, A2, H⟩ := bnd H
 by_cases c3 : t157 = true
 ·subst c3
  replace H := ift H
  obtain ⟨t158, A4, H⟩ := bnd H
  by_cases c5 : t158 = true
  ·subst c5
   replace H := ift H
   obtain rfl := Option.some.inj H
   go_enter Try.func17, Try.ntmps17
   go_wp2_with (first | ((with_reducible refine gate_callee (f := 59) rfl ?_); refine goesL_ (some 5) rfl rfl Try.func59 KR rfl #[.int .i64 (l0.length : Int), .int .i64 1, .int .i64 12] rfl TA ?_; (with_reducible refine (impl_within.calls (l0.length : Int) 1 12 true _ A2.out).mono ?_); rintro e w' ⟨rfl, ⟨nd, rfl⟩⟩; refine ⟨_, rfl, ?_⟩) | (go_at_call 60; (with_reducible refine (slices_ContainsFunc_int_int_GoodWeights_1.calls k _ _ l0  true _ ?side1 ?side2 A4.out).mono ?_); (case side1 => exact CW (HR0.out)); (case side2 => exact HC0.out); rintro e w' ⟨rfl, ⟨nd, rfl⟩⟩))
   go_ret
   exact ⟨TF, TN⟩
  ·replace c5 := Bool.eq_false_iff.mpr c5
   subst c5
   replace H := iff' H
   obtain ⟨t159, A6, H⟩ := bnd H
   obtain rfl := Option.some.inj H
   go_enter Try.func17, Try.ntmps17
   go_wp2_with (first | ((with_reducible refine gate_callee (f := 59) rfl ?_); refine goesL_ (some 5) rfl rfl Try.func59 KR rfl #[.int .i64 (l0.length : Int), .int .i64 1, .int .i64 12] rfl TA ?_; (with_reducible refine (impl_within.calls (l0.length : Int) 1 12 true _ A2.out).mono ?_); rintro e w' ⟨rfl, ⟨nd, rfl⟩⟩; refine ⟨_, rfl, ?_⟩) | (go_at_call 60; (with_reducible refine (slices_ContainsFunc_int_int_GoodWeights_1.calls k _ _ l0  false _ ?side1 ?side2 A4.out).mono ?_); (case side1 => exact CW (HR0.out)); (case side2 => exact HC0.out); rintro e w' ⟨rfl, ⟨nd, rfl⟩⟩) | (go_at_call 62; (with_reducible refine (impl_totalOf.calls k _ _ l0 t159 _ ?side1 ?side2 A6.out).mono ?_); (case side1 => exact CW (HR0.out)); (case side2 => exact HC0.out); rintro e w' ⟨rfl, ⟨nd, rfl⟩⟩))
   go_ret
   exact ⟨TF, TN⟩
 ·replace c3 := Bool.eq_false_iff.mpr c3
  subst c3
  replace H := iff' H
  obtain rfl := Option.some.inj H
  go_enter Try.func17, Try.ntmps17
  go_wp2_with (first | ((with_reducible refine gate_callee (f := 59) rfl ?_); refine goesL_ (some 5) rfl rfl Try.func59 KR rfl #[.int .i64 (l0.length : Int), .int .i64 1, .int .i64 12] rfl TA ?_; (with_reducible refine (impl_within.calls (l0.length : Int) 1 12 false _ A2.out).mono ?_); rintro e w' ⟨rfl, ⟨nd, rfl⟩⟩; refine ⟨_, rfl, ?_⟩))
  go_ret
  exact ⟨TF, TN⟩
end
section
/-! ### impl_GoodTurn_1: function 71 -/
def impl_GoodTurn_1.f (a0 : Int) : Option (Bool) := (impl_within.f a0 (-10000) 10000).bind fun t461 => (some (!t461))
theorem impl_GoodTurn_1.calls (a0 : Int) (r : Bool) (w : World) (h : impl_GoodTurn_1.f a0 = some r) :
  Calls Try.prog 71 #[.int .i64 a0] w fun e w' => e = .returned (.bool r) ∧ Drawn0 w w' := by
 have H : ((impl_within.f a0 (-10000) 10000).bind fun t461 => (some (!t461))) = some r := h
 clear h
 obtain ⟨t461, A2, H⟩ := bnd H
 obtain rfl := Option.some.inj H
 go_enter Try.func71, Try.ntmps71
 go_wp2_with (first | ((with_reducible refine gate_callee (f := 59) rfl ?_); refine goesL_ (some 4) rfl rfl Try.func59 KR rfl #[.int .i64 a0, .int .i64 (-10000), .int .i64 10000] rfl TA ?_; (with_reducible refine (impl_within.calls a0 (-10000) 10000 t461 _ A2.out).mono ?_); rintro e w' ⟨rfl, ⟨nd, rfl⟩⟩; refine ⟨_, rfl, ?_⟩))
 go_ret
 exact ⟨TF, TN⟩
end
section
/-! ### slices_IndexFunc_int_int_GoodTurn_1: function 85 -/
def slices_IndexFunc_int_int_GoodTurn_1.l0 : Nat → List Int → Int → Int → Option (Int)
 | 0, _, _, _ => none
 | k + 1, x0, x7, x8 => if x8 < x7 then (if 0 ≤ x8 then (if x8 < (x0.length : Int) then ((impl_GoodTurn_1.f (rd x0 x8)).bind fun t463 => (if t463 = true then (some x8) else (slices_IndexFunc_int_int_GoodTurn_1.l0 k x0 x7 (wrap64 (x8 + 1))))) else (none)) else (none)) else (some (-1))
def slices_IndexFunc_int_int_GoodTurn_1.f (k : Nat) (l0 : List Int)  : Option (Int) := slices_IndexFunc_int_int_GoodTurn_1.l0 k l0 (l0.length : Int) 0
theorem slices_IndexFunc_int_int_GoodTurn_1.calls (k : Nat) (A0 : Option Addr) (c0 : Nat) (l0 : List Int)  (r : Int) (w : World) (hr0 : Kd.C (Kd.int .i64) w A0 l0.length l0) (hc0 : l0.length ≤ c0) (h : slices_IndexFunc_int_int_GoodTurn_1.f k l0 = some r) :
  Calls Try.prog 85 #[.slice A0 l0.length c0, .func (.func 71) #[] #[]] w fun e w' => e = .returned (.int .i64 r) ∧ Drawn0 w w' := by
 have HR0 := Aside0.mk hr0
 have HC0 := Aside0.mk hc0
 clear hr0 hc0
 have H : (slices_IndexFunc_int_int_GoodTurn_1.l0 k l0 (l0.length : Int) 0) = some r := h
 clear h
 have H' := Aside0.mk H
 clear H
 go_enter Try.func85, Try.ntmps85
 go_wp2
 go_loopg [8] k (fun kq v8 w' => ∃ (x8_1 : Int), v8 = .int .i64 x8_1 ∧ Aside0 (slices_IndexFunc_int_int_GoodTurn_1.l0 kq l0 (l0.length : Int) x8_1 = some r) ∧ Aside0 (kq ≤ k) ∧ Drawn0 w w')
 case atStart => exact ⟨(0), TF, H', ⟨Nat.le_refl _⟩, TN⟩
 case round =>
  clear H'
  obtain ⟨x8_1, rfl, HA, HK1, ⟨m1, rfl⟩⟩ := hrel
  cases gk with
  | zero => exact absurd HA.out (by simp [slices_IndexFunc_int_int_GoodTurn_1.l0])
  | succ k1 =>
   have H := HA.out
   clear HA
   simp only [slices_IndexFunc_int_int_GoodTurn_1.l0] at H
   by_cases c3 : x8_1 < (l0.length : Int)
   ·rw [if_pos c3] at H
    have c3b0 : decide (x8_1 < (l0.length : Int)) = true := decide_eq_true c3
    clear c3
    obtain ⟨c4, H⟩ := ifn H
    have c4b0 : decide (0 ≤ x8_1) = true := decide_eq_true c4
    clear c4
    obtain ⟨c5, H⟩ := ifn H
    have c5b0 : decide (x8_1 < (l0.length : Int)) = true := decide_eq_true c5
    clear c5
    obtain ⟨t463, A6, H⟩ := bnd H
    by_cases c7 : t463 = true
    ·subst c7
     replace H := ift H
     obtain rfl := Option.some.inj H
     have p462 : 0 ≤ (x8_1 : Int) := TD
     have q462 : x8_1 < (l0.length : Int) := TD
     obtain ⟨ad462, e462, hx462_0⟩ := Kd.at_int HR0.out x8_1 p462 q462
     cases e462
     replace p462 := eq_true p462
     replace q462 := eq_true q462
     go_wp2_with (first | (go_at_call 71; (with_reducible refine (impl_GoodTurn_1.calls (rd l0 x8_1) true _ A6.out).mono ?_); rintro e w' ⟨rfl, ⟨nd, rfl⟩⟩))
     go_ret
     exact ⟨TF, TN⟩
    ·replace c7 := Bool.eq_false_iff.mpr c7
     subst c7
     replace H := iff' H
     have H' := Aside0.mk H
     clear H
     have p462 : 0 ≤ (x8_1 : Int) := TD
     have q462 : x8_1 < (l0.length : Int) := TD
     obtain ⟨ad462, e462, hx462_0⟩ := Kd.at_int HR0.out x8_1 p462 q462
     cases e462
     replace p462 := eq_true p462
     replace q462 := eq_true q462
     go_wp2_with (first | (go_at_call 71; (with_reducible refine (impl_GoodTurn_1.calls (rd l0 x8_1) false _ A6.out).mono ?_); rintro e w' ⟨rfl, ⟨nd, rfl⟩⟩))
     go_roundg k1
     case measure => have := HK1.out; omega
     case rel => exact ⟨(wrap64 (x8_1 + 1)), TF, H', ⟨TM⟩, TN⟩
   ·rw [if_neg c3] at H
    have c3b0 : decide (x8_1 < (l0.length : Int)) = false := decide_eq_false c3
    clear c3
    obtain rfl := Option.some.inj H
    go_wp2
    go_ret
    exact ⟨TF, TN⟩
end
section
/-! ### slices_ContainsFunc_int_int_GoodTurn_1: function 60 -/
def slices_ContainsFunc_int_int_GoodTurn_1.f (k : Nat) (l0 : List Int)  : Option (Bool) := (slices_IndexFunc_int_int_GoodTurn_1.f k l0).bind fun t464 => (some (decide (t464 ≥ 0)))
theorem slices_ContainsFunc_int_int_GoodTurn_1.calls (k : Nat) (A0 : Option Addr) (c0 : Nat) (l0 : List Int)  (r : Bool) (w : World) (hr0 : Kd.C (Kd.int .i64) w A0 l0.length l0) (hc0 : l0.length ≤ c0) (h : slices_ContainsFunc_int_int_GoodTurn_1.f k l0 = some r) :
  Calls Try.prog 60 #[.slice A0 l0.length c0, .func (.func 71) #[] #[]] w fun e w' => e = .returned (.bool r) ∧ Drawn0 w w' := by
 have HR0 := Aside0.mk hr0
 have HC0 := Aside0.mk hc0
 clear hr0 hc0
 have H : ((slices_IndexFunc_int_int_GoodTurn_1.f k l0).bind fun t464 => (some (decide (t464 ≥ 0)))) = some r := h
 clear h
 obtain ⟨t464, A3, H⟩ := bnd H
 obtain rfl := Option.some.inj H
 go_enter Try.func60, Try.ntmps60
 go_wp2_with (first | ((with_reducible refine gate_callee (f := 85) rfl ?_); refine goesL_ (some 7) rfl rfl Try.func85 KR rfl #[.slice A0 l0.length c0, .func (.func 71) #[] #[]] rfl TA ?_; (with_reducible refine (slices_IndexFunc_int_int_GoodTurn_1.calls k _ _ l0  t464 _ ?side1 ?side2 A3.out).mono ?_); (case side1 => exact CW (HR0.out)); (case side2 => exact HC0.out); rintro e w' ⟨rfl, ⟨nd, rfl⟩⟩; refine ⟨_, rfl, ?_⟩))
 go_ret
 exact ⟨TF, TN⟩
end
section
/-! ### impl_GoodTurn: function 29 -/
def impl_GoodTurn.f (k : Nat) (l0_0 : List Int) (l0_1 : List Int) : Option (Bool) := (impl_GoodWeights.f k l0_0).bind fun t466 => (if t466 = true then (if (l0_1.length : Int) = (l0_0.length : Int) then ((slices_ContainsFunc_int_int_GoodTurn_1.f k l0_1).bind fun t467 => (if t467 = true then (some false) else ((impl_totalOf.f k l0_1).bind fun t468 => (some (t468 == 0))))) else (some false)) else (some false))
theorem impl_GoodTurn.calls (k : Nat) (A0_0 : Option Addr) (c0_0 : Nat) (l0_0 : List Int) (A0_1 : Option Addr) (c0_1 : Nat) (l0_1 : List Int) (r : Bool) (w : World) (hr0_0 : Kd.C (Kd.int .i64) w A0_0 l0_0.length l0_0) (hc0_0 : l0_0.length ≤ c0_0) (hr0_1 : Kd.C (Kd.int .i64) w A0_1 l0_1.length l0_1) (hc0_1 : l0_1.length ≤ c0_1) (h : impl_GoodTurn.f k l0_0 l0_1 = some r) :
  Calls Try.prog 29 #[.agg #[.slice A0_0 l0_0.length c0_0, .slice A0_1 l0_1.length c0_1]] w fun e w' => e = .returned (.bool r) ∧ Below w.heap.size w w' := by
 have hu40 := Try.underlying40
 have HR0_0 := Aside0.mk hr0_0
 have HC0_0 := Aside0.mk hc0_0
 clear hr0_0 hc0_0
 have HR0_1 := Aside0.mk hr0_1
 have HC0_1 := Aside0.mk hc0_1
 clear hr0_1 hc0_1
 have HB := Aside0.mk (Below.refl w.heap.size w)
 have H : ((impl_GoodWeights.f k l0_0).bind fun t466 => (if t466 = true then (if (l0_1.length : Int) = (l0_0.length : Int) then ((slices_ContainsFunc_int_int_GoodTurn_1.f k l0_1).bind fun t467 => (if t467 = true then (some false) else ((impl_totalOf.f k l0_1).bind fun t468 => (some (t468 == 0))))) else (some false)) else (some false))) = some r := h
 clear h
 obtain ⟨t466, A2, H⟩ := bnd H
 by_cases c3 : t466 = true
 ·subst c3
  replace H := ift H
  by_cases c4 : (l0_1.length : Int) = (l0_0.length : Int)
  ·rw [if_pos c4] at H
   have c4b0 : ((l0_1.length : Int) == (l0_0.length : Int)) = true := beq_iff_eq.mpr c4
   have c4b1 : ((l0_1.length : Int) != (l0_0.length : Int)) = false := bne_eq_false_iff_eq.mpr c4
   have c4b2 : (l0_1.length == l0_0.length) = true := by first | simpa using c4 | (simp at c4 ⊢; omega)
   clear c4
   obtain ⟨t467, A5, H⟩ := bnd H
   by_cases c6 : t467 = true
   ·subst c6
    replace H := ift H
    obtain rfl := Option.some.inj H
    go_enter Try.func29, Try.ntmps29
    go_wp2_with (first | ((with_reducible refine gate_dst (N := 1) rfl ?_); (try (refine gate_guard (by rfl) ?_; dsimp only)); refine bE 1 #[.slice A0_0 l0_0.length c0_0, .slice A0_1 l0_1.length c0_1] 40 ?_; intro gb465 hg w7 hbox hb; have BK465 := Aside0.mk (hbox); have GE465 := bG hg; replace HB := BS hb; clear hb hbox hg; have hcz8 := cz2 BK465) | ((with_reducible refine gate_callee (f := 17) rfl ?_); refine goesL_ (some 5) rfl rfl Try.func17 KR rfl #[.slice A0_0 l0_0.length c0_0] rfl TA ?_; (with_reducible refine (impl_GoodWeights.calls k _ _ l0_0 true _ ?side1 ?side2 A2.out).mono ?_); (case side1 => exact CW ((Kd.C_below HR0_0.out HB.out))); (case side2 => exact HC0_0.out); rintro e w' ⟨rfl, ⟨nd, rfl⟩⟩; refine ⟨_, rfl, ?_⟩) | (go_at_call 60; (with_reducible refine (slices_ContainsFunc_int_int_GoodTurn_1.calls k _ _ l0_1  true _ ?side1 ?side2 A5.out).mono ?_); (case side1 => exact CW ((Kd.C_below HR0_1.out TB))); (case side2 => exact HC0_1.out); rintro e w' ⟨rfl, ⟨nd, rfl⟩⟩))
    go_ret
    exact ⟨TE, TB⟩
   ·replace c6 := Bool.eq_false_iff.mpr c6
    subst c6
    replace H := iff' H
    obtain ⟨t468, A9, H⟩ := bnd H
    obtain rfl := Option.some.inj H
    go_enter Try.func29, Try.ntmps29
    go_wp2_with (first | ((with_reducible refine gate_dst (N := 1) rfl ?_); (try (refine gate_guard (by rfl) ?_; dsimp only)); refine bE 1 #[.slice A0_0 l0_0.length c0_0, .slice A0_1 l0_1.length c0_1] 40 ?_; intro gb465 hg w10 hbox hb; have BK465 := Aside0.mk (hbox); have GE465 := bG hg; replace HB := BS hb; clear hb hbox hg; have hcz11 := cz2 BK465) | ((with_reducible refine gate_callee (f := 17) rfl ?_); refine goesL_ (some 5) rfl rfl Try.func17 KR rfl #[.slice A0_0 l0_0.length c0_0] rfl TA ?_; (with_reducible refine (impl_GoodWeights.calls k _ _ l0_0 true _ ?side1 ?side2 A2.out).mono ?_); (case side1 => exact CW ((Kd.C_below HR0_0.out HB.out))); (case side2 => exact HC0_0.out); rintro e w' ⟨rfl, ⟨nd, rfl⟩⟩; refine ⟨_, rfl, ?_⟩) | (go_at_call 60; (with_reducible refine (slices_ContainsFunc_int_int_GoodTurn_1.calls k _ _ l0_1  false _ ?side1 ?side2 A5.out).mono ?_); (case side1 => exact CW ((Kd.C_below HR0_1.out TB))); (case side2 => exact HC0_1.out); rintro e w' ⟨rfl, ⟨nd, rfl⟩⟩) | (go_at_call 62; (with_reducible refine (impl_totalOf.calls k _ _ l0_1 t468 _ ?side1 ?side2 A9.out).mono ?_); (case side1 => exact CW ((Kd.C_below HR0_1.out TB))); (case side2 => exact HC0_1.out); rintro e w' ⟨rfl, ⟨nd, rfl⟩⟩))
    go_ret
    exact ⟨TE, TB⟩
  ·rw [if_neg c4] at H
   have c4b0 : ((l0_1.length : Int) == (l0_0.length : Int)) = false := beq_eq_false_iff_ne.mpr c4
   have c4b1 : ((l0_1.length : Int) != (l0_0.length : Int)) = true := bne_iff_ne.mpr c4
   have c4b2 : (l0_1.length == l0_0.length) = false := by first | simpa using c4 | (simp at c4 ⊢; omega)
   obtain rfl := Option.some.inj H
   go_enter Try.func29, Try.ntmps29
   go_wp2_with (first | ((with_reducible refine gate_dst (N := 1) rfl ?_); (try (refine gate_guard (by rfl) ?_; dsimp only)); refine bE 1 #[.slice A0_0 l0_0.length c0_0, .slice A0_1 l0_1.length c0_1] 40 ?_; intro gb465 hg w12 hbox hb; have BK465 := Aside0.mk (hbox); have GE465 := bG hg; replace HB := BS hb; clear hb hbox hg; have hcz13 := cz2 BK465) | ((with_reducible refine gate_callee (f := 17) rfl ?_); refine goesL_ (some 5) rfl rfl Try.func17 KR rfl #[.slice A0_0 l0_0.length c0_0] rfl TA ?_; (with_reducible refine (impl_GoodWeights.calls k _ _ l0_0 true _ ?side1 ?side2 A2.out).mono ?_); (case side1 => exact CW ((Kd.C_below HR0_0.out HB.out))); (case side2 => exact HC0_0.out); rintro e w' ⟨rfl, ⟨nd, rfl⟩⟩; refine ⟨_, rfl, ?_⟩))
   go_ret
   exact ⟨TE, TB⟩
 ·replace c3 := Bool.eq_false_iff.mpr c3
  subst c3
  replace H := iff' H
  obtain rfl := Option.some.inj H
  go_enter Try.func29, Try.ntmps29
  go_wp2_with (first | ((with_reducible refine gate_dst (N := 1) rfl ?_); (try (refine gate_guard (by rfl) ?_; dsimp only)); refine bE 1 #[.slice A0_0 l0_0.length c0_0, .slice A0_1 l0_1.length c0_1] 40 ?_; intro gb465 hg w14 hbox hb; have BK465 := Aside0.mk (hbox); have GE465 := bG hg; replace HB := BS hb; clear hb hbox hg; have hcz15 := cz2 BK465) | ((with_reducible refine gate_callee (f := 17) rfl ?_); refine goesL_ (some 5) rfl rfl Try.func17 KR rfl #[.slice A0_0 l0_0.length c0_0] rfl TA ?_; (with_reducible refine (impl_GoodWeights.calls k _ _ l0_0 false _ ?side1 ?side2 A2.out).mono ?_); (case side1 => exact CW ((Kd.C_below HR0_0.out HB.out))); (case side2 => exact HC0_0.out); rintro e w' ⟨rfl, ⟨nd, rfl⟩⟩; refine ⟨_, rfl, ?_⟩))
  go_ret
  exact ⟨TE, TB⟩
end
section
/-! ### spec_NewTurn: function 31 -/
def spec_NewTurn.f (k : Nat) (l0 : List Int) : Option (List Int × List Int × Bool) := (spec_GoodWeights.f k l0).bind fun t567 => (if t567 = true then ((some (([] : List Int) : List Int)).bind fun y568 => (if y568.length + l0.length < 17592186044416 then (if 0 ≤ (l0.length : Int) then (if ((l0.length : Int) : Int).toNat ≤ 35184372088832 then (some ((y568 ++ l0), (List.replicate ((l0.length : Int) : Int).toNat 0), true)) else (none)) else (none)) else (none))) else (some (([] : List Int), ([] : List Int), false)))
def spec_NewTurn.T3 : Bool × List (List Nat × List Nat) := (true, [([], []), ([], []), ([0, 1], [0, 1]), ([], []), ([3], [3]), ([4, 4], [4]), ([2, 5], [2, 5]), ([6, 2, 0, 1, 2, 3, 4, 5, 6], [6]), ([7, 0, 1, 2, 3, 4, 5, 6, 7], [])])
def spec_NewTurn.B3 : List Nat := [0, 0, 3, 0, 8, 24, 63, 127, 255]
theorem spec_NewTurn.tab3 : rtab .any (opsOf Try.f31 3) = spec_NewTurn.T3 := by kernel_rfl
theorem spec_NewTurn.bits3 : waitsOk spec_NewTurn.T3.2 spec_NewTurn.B3 = true := by kernel_rfl
theorem spec_NewTurn.calls (k : Nat) (A0 : Option Addr) (c0 : Nat) (l0 : List Int) (r1 : List Int) (r2 : List Int) (r3 : Bool) (w : World) (hr0 : Kd.C (Kd.int .i64) w A0 l0.length l0) (hc0 : l0.length ≤ c0) (h : spec_NewTurn.f k l0 = some (r1, r2, r3)) :
  Calls Try.prog 31 #[.slice A0 l0.length c0] w fun e w' => ∃ v0_ v1_ : Value, e = .returned (.tuple #[.agg #[v0_, v1_], .bool r3]) ∧ Kd.R (Kd.int .i64) 3 w' w.heap.size (fun k_ => some k_ ≠ (v1_ : Value).ownBlock) v0_ r1 ∧ Kd.R (Kd.int .i64) 3 w' w.heap.size (fun k_ => some k_ ≠ (v0_ : Value).ownBlock) v1_ r2 ∧ Below w.heap.size w w' := by
 have hu40 := Try.underlying40
 have HR0 := Aside0.mk hr0
 have HC0 := Aside0.mk hc0
 clear hr0 hc0
 have HB := Aside0.mk (Below.refl w.heap.size w)
 have H : ((spec_GoodWeights.f k l0).bind fun t567 => (if t567 = true then ((some (([] : List Int) : List Int)).bind fun y568 => (if y568.length + l0.length < 17592186044416 then (if 0 ≤ (l0.length : Int) then (if ((l0.length : Int) : Int).toNat ≤ 35184372088832 then (some ((y568 ++ l0), (List.replicate ((l0.length : Int) : Int).toNat 0), true)) else (none)) else (none)) else (none))) else (some (([] : List Int), ([] : List Int), false)))) = some (r1, r2, r3) := h
 clear h
 obtain ⟨t567, A2, H⟩ := bnd H
 by_cases c3 : t567 = true
 ·subst c3
  replace H := ift H
  obtain ⟨y568, hy568⟩ : ∃ y_ : List Int, y_ = (([] : List Int)) := ⟨_, rfl⟩
  replace H : (if y568.length + l0.length < 17592186044416 then (if 0 ≤ (l0.length : Int) then (if ((l0.length : Int) : Int).toNat ≤ 35184372088832 then (some ((y568 ++ l0), (List.replicate ((l0.length : Int) : Int).toNat 0), true)) else (none)) else (none)) else (none)) = some (r1, r2, r3) := by first | (rw [hy568]; with_reducible exact H) | (have H2_ := (Option.bind_some _ _).symm.trans H; rw [hy568]; with_reducible exact H2_) | (have H2_ := (Option.bind_some _ _).symm.trans H; with_reducible exact H2_) | with_reducible exact H | (rw [hy568]; exact H) | exact H
  have Ny568 := Aside0.mk hy568
  clear hy568
  obtain ⟨c4, H⟩ := ifn H
  have LMc4 := Aside0.mk c4
  clear c4
  obtain ⟨y571, hy571⟩ : ∃ y_ : List Int, y_ = (y568 ++ l0) := ⟨_, rfl⟩
  replace H : (if 0 ≤ (l0.length : Int) then (if ((l0.length : Int) : Int).toNat ≤ 35184372088832 then (some (y571, (List.replicate ((l0.length : Int) : Int).toNat 0), true)) else (none)) else (none)) = some (r1, r2, r3) := by first | (rw [hy571]; with_reducible exact H) | (have H2_ := (Option.bind_some _ _).symm.trans H; rw [hy571]; with_reducible exact H2_) | (have H2_ := (Option.bind_some _ _).symm.trans H; with_reducible exact H2_) | with_reducible exact H | (rw [hy571]; exact H) | exact H
  have Ny571 := Aside0.mk hy571
  clear hy571
  obtain ⟨c5, H⟩ := ifn H
  have c5b0 := eq_true c5
  have c5b1 : decide (0 ≤ (l0.length : Int)) = true := decide_eq_true c5
  clear c5
  obtain ⟨c6, H⟩ := ifn H
  have c6b0 := eq_true c6
  have c6b1 : decide (((l0.length : Int) : Int).toNat ≤ 35184372088832) = true := decide_eq_true c6
  clear c6
  obtain ⟨y574, hy574⟩ : ∃ y_ : List Int, y_ = (List.replicate ((l0.length : Int) : Int).toNat 0) := ⟨_, rfl⟩
  replace H : (some (y571, y574, true)) = some (r1, r2, r3) := by first | (rw [hy574]; with_reducible exact H) | (have H2_ := (Option.bind_some _ _).symm.trans H; rw [hy574]; with_reducible exact H2_) | (have H2_ := (Option.bind_some _ _).symm.trans H; with_reducible exact H2_) | with_reducible exact H | (rw [hy574]; exact H) | exact H
  have Ny574 := Aside0.mk hy574
  clear hy574
  simp only [Option.some.injEq, Prod.mk.injEq] at H
  obtain ⟨rfl, rfl, rfl⟩ := H
  go_enter Try.func31, Try.ntmps31
  try go_wp2_with (first | ((with_reducible refine gate_dst (N := 2) rfl ?_); refine bE 2 #[.slice none 0 0, .slice none 0 0] 40 ?_; intro gb566 hg w7 hbox hb; have BK566 := Aside0.mk (hbox); have GE566 := bG hg; replace HB := BS hb; clear hb hbox hg) | ((with_reducible refine gate_callee (f := 15) rfl ?_); refine goesL_ (some 5) rfl rfl Try.func15 KR rfl #[.slice A0 l0.length c0] rfl TA ?_; (with_reducible refine (spec_GoodWeights.calls k _ _ l0 true _ ?side1 ?side2 A2.out).mono ?_); (case side1 => exact CW ((Kd.C_below HR0.out HB.out))); (case side2 => exact HC0.out); rintro e w' ⟨rfl, ⟨nd, rfl⟩⟩; refine ⟨_, rfl, ?_⟩; (try (rw [drewN_self w7]; generalize hq_ : World.drewN w7 _ = w7; have n0_ : Aside0 (w7.heap[gb566]? = some (.cells #[.slice none 0 0, .slice none 0 0] 40 (0, 0))) := ⟨by rw [← hq_]; exact (KW BK566).out⟩; have n1_ : Aside0 (Below w.heap.size w w7) := ⟨by rw [← hq_]; exact TB⟩; clear BK566 HB hq_; have BK566 := n0_; have HB := n1_; clear n0_ n1_))))
  replace BK566 := Aside0.mk (blk_drew BK566.out)
  replace HB := Aside0.mk (below_drew1 HB.out)
  refine start_ (n := 9) (S := fun w' => True) (ds := []) #[false, false, false, false, false, false, false, false, false] KR rfl rfl trivial (fun hHeld => ?_); refine with_tabW spec_NewTurn.tab3 spec_NewTurn.bits3 (fun HT_ HW_ => ?_)
  generalize w7.drew = w8 at BK566 HB hHeld ⊢
  refine pA 1 9 (mL 9 2) HT_ rfl rfl ?_
  refine pA 3 11 (mL 9 10) HT_ rfl rfl ?_
  refine pA 4 12 (mL 9 26) HT_ rfl rfl ?_
  refine join_ (σ := Value × Value × Value) 3 #[true, true, true, true, true, true, false, false, false] (fun s_ => [(8, s_.1), (10, s_.2.1), (13, s_.2.2)]) (fun s_ w' => (Kd.R (Kd.int .i64) 3 w' w.heap.size (fun k_ => some k_ ≠ (s_.2.2 : Value).ownBlock) s_.2.1 y571) ∧ (Kd.R (Kd.int .i64) 3 w' w.heap.size (fun k_ => some k_ ≠ (s_.2.1 : Value).ownBlock) s_.2.2 y574) ∧ (w'.heap[gb566]? = some (.cells #[.slice none 0 0, .slice none 0 0] 40 (0, 0))) ∧ (Below w.heap.size w w')) ?_ ?_
  rotate_left
  ·intro hCont
   refine two_ (i := 0) (j := 5) (Ni := some 8) (Nj := some 13) #[true, true, false, true, true, false, false, false, false] #[false, true, false, true, true, true, false, false, false] rfl rfl rfl rfl (two_of HT_.out KR) (by decide) (by decide) (fun K hK => ?_) (fun K hK => ?_)
   ·skip
    refine Kd.R_lit_step (Kd.int .i64) _ 3 ?hg (N := 8) ?hd (xs := ([] : List Int)) (inner := []) (ok := fun _ => True) (okp := fun _ => True) ?hr ?hp (fun _ hk => hk) trivial (Below.refl _ _) (Nat.le_refl _) (by simp) ?_; (case hd => rfl); (case hg => rfl); (case hr => first | (go_simp; done) | (go_simp; rfl)); (case hp => exact (Reps.none _ _))
    intro v569 w9 ho10 hb hg_ hnew_
    clear hg_ hnew_
    (first | rw [← Ny568.out] at ho10 | (simp only [Int.reduceToNat] at ho10; rw [← Ny568.out] at ho10))
    have HO570 := RL ho10
    replace BK566 := KB BK566 hb
    replace HB := BS hb
    clear hb ho10
    refine hK.out _ _ trivial (fun hHeld => ?_)
    clear hK K
    refine nA ?_
    refine two_ (i := 2) (j := 5) (Ni := some 10) (Nj := some 13) #[true, true, true, true, true, false, false, false, false] #[true, true, false, true, true, true, false, false, false] rfl rfl rfl rfl (two_of HT_.out KR) (by decide) (by decide) (fun K hK => ?_) (fun K hK => ?_)
    ·skip
     refine Kd.R_append_rows_step (Kd.int .i64) (w0 := w) w.heap.size (by rfl) (.tmp 8) (.tmp 9) 22 3 (.int .i64 0) 8 rfl Try.underlying22 info3 rfl (by decide) (by omega) v569 y568 l0 _ _ _ (fun _ => True) (fun _ => False) rfl rfl ?aO ?aR (fun _ _ h => h) (fun _ h => h.elim) ?aF ?aB ?aS ?aL ?_
     (case aR => repeat (first | exact (Kd.C_below HR0.out HB.out) | (with_reducible refine Kd.C_alloc ?_ _) | (with_reducible refine Kd.C_drewN ?_ _) | (with_reducible refine Kd.C_drew ?_)))
     (case aB => exact TB)
     (case aF => exact (fun _ _ => trivial))
     (case aO => exact (RW HO570).out)
     (case aS => exact (below_size TB))
     (case aL => have := LMc4.out; omega)
     intro v572 w11 ho hb hg hat
     rw [← Ny571.out] at ho
     have n0_ := Aside0.mk (blk_grown (g := gb566) (o := .cells #[.slice none 0 0, .slice none 0 0] 40 (0, 0)) (KW BK566).out hg (Kd.R_ne HO570.out BK566.out (by decide)))
     have n1_ := Aside0.mk (hb)
     have n2_ := Aside0.mk (ho)
     clear BK566
     clear HB
     clear HO570
     have BK566 := n0_
     have HB := n1_
     have HO573 := n2_
     clear n0_ n1_ n2_
     clear ho hb hg hat
     refine hK.out _ _ trivial (fun hHeld => ?_)
     clear hK K
     refine nA ?_
     refine one_ (i := 5) (N := some 13) (mL 9 63) rfl rfl (one_of HT_.out KR) (by decide) (fun K hK => ?_)
     refine Kd.R_make_step (Kd.int .i64) _ 3 (by rfl) (N := 13) rfl 22 _ _ rfl (l0.length : Int) rfl rfl Try.underlying22 (.int .i64 0) 8 info3 rfl (by decide) (by omega) 0 (ok := fun _ => True) (okp := fun _ => True) rfl (fun _ hk => hk) trivial TD (Nat.le_trans (Nat.mul_le_mul_right _ (TD : (l0.length : Int).toNat ≤ 35184372088832)) (by omega)) (Below.refl _ _) (Nat.le_refl _) ?_
     intro v575 w12 ho13 hb hg_ hnew_
     clear hg_ hnew_
     (first | rw [← Ny574.out] at ho13 | (simp only [Int.reduceToNat] at ho13; rw [← Ny574.out] at ho13))
     have HO576 := RL (NW ho13 HO573)
     replace HO573 := EL HO573 ho13 hb
     replace BK566 := KB BK566 hb
     replace HB := BS hb
     clear hb ho13
     obtain ⟨Ao14, co14, eo14⟩ := Kd.R_slice HO576.out
     (first | subst eo14 | (injection eo14 with f1_ f2_ f3_; have f4_ := f1_.symm; have f5_ := f3_.symm; clear f1_ f2_ f3_; subst f4_; subst f5_))
     obtain ⟨Ao15, co15, eo15⟩ := Kd.R_slice HO573.out
     (first | subst eo15 | (injection eo15 with f1_ f2_ f3_; have f4_ := f1_.symm; have f5_ := f3_.symm; clear f1_ f2_ f3_; subst f4_; subst f5_))
     refine hK.out _ _ trivial (fun hHeld => ?_)
     clear hK K
     refine nA ?_
     exact norm_ (by simp only [putAll, Act.put, List.setIfInBounds_toArray, List.set_cons_zero, List.set_cons_succ]) (hCont (v569, .slice Ao15 y571.length co15, .slice Ao14 y574.length co14) _ ⟨(MO HO573).out, (MO HO576).out, (KW BK566).out, TB⟩)
    ·skip
     refine Kd.R_make_step (Kd.int .i64) _ 3 (by rfl) (N := 13) rfl 22 _ _ rfl (l0.length : Int) rfl rfl Try.underlying22 (.int .i64 0) 8 info3 rfl (by decide) (by omega) 0 (ok := fun _ => True) (okp := fun _ => True) rfl (fun _ hk => hk) trivial TD (Nat.le_trans (Nat.mul_le_mul_right _ (TD : (l0.length : Int).toNat ≤ 35184372088832)) (by omega)) (Below.refl _ _) (Nat.le_refl _) ?_
     intro v575 w11 ho12 hb hg_ hnew_
     clear hg_ hnew_
     (first | rw [← Ny574.out] at ho12 | (simp only [Int.reduceToNat] at ho12; rw [← Ny574.out] at ho12))
     have HO576 := RL (NW ho12 HO570)
     replace HO570 := EL HO570 ho12 hb
     replace BK566 := KB BK566 hb
     replace HB := BS hb
     clear hb ho12
     refine hK.out _ _ trivial (fun hHeld => ?_)
     clear hK K
     refine nA ?_
     refine one_ (i := 2) (N := some 10) (mL 9 63) rfl rfl (one_of HT_.out KR) (by decide) (fun K hK => ?_)
     refine Kd.R_append_rows_step (Kd.int .i64) (w0 := w) w.heap.size (by rfl) (.tmp 8) (.tmp 9) 22 3 (.int .i64 0) 8 rfl Try.underlying22 info3 rfl (by decide) (by omega) v569 y568 l0 _ _ _ (fun k_ => some k_ ≠ (v575 : Value).ownBlock) (fun _ => False) rfl rfl ?aO ?aR (fun _ _ h => h) (fun _ h => h.elim) ?aF ?aB ?aS ?aL ?_
     (case aR => repeat (first | exact (Kd.C_below HR0.out HB.out) | (with_reducible refine Kd.C_alloc ?_ _) | (with_reducible refine Kd.C_drewN ?_ _) | (with_reducible refine Kd.C_drew ?_)))
     (case aB => exact TB)
     (case aF => exact (fun k_ hk => Kd.fresh' (Kd.R_lt (RW HO576).out) k_ hk))
     (case aO => exact (MO HO570).out)
     (case aS => exact (below_size TB))
     (case aL => have := LMc4.out; omega)
     intro v572 w13 ho hb hg hat
     rw [← Ny571.out] at ho
     have n0_ := Aside0.mk (blk_grown (g := gb566) (o := .cells #[.slice none 0 0, .slice none 0 0] 40 (0, 0)) (KW BK566).out hg (Kd.R_ne HO570.out BK566.out (by decide)))
     have n1_ := Aside0.mk (Kd.R_after (ok := (fun _ => True)) (RW HO576).out hg hat)
     have n2_ := Aside0.mk (hb)
     have n3_ := Aside0.mk (ho)
     clear BK566
     clear HO576
     clear HB
     clear HO570
     have BK566 := n0_
     have HO576 := n1_
     have HB := n2_
     have HO573 := n3_
     clear n0_ n1_ n2_ n3_
     clear ho hb hg hat
     obtain ⟨Ao14, co14, eo14⟩ := Kd.R_slice HO576.out
     (first | subst eo14 | (injection eo14 with f1_ f2_ f3_; have f4_ := f1_.symm; have f5_ := f3_.symm; clear f1_ f2_ f3_; subst f4_; subst f5_))
     obtain ⟨Ao15, co15, eo15⟩ := Kd.R_slice HO573.out
     (first | subst eo15 | (injection eo15 with f1_ f2_ f3_; have f4_ := f1_.symm; have f5_ := f3_.symm; clear f1_ f2_ f3_; subst f4_; subst f5_))
     refine hK.out _ _ trivial (fun hHeld => ?_)
     clear hK K
     refine nA ?_
     exact norm_ (by simp only [putAll, Act.put, List.setIfInBounds_toArray, List.set_cons_zero, List.set_cons_succ]) (hCont (v569, .slice Ao15 y571.length co15, .slice Ao14 y574.length co14) _ ⟨(RW HO573).out, (MO HO576).out, (KW BK566).out, TB⟩)
   ·skip
    refine Kd.R_make_step (Kd.int .i64) _ 3 (by rfl) (N := 13) rfl 22 _ _ rfl (l0.length : Int) rfl rfl Try.underlying22 (.int .i64 0) 8 info3 rfl (by decide) (by omega) 0 (ok := fun _ => True) (okp := fun _ => True) rfl (fun _ hk => hk) trivial TD (Nat.le_trans (Nat.mul_le_mul_right _ (TD : (l0.length : Int).toNat ≤ 35184372088832)) (by omega)) (Below.refl _ _) (Nat.le_refl _) ?_
    intro v575 w9 ho10 hb hg_ hnew_
    clear hg_ hnew_
    (first | rw [← Ny574.out] at ho10 | (simp only [Int.reduceToNat] at ho10; rw [← Ny574.out] at ho10))
    have HO576 := RL ho10
    replace BK566 := KB BK566 hb
    replace HB := BS hb
    clear hb ho10
    refine hK.out _ _ trivial (fun hHeld => ?_)
    clear hK K
    refine nA ?_
    refine one_ (i := 0) (N := some 8) (mL 9 59) rfl rfl (one_of HT_.out KR) (by decide) (fun K hK => ?_)
    refine Kd.R_lit_step (Kd.int .i64) _ 3 ?hg (N := 8) ?hd (xs := ([] : List Int)) (inner := []) (ok := fun _ => True) (okp := fun _ => True) ?hr ?hp (fun _ hk => hk) trivial (Below.refl _ _) (Nat.le_refl _) (by simp) ?_; (case hd => rfl); (case hg => rfl); (case hr => first | (go_simp; done) | (go_simp; rfl)); (case hp => exact (Reps.none _ _))
    intro v569 w11 ho12 hb hg_ hnew_
    clear hg_ hnew_
    (first | rw [← Ny568.out] at ho12 | (simp only [Int.reduceToNat] at ho12; rw [← Ny568.out] at ho12))
    have HO570 := RL (NW ho12 HO576)
    replace HO576 := EL HO576 ho12 hb
    replace BK566 := KB BK566 hb
    replace HB := BS hb
    clear hb ho12
    refine hK.out _ _ trivial (fun hHeld => ?_)
    clear hK K
    refine nA ?_
    refine one_ (i := 2) (N := some 10) (mL 9 63) rfl rfl (one_of HT_.out KR) (by decide) (fun K hK => ?_)
    refine Kd.R_append_rows_step (Kd.int .i64) (w0 := w) w.heap.size (by rfl) (.tmp 8) (.tmp 9) 22 3 (.int .i64 0) 8 rfl Try.underlying22 info3 rfl (by decide) (by omega) v569 y568 l0 _ _ _ (fun k_ => some k_ ≠ (v575 : Value).ownBlock) (fun _ => False) rfl rfl ?aO ?aR (fun _ _ h => h) (fun _ h => h.elim) ?aF ?aB ?aS ?aL ?_
    (case aR => repeat (first | exact (Kd.C_below HR0.out HB.out) | (with_reducible refine Kd.C_alloc ?_ _) | (with_reducible refine Kd.C_drewN ?_ _) | (with_reducible refine Kd.C_drew ?_)))
    (case aB => exact TB)
    (case aF => exact (fun k_ hk => Kd.fresh' (Kd.R_lt (RW HO576).out) k_ hk))
    (case aO => exact (MO HO570).out)
    (case aS => exact (below_size TB))
    (case aL => have := LMc4.out; omega)
    intro v572 w13 ho hb hg hat
    rw [← Ny571.out] at ho
    have n0_ := Aside0.mk (blk_grown (g := gb566) (o := .cells #[.slice none 0 0, .slice none 0 0] 40 (0, 0)) (KW BK566).out hg (Kd.R_ne HO570.out BK566.out (by decide)))
    have n1_ := Aside0.mk (Kd.R_after (ok := (fun _ => True)) (RW HO576).out hg hat)
    have n2_ := Aside0.mk (hb)
    have n3_ := Aside0.mk (ho)
    clear BK566
    clear HO576
    clear HB
    clear HO570
    have BK566 := n0_
    have HO576 := n1_
    have HB := n2_
    have HO573 := n3_
    clear n0_ n1_ n2_ n3_
    clear ho hb hg hat
    obtain ⟨Ao14, co14, eo14⟩ := Kd.R_slice HO576.out
    (first | subst eo14 | (injection eo14 with f1_ f2_ f3_; have f4_ := f1_.symm; have f5_ := f3_.symm; clear f1_ f2_ f3_; subst f4_; subst f5_))
    obtain ⟨Ao15, co15, eo15⟩ := Kd.R_slice HO573.out
    (first | subst eo15 | (injection eo15 with f1_ f2_ f3_; have f4_ := f1_.symm; have f5_ := f3_.symm; clear f1_ f2_ f3_; subst f4_; subst f5_))
    refine hK.out _ _ trivial (fun hHeld => ?_)
    clear hK K
    refine nA ?_
    exact norm_ (by simp only [putAll, Act.put, List.setIfInBounds_toArray, List.set_cons_zero, List.set_cons_succ]) (hCont (v569, .slice Ao15 y571.length co15, .slice Ao14 y574.length co14) _ ⟨(RW HO573).out, (MO HO576).out, (KW BK566).out, TB⟩)
  rintro ⟨v569, v572, v575⟩ w16 ⟨h0_, h1_, h2_, h3_⟩
  have n0_ : Aside0 (Kd.R (Kd.int .i64) 3 w16 w.heap.size (fun k_ => some k_ ≠ (v575 : Value).ownBlock) v572 y571) := ⟨h0_⟩
  have n1_ : Aside0 (Kd.R (Kd.int .i64) 3 w16 w.heap.size (fun k_ => some k_ ≠ (v572 : Value).ownBlock) v575 y574) := ⟨h1_⟩
  have n2_ : Aside0 (w16.heap[gb566]? = some (.cells #[.slice none 0 0, .slice none 0 0] 40 (0, 0))) := ⟨h2_⟩
  have n3_ : Aside0 (Below w.heap.size w w16) := ⟨h3_⟩
  clear BK566
  clear HB
  clear h0_ h1_ h2_ h3_
  have HO573 := n0_
  have HO576 := n1_
  have BK566 := n2_
  have HB := n3_
  clear n0_ n1_ n2_ n3_
  have hHeld := trivial
  obtain ⟨Ao17, co17, eo17⟩ := Kd.R_slice HO576.out
  (first | subst eo17 | (injection eo17 with f1_ f2_ f3_; have f4_ := f1_.symm; have f5_ := f3_.symm; clear f1_ f2_ f3_; subst f4_; subst f5_))
  obtain ⟨Ao18, co18, eo18⟩ := Kd.R_slice HO573.out
  (first | subst eo18 | (injection eo18 with f1_ f2_ f3_; have f4_ := f1_.symm; have f5_ := f3_.symm; clear f1_ f2_ f3_; subst f4_; subst f5_))
  refine norm_ (a' := ?_) ?_ ?_
  rotate_left
  ·simp only [putAll, Act.put, List.setIfInBounds_toArray, List.set_cons_zero, List.set_cons_succ]
   rfl
  refine pA 6 14 (mL 9 127) HT_ rfl rfl ?_
  refine one_ (i := 7) (N := none) (mL 9 255) rfl rfl (one_of HT_.out KR) (by decide) (fun K hK => ?_)
  have hs19 := bc 0 BK566
  have hfs19 := blk_frozen BK566.out 0
  have hs20 := bc 1 BK566
  have hfs20 := blk_frozen BK566.out 1
  refine skip_ (w1 := ?_) (by rfl) rfl ?_ ?_
  rotate_left
  ·go_simp
   rfl
  refine hK.out _ _ trivial (fun hHeld => ?_)
  clear hK K
  refine pA 8 3 (mL 9 511) HT_ rfl rfl ?_
  refine done_ (done_of HT_.out KR) ?_
  try go_wp2
  refine bodyPost_ret (results_ct rfl _ _ gb566 40 #[.slice Ao18 y571.length co18, .slice Ao17 y574.length co17] (0, 0) _ rfl (by (with_reducible repeat (first | refine blk_drewN ?_ _ | refine blk_drew ?_ | refine blk_alloc ?_ _)); refine blk_put (cs := #[.slice Ao18 y571.length co18, .slice none 0 0]) ?_ 1 _ rfl; (with_reducible repeat (first | refine blk_drewN ?_ _ | refine blk_drew ?_ | refine blk_alloc ?_ _)); refine blk_put (cs := #[.slice none 0 0, .slice none 0 0]) ?_ 0 _ rfl; (with_reducible repeat (first | refine blk_drewN ?_ _ | refine blk_drew ?_ | refine blk_alloc ?_ _)); exact BK566.out) Try.underlying40 rfl KR) rfl ?_
  exact ⟨_, _, TE, by (with_reducible repeat (first | apply Kd.R_alloc | apply Kd.R_drewN | apply Kd.R_drew)); exact Kd.R_mono (Kd.R_far (p := ⟨gb566, 1, none⟩) (Kd.R_far (p := ⟨gb566, 0, none⟩) (Kd.R_types HO573.out BK566.out (by decide)) (fun _ hk => hk.2) (.slice Ao18 y571.length co18)) (fun _ hk => hk.2) (.slice Ao17 y574.length co17)) (fun _ hk => hk.1), by (with_reducible repeat (first | apply Kd.R_alloc | apply Kd.R_drewN | apply Kd.R_drew)); exact Kd.R_mono (Kd.R_far (p := ⟨gb566, 1, none⟩) (Kd.R_far (p := ⟨gb566, 0, none⟩) (Kd.R_types HO576.out BK566.out (by decide)) (fun _ hk => hk.2) (.slice Ao18 y571.length co18)) (fun _ hk => hk.2) (.slice Ao17 y574.length co17)) (fun _ hk => hk.1), TB⟩
 ·replace c3 := Bool.eq_false_iff.mpr c3
  subst c3
  replace H := iff' H
  simp only [Option.some.injEq, Prod.mk.injEq] at H
  obtain ⟨rfl, rfl, rfl⟩ := H
  go_enter Try.func31, Try.ntmps31
  go_wp2_with (first | ((with_reducible refine gate_dst (N := 2) rfl ?_); refine bE 2 #[.slice none 0 0, .slice none 0 0] 40 ?_; intro gb566 hg w21 hbox hb; have BK566 := Aside0.mk (hbox); have GE566 := bG hg; replace HB := BS hb; clear hb hbox hg) | ((with_reducible refine gate_callee (f := 15) rfl ?_); refine goesL_ (some 5) rfl rfl Try.func15 KR rfl #[.slice A0 l0.length c0] rfl TA ?_; (with_reducible refine (spec_GoodWeights.calls k _ _ l0 false _ ?side1 ?side2 A2.out).mono ?_); (case side1 => exact CW ((Kd.C_below HR0.out HB.out))); (case side2 => exact HC0.out); rintro e w' ⟨rfl, ⟨nd, rfl⟩⟩; refine ⟨_, rfl, ?_⟩; (try (rw [drewN_self w21]; generalize hq_ : World.drewN w21 _ = w21; have n0_ : Aside0 (w21.heap[gb566]? = some (.cells #[.slice none 0 0, .slice none 0 0] 40 (0, 0))) := ⟨by rw [← hq_]; exact (KW BK566).out⟩; have n1_ : Aside0 (Below w.heap.size w w21) := ⟨by rw [← hq_]; exact TB⟩; clear BK566 HB hq_; have BK566 := n0_; have HB := n1_; clear n0_ n1_)); have hcz22 := cz2 BK566))
  refine bodyPost_ret (results_ct rfl _ _ gb566 40 #[.slice none 0 0, .slice none 0 0] (0, 0) _ rfl (by (with_reducible repeat (first | refine blk_drewN ?_ _ | refine blk_drew ?_ | refine blk_alloc ?_ _)); refine blk_put (cs := #[.slice none 0 0, .slice none 0 0]) ?_ 1 _ rfl; (with_reducible repeat (first | refine blk_drewN ?_ _ | refine blk_drew ?_ | refine blk_alloc ?_ _)); refine blk_put (cs := #[.slice none 0 0, .slice none 0 0]) ?_ 0 _ rfl; (with_reducible repeat (first | refine blk_drewN ?_ _ | refine blk_drew ?_ | refine blk_alloc ?_ _)); exact BK566.out) Try.underlying40 rfl KR) rfl ?_
  exact ⟨_, _, TE, TZ, TZ, TB⟩
end
section
/-! ### slices_Clone_int_int: function 72 -/
def slices_Clone_int_int.f (l0 : List Int) : Option (List Int) := (some (([] : List Int) : List Int)).bind fun y577 => (if y577.length + l0.length < 17592186044416 then (some (y577 ++ l0)) else (none))
theorem slices_Clone_int_int.calls (A0 : Option Addr) (c0 : Nat) (l0 : List Int) (r : List Int) (w : World) (hr0 : Kd.C (Kd.int .i64) w A0 l0.length l0) (hc0 : l0.length ≤ c0) (h : slices_Clone_int_int.f l0 = some r) :
  Calls Try.prog 72 #[.slice A0 l0.length c0] w fun e w' => ∃ v0_ : Value, e = .returned (v0_) ∧ Kd.R (Kd.int .i64) 3 w' w.heap.size (fun _ => True) v0_ r ∧ Below w.heap.size w w' := by
 have HR0 := Aside0.mk hr0
 have HC0 := Aside0.mk hc0
 clear hr0 hc0
 have HB := Aside0.mk (Below.refl w.heap.size w)
 have H : ((some (([] : List Int) : List Int)).bind fun y577 => (if y577.length + l0.length < 17592186044416 then (some (y577 ++ l0)) else (none))) = some r := h
 clear h
 cases A0 with
 | none =>
  have hz_ : l0 = [] := Kd.C_none_nil HR0.out
  subst hz_
  have hnq_ : ∀ W, (Go.binOp .eql 22 (.slice none 0 c0) (.slice none 0 0)).run Try.prog W = .ok (.bool true) W := fun W => Go.Lib.run_eql_slice_nil W 22 3 none 0 c0 0 0 Try.underlying22
  replace H : (some ([] : List Int)) = some r := by simpa using H
  obtain rfl := Option.some.inj H
  go_enter Try.func72, Try.ntmps72
  go_wp2
  go_ret
  exact ⟨_, TE, TZ, TB⟩
 | some adq_ =>
  have hnq_ : ∀ W, (Go.binOp .eql 22 (.slice (some adq_) l0.length c0) (.slice none 0 0)).run Try.prog W = .ok (.bool false) W := fun W => Go.Lib.run_eql_slice_nil W 22 3 (some adq_) l0.length c0 0 0 Try.underlying22
  obtain ⟨y577, hy577⟩ : ∃ y_ : List Int, y_ = (([] : List Int)) := ⟨_, rfl⟩
  replace H : (if y577.length + l0.length < 17592186044416 then (some (y577 ++ l0)) else (none)) = some r := by first | (rw [hy577]; with_reducible exact H) | (have H2_ := (Option.bind_some _ _).symm.trans H; rw [hy577]; with_reducible exact H2_) | (have H2_ := (Option.bind_some _ _).symm.trans H; with_reducible exact H2_) | with_reducible exact H | (rw [hy577]; exact H) | exact H
  have Ny577 := Aside0.mk hy577
  clear hy577
  obtain ⟨c2, H⟩ := ifn H
  have LMc2 := Aside0.mk c2
  clear c2
  obtain ⟨y580, hy580⟩ : ∃ y_ : List Int, y_ = (y577 ++ l0) := ⟨_, rfl⟩
  replace H : (some y580) = some r := by first | (rw [hy580]; with_reducible exact H) | (have H2_ := (Option.bind_some _ _).symm.trans H; rw [hy580]; with_reducible exact H2_) | (have H2_ := (Option.bind_some _ _).symm.trans H; with_reducible exact H2_) | with_reducible exact H | (rw [hy580]; exact H) | exact H
  have Ny580 := Aside0.mk hy580
  clear hy580
  obtain rfl := Option.some.inj H
  go_enter Try.func72, Try.ntmps72
  go_wp2_with (first | ((with_reducible refine gate_dst (N := 5) rfl ?_); refine Kd.R_lit (Kd.int .i64) _ 3 ?hg (N := 5) ?hd (xs := ([] : List Int)) (inner := []) (ok := fun _ => True) (okp := fun _ => True) ?hr ?hp (fun _ hk => hk) trivial (Below.refl _ _) (Nat.le_refl _) (by simp) ?_; (case hd => rfl); (case hg => rfl); (case hr => first | (go_simp; done) | (go_simp; rfl)); (case hp => exact (Reps.none _ _)); intro v578 w3 ho4 hb hg_ hnew_; clear hg_ hnew_; (first | rw [← Ny577.out] at ho4 | (simp only [Int.reduceToNat] at ho4; rw [← Ny577.out] at ho4)); have HO579 := RL ho4; replace HB := BS hb; clear hb ho4) | ((with_reducible refine gate_builtin (b := .append) (xs := #[.tmp 5, .tmp 6]) rfl ?_); at_builtin; refine Kd.R_append_rows (Kd.int .i64) (w0 := w) w.heap.size rfl (.tmp 5) (.tmp 6) 22 3 (.int .i64 0) 8 rfl Try.underlying22 info3 rfl (by decide) (by omega) v578 y577 l0 _ _ _ (fun _ => True) (fun _ => False) rfl rfl ?aO ?aR (fun _ _ h => h) (fun _ h => h.elim) ?aF ?aB ?aS ?aL ?_; (case aR => repeat (first | exact (Kd.C_below HR0.out HB.out) | (with_reducible refine Kd.C_alloc ?_ _) | (with_reducible refine Kd.C_drewN ?_ _) | (with_reducible refine Kd.C_drew ?_))); (case aB => exact TB); (case aF => exact (fun _ _ => trivial)); (case aO => exact (RW HO579).out); (case aS => exact (below_size TB)); (case aL => have := LMc2.out; omega); intro v581 w5 ho hb hg hat; rw [← Ny580.out] at ho; have n0_ := Aside0.mk (hb); have n1_ := Aside0.mk (ho); clear HB; clear HO579; have HB := n0_; have HO582 := n1_; clear n0_ n1_; clear ho hb hg hat))
  go_ret
  exact ⟨_, TE, (RW HO582).out, TB⟩
end
section
/-! ### impl_NewTurn: function 32 -/
def impl_NewTurn.f (k : Nat) (l0 : List Int) : Option (List Int × List Int × Bool) := (impl_GoodWeights.f k l0).bind fun t584 => (if t584 = true then ((slices_Clone_int_int.f l0).bind fun t585 => (if 0 ≤ (l0.length : Int) then (if ((l0.length : Int) : Int).toNat ≤ 35184372088832 then (some (t585, (List.replicate ((l0.length : Int) : Int).toNat 0), true)) else (none)) else (none))) else (some (([] : List Int), ([] : List Int), false)))
def impl_NewTurn.T3 : Bool × List (List Nat × List Nat) := (true, [([], []), ([0], [0]), ([], []), ([2], [2]), ([3, 3], [3]), ([1, 4], [1, 4]), ([5, 1, 0, 1, 2, 3, 4, 5], [5]), ([6, 0, 1, 2, 3, 4, 5, 6], [])])
def impl_NewTurn.B3 : List Nat := [0, 1, 0, 4, 12, 31, 63, 127]
theorem impl_NewTurn.tab3 : rtab .any (opsOf Try.f32 3) = impl_NewTurn.T3 := by kernel_rfl
theorem impl_NewTurn.bits3 : waitsOk impl_NewTurn.T3.2 impl_NewTurn.B3 = true := by kernel_rfl
theorem impl_NewTurn.calls (k : Nat) (A0 : Option Addr) (c0 : Nat) (l0 : List Int) (r1 : List Int) (r2 : List Int) (r3 : Bool) (w : World) (hr0 : Kd.C (Kd.int .i64) w A0 l0.length l0) (hc0 : l0.length ≤ c0) (h : impl_NewTurn.f k l0 = some (r1, r2, r3)) :
  Calls Try.prog 32 #[.slice A0 l0.length c0] w fun e w' => ∃ v0_ v1_ : Value, e = .returned (.tuple #[.agg #[v0_, v1_], .bool r3]) ∧ Kd.R (Kd.int .i64) 3 w' w.heap.size (fun k_ => some k_ ≠ (v1_ : Value).ownBlock) v0_ r1 ∧ Kd.R (Kd.int .i64) 3 w' w.heap.size (fun k_ => some k_ ≠ (v0_ : Value).ownBlock) v1_ r2 ∧ Below w.heap.size w w' := by
 have hu40 := Try.underlying40
 have HR0 := Aside0.mk hr0
 have HC0 := Aside0.mk hc0
 clear hr0 hc0
 have HB := Aside0.mk (Below.refl w.heap.size w)
 have H : ((impl_GoodWeights.f k l0).bind fun t584 => (if t584 = true then ((slices_Clone_int_int.f l0).bind fun t585 => (if 0 ≤ (l0.length : Int) then (if ((l0.length : Int) : Int).toNat ≤ 35184372088832 then (some (t585, (List.replicate ((l0.length : Int) : Int).toNat 0), true)) else (none)) else (none))) else (some (([] : List Int), ([] : List Int), false)))) = some (r1, r2, r3) := h
 clear h
 obtain ⟨t584, A2, H⟩ := bnd H
 by_cases c3 : t584 = true
 ·subst c3
  replace H := ift H
  obtain ⟨t585, A4, H⟩ := bnd H
  obtain ⟨c5, H⟩ := ifn H
  have c5b0 := eq_true c5
  have c5b1 : decide (0 ≤ (l0.length : Int)) = true := decide_eq_true c5
  clear c5
  obtain ⟨c6, H⟩ := ifn H
  have c6b0 := eq_true c6
  have c6b1 : decide (((l0.length : Int) : Int).toNat ≤ 35184372088832) = true := decide_eq_true c6
  clear c6
  obtain ⟨y588, hy588⟩ : ∃ y_ : List Int, y_ = (List.replicate ((l0.length : Int) : Int).toNat 0) := ⟨_, rfl⟩
  replace H : (some (t585, y588, true)) = some (r1, r2, r3) := by first | (rw [hy588]; with_reducible exact H) | (have H2_ := (Option.bind_some _ _).symm.trans H; rw [hy588]; with_reducible exact H2_) | (have H2_ := (Option.bind_some _ _).symm.trans H; with_reducible exact H2_) | with_reducible exact H | (rw [hy588]; exact H) | exact H
  have Ny588 := Aside0.mk hy588
  clear hy588
  simp only [Option.some.injEq, Prod.mk.injEq] at H
  obtain ⟨rfl, rfl, rfl⟩ := H
  go_enter Try.func32, Try.ntmps32
  try go_wp2_with (first | ((with_reducible refine gate_dst (N := 2) rfl ?_); refine bE 2 #[.slice none 0 0, .slice none 0 0] 40 ?_; intro gb583 hg w7 hbox hb; have BK583 := Aside0.mk (hbox); have GE583 := bG hg; replace HB := BS hb; clear hb hbox hg) | ((with_reducible refine gate_callee (f := 17) rfl ?_); refine goesL_ (some 5) rfl rfl Try.func17 KR rfl #[.slice A0 l0.length c0] rfl TA ?_; (with_reducible refine (impl_GoodWeights.calls k _ _ l0 true _ ?side1 ?side2 A2.out).mono ?_); (case side1 => exact CW ((Kd.C_below HR0.out HB.out))); (case side2 => exact HC0.out); rintro e w' ⟨rfl, ⟨nd, rfl⟩⟩; refine ⟨_, rfl, ?_⟩; (try (rw [drewN_self w7]; generalize hq_ : World.drewN w7 _ = w7; have n0_ : Aside0 (w7.heap[gb583]? = some (.cells #[.slice none 0 0, .slice none 0 0] 40 (0, 0))) := ⟨by rw [← hq_]; exact (KW BK583).out⟩; have n1_ : Aside0 (Below w.heap.size w w7) := ⟨by rw [← hq_]; exact TB⟩; clear BK583 HB hq_; have BK583 := n0_; have HB := n1_; clear n0_ n1_))))
  replace BK583 := Aside0.mk (blk_drew BK583.out)
  replace HB := Aside0.mk (below_drew1 HB.out)
  refine start_ (n := 8) (S := fun w' => True) (ds := []) #[false, false, false, false, false, false, false, false] KR rfl rfl trivial (fun hHeld => ?_); refine with_tabW impl_NewTurn.tab3 impl_NewTurn.bits3 (fun HT_ HW_ => ?_)
  generalize w7.drew = w8 at BK583 HB hHeld ⊢
  refine pA 0 8 (mL 8 1) HT_ rfl rfl ?_
  refine pA 2 10 (mL 8 5) HT_ rfl rfl ?_
  refine pA 3 11 (mL 8 13) HT_ rfl rfl ?_
  refine join_ (σ := Value × Value) 3 #[true, true, true, true, true, false, false, false] (fun s_ => [(9, s_.1), (12, s_.2)]) (fun s_ w' => (Kd.R (Kd.int .i64) 3 w' w.heap.size (fun k_ => some k_ ≠ (s_.2 : Value).ownBlock) s_.1 t585) ∧ (Kd.R (Kd.int .i64) 3 w' w.heap.size (fun k_ => some k_ ≠ (s_.1 : Value).ownBlock) s_.2 y588) ∧ (w'.heap[gb583]? = some (.cells #[.slice none 0 0, .slice none 0 0] 40 (0, 0))) ∧ (Below w.heap.size w w')) ?_ ?_
  rotate_left
  ·intro hCont
   refine two_ (i := 1) (j := 4) (Ni := some 9) (Nj := some 12) #[true, true, true, true, false, false, false, false] #[true, false, true, true, true, false, false, false] rfl rfl rfl rfl (two_of HT_.out KR) (by decide) (by decide) (fun K hK => ?_) (fun K hK => ?_)
   ·skip
    refine goes_ Try.func72 KR rfl #[.slice A0 l0.length c0] (by rfl) rfl rfl TA ?_
    with_reducible refine (slices_Clone_int_int.calls _ _ l0 t585 _ ?side1 ?side2 A4.out).mono ?_
    (case side1 => exact CW ((Kd.C_below HR0.out HB.out)))
    (case side2 => exact HC0.out)
    rintro e w9 ⟨v586, rfl, ho0, hb⟩
    refine ⟨_, rfl, ?_⟩
    have HO587 := RL ho0
    replace BK583 := KB BK583 hb
    replace HB := BS hb
    (try clear hb)
    (try clear hb2)
    (try clear hk)
    (try clear hi)
    (try clear ho0)
    refine hK.out _ _ trivial (fun hHeld => ?_)
    clear hK K
    refine nA ?_
    refine one_ (i := 4) (N := some 12) (mL 8 31) rfl rfl (one_of HT_.out KR) (by decide) (fun K hK => ?_)
    refine Kd.R_make_step (Kd.int .i64) _ 3 (by rfl) (N := 12) rfl 22 _ _ rfl (l0.length : Int) rfl rfl Try.underlying22 (.int .i64 0) 8 info3 rfl (by decide) (by omega) 0 (ok := fun _ => True) (okp := fun _ => True) rfl (fun _ hk => hk) trivial TD (Nat.le_trans (Nat.mul_le_mul_right _ (TD : (l0.length : Int).toNat ≤ 35184372088832)) (by omega)) (Below.refl _ _) (Nat.le_refl _) ?_
    intro v589 w10 ho11 hb hg_ hnew_
    clear hg_ hnew_
    (first | rw [← Ny588.out] at ho11 | (simp only [Int.reduceToNat] at ho11; rw [← Ny588.out] at ho11))
    have HO590 := RL (NW ho11 HO587)
    replace HO587 := EL HO587 ho11 hb
    replace BK583 := KB BK583 hb
    replace HB := BS hb
    clear hb ho11
    obtain ⟨Ao12, co12, eo12⟩ := Kd.R_slice HO590.out
    (first | subst eo12 | (injection eo12 with f1_ f2_ f3_; have f4_ := f1_.symm; have f5_ := f3_.symm; clear f1_ f2_ f3_; subst f4_; subst f5_))
    obtain ⟨Ao13, co13, eo13⟩ := Kd.R_slice HO587.out
    (first | subst eo13 | (injection eo13 with f1_ f2_ f3_; have f4_ := f1_.symm; have f5_ := f3_.symm; clear f1_ f2_ f3_; subst f4_; subst f5_))
    refine hK.out _ _ trivial (fun hHeld => ?_)
    clear hK K
    refine nA ?_
    exact norm_ (by simp only [putAll, Act.put, List.setIfInBounds_toArray, List.set_cons_zero, List.set_cons_succ]) (hCont (.slice Ao13 t585.length co13, .slice Ao12 y588.length co12) _ ⟨(MO HO587).out, (MO HO590).out, (KW BK583).out, TB⟩)
   ·skip
    refine Kd.R_make_step (Kd.int .i64) _ 3 (by rfl) (N := 12) rfl 22 _ _ rfl (l0.length : Int) rfl rfl Try.underlying22 (.int .i64 0) 8 info3 rfl (by decide) (by omega) 0 (ok := fun _ => True) (okp := fun _ => True) rfl (fun _ hk => hk) trivial TD (Nat.le_trans (Nat.mul_le_mul_right _ (TD : (l0.length : Int).toNat ≤ 35184372088832)) (by omega)) (Below.refl _ _) (Nat.le_refl _) ?_
    intro v589 w9 ho10 hb hg_ hnew_
    clear hg_ hnew_
    (first | rw [← Ny588.out] at ho10 | (simp only [Int.reduceToNat] at ho10; rw [← Ny588.out] at ho10))
    have HO590 := RL ho10
    replace BK583 := KB BK583 hb
    replace HB := BS hb
    clear hb ho10
    refine hK.out _ _ trivial (fun hHeld => ?_)
    clear hK K
    refine nA ?_
    refine one_ (i := 1) (N := some 9) (mL 8 31) rfl rfl (one_of HT_.out KR) (by decide) (fun K hK => ?_)
    refine goes_ Try.func72 KR rfl #[.slice A0 l0.length c0] (by rfl) rfl rfl TA ?_
    with_reducible refine (slices_Clone_int_int.calls _ _ l0 t585 _ ?side1 ?side2 A4.out).mono ?_
    (case side1 => exact CW ((Kd.C_below HR0.out HB.out)))
    (case side2 => exact HC0.out)
    rintro e w11 ⟨v586, rfl, ho0, hb⟩
    refine ⟨_, rfl, ?_⟩
    have HO587 := RL (NW ho0 HO590)
    replace HO590 := EL HO590 ho0 hb
    replace BK583 := KB BK583 hb
    replace HB := BS hb
    (try clear hb)
    (try clear hb2)
    (try clear hk)
    (try clear hi)
    (try clear ho0)
    obtain ⟨Ao12, co12, eo12⟩ := Kd.R_slice HO590.out
    (first | subst eo12 | (injection eo12 with f1_ f2_ f3_; have f4_ := f1_.symm; have f5_ := f3_.symm; clear f1_ f2_ f3_; subst f4_; subst f5_))
    obtain ⟨Ao13, co13, eo13⟩ := Kd.R_slice HO587.out
    (first | subst eo13 | (injection eo13 with f1_ f2_ f3_; have f4_ := f1_.symm; have f5_ := f3_.symm; clear f1_ f2_ f3_; subst f4_; subst f5_))
    refine hK.out _ _ trivial (fun hHeld => ?_)
    clear hK K
    refine nA ?_
    exact norm_ (by simp only [putAll, Act.put, List.setIfInBounds_toArray, List.set_cons_zero, List.set_cons_succ]) (hCont (.slice Ao13 t585.length co13, .slice Ao12 y588.length co12) _ ⟨(MO HO587).out, (MO HO590).out, (KW BK583).out, TB⟩)
  rintro ⟨v586, v589⟩ w14 ⟨h0_, h1_, h2_, h3_⟩
  have n0_ : Aside0 (Kd.R (Kd.int .i64) 3 w14 w.heap.size (fun k_ => some k_ ≠ (v589 : Value).ownBlock) v586 t585) := ⟨h0_⟩
  have n1_ : Aside0 (Kd.R (Kd.int .i64) 3 w14 w.heap.size (fun k_ => some k_ ≠ (v586 : Value).ownBlock) v589 y588) := ⟨h1_⟩
  have n2_ : Aside0 (w14.heap[gb583]? = some (.cells #[.slice none 0 0, .slice none 0 0] 40 (0, 0))) := ⟨h2_⟩
  have n3_ : Aside0 (Below w.heap.size w w14) := ⟨h3_⟩
  clear BK583
  clear HB
  clear h0_ h1_ h2_ h3_
  have HO587 := n0_
  have HO590 := n1_
  have BK583 := n2_
  have HB := n3_
  clear n0_ n1_ n2_ n3_
  have hHeld := trivial
  obtain ⟨Ao15, co15, eo15⟩ := Kd.R_slice HO590.out
  (first | subst eo15 | (injection eo15 with f1_ f2_ f3_; have f4_ := f1_.symm; have f5_ := f3_.symm; clear f1_ f2_ f3_; subst f4_; subst f5_))
  obtain ⟨Ao16, co16, eo16⟩ := Kd.R_slice HO587.out
  (first | subst eo16 | (injection eo16 with f1_ f2_ f3_; have f4_ := f1_.symm; have f5_ := f3_.symm; clear f1_ f2_ f3_; subst f4_; subst f5_))
  refine norm_ (a' := ?_) ?_ ?_
  rotate_left
  ·simp only [putAll, Act.put, List.setIfInBounds_toArray, List.set_cons_zero, List.set_cons_succ]
   rfl
  refine pA 5 13 (mL 8 63) HT_ rfl rfl ?_
  refine one_ (i := 6) (N := none) (mL 8 127) rfl rfl (one_of HT_.out KR) (by decide) (fun K hK => ?_)
  have hs17 := bc 0 BK583
  have hfs17 := blk_frozen BK583.out 0
  have hs18 := bc 1 BK583
  have hfs18 := blk_frozen BK583.out 1
  refine skip_ (w1 := ?_) (by rfl) rfl ?_ ?_
  rotate_left
  ·go_simp
   rfl
  refine hK.out _ _ trivial (fun hHeld => ?_)
  clear hK K
  refine pA 7 3 (mL 8 255) HT_ rfl rfl ?_
  refine done_ (done_of HT_.out KR) ?_
  try go_wp2
  refine bodyPost_ret (results_ct rfl _ _ gb583 40 #[.slice Ao16 t585.length co16, .slice Ao15 y588.length co15] (0, 0) _ rfl (by (with_reducible repeat (first | refine blk_drewN ?_ _ | refine blk_drew ?_ | refine blk_alloc ?_ _)); refine blk_put (cs := #[.slice Ao16 t585.length co16, .slice none 0 0]) ?_ 1 _ rfl; (with_reducible repeat (first | refine blk_drewN ?_ _ | refine blk_drew ?_ | refine blk_alloc ?_ _)); refine blk_put (cs := #[.slice none 0 0, .slice none 0 0]) ?_ 0 _ rfl; (with_reducible repeat (first | refine blk_drewN ?_ _ | refine blk_drew ?_ | refine blk_alloc ?_ _)); exact BK583.out) Try.underlying40 rfl KR) rfl ?_
  exact ⟨_, _, TE, by (with_reducible repeat (first | apply Kd.R_alloc | apply Kd.R_drewN | apply Kd.R_drew)); exact Kd.R_mono (Kd.R_far (p := ⟨gb583, 1, none⟩) (Kd.R_far (p := ⟨gb583, 0, none⟩) (Kd.R_types HO587.out BK583.out (by decide)) (fun _ hk => hk.2) (.slice Ao16 t585.length co16)) (fun _ hk => hk.2) (.slice Ao15 y588.length co15)) (fun _ hk => hk.1), by (with_reducible repeat (first | apply Kd.R_alloc | apply Kd.R_drewN | apply Kd.R_drew)); exact Kd.R_mono (Kd.R_far (p := ⟨gb583, 1, none⟩) (Kd.R_far (p := ⟨gb583, 0, none⟩) (Kd.R_types HO590.out BK583.out (by decide)) (fun _ hk => hk.2) (.slice Ao16 t585.length co16)) (fun _ hk => hk.2) (.slice Ao15 y588.length co15)) (fun _ hk => hk.1), TB⟩
 ·replace c3 := Bool.eq_false_iff.mpr c3
  subst c3
  replace H := iff' H
  simp only [Option.some.injEq, Prod.mk.injEq] at H
  obtain ⟨rfl, rfl, rfl⟩ := H
  go_enter Try.func32, Try.ntmps32
  go_wp2_with (first | ((with_reducible refine gate_dst (N := 2) rfl ?_); refine bE 2 #[.slice none 0 0, .slice none 0 0] 40 ?_; intro gb583 hg w19 hbox hb; have BK583 := Aside0.mk (hbox); have GE583 := bG hg; replace HB := BS hb; clear hb hbox hg) | ((with_reducible refine gate_callee (f := 17) rfl ?_); refine goesL_ (some 5) rfl rfl Try.func17 KR rfl #[.slice A0 l0.length c0] rfl TA ?_; (with_reducible refine (impl_GoodWeights.calls k _ _ l0 false _ ?side1 ?side2 A2.out).mono ?_); (case side1 => exact CW ((Kd.C_below HR0.out HB.out))); (case side2 => exact HC0.out); rintro e w' ⟨rfl, ⟨nd, rfl⟩⟩; refine ⟨_, rfl, ?_⟩; (try (rw [drewN_self w19]; generalize hq_ : World.drewN w19 _ = w19; have n0_ : Aside0 (w19.heap[gb583]? = some (.cells #[.slice none 0 0, .slice none 0 0] 40 (0, 0))) := ⟨by rw [← hq_]; exact (KW BK583).out⟩; have n1_ : Aside0 (Below w.heap.size w w19) := ⟨by rw [← hq_]; exact TB⟩; clear BK583 HB hq_; have BK583 := n0_; have HB := n1_; clear n0_ n1_)); have hcz20 := cz2 BK583))
  refine bodyPost_ret (results_ct rfl _ _ gb583 40 #[.slice none 0 0, .slice none 0 0] (0, 0) _ rfl (by (with_reducible repeat (first | refine blk_drewN ?_ _ | refine blk_drew ?_ | refine blk_alloc ?_ _)); refine blk_put (cs := #[.slice none 0 0, .slice none 0 0]) ?_ 1 _ rfl; (with_reducible repeat (first | refine blk_drewN ?_ _ | refine blk_drew ?_ | refine blk_alloc ?_ _)); refine blk_put (cs := #[.slice none 0 0, .slice none 0 0]) ?_ 0 _ rfl; (with_reducible repeat (first | refine blk_drewN ?_ _ | refine blk_drew ?_ | refine blk_alloc ?_ _)); exact BK583.out) Try.underlying40 rfl KR) rfl ?_
  exact ⟨_, _, TE, TZ, TZ, TB⟩
end
section
/-! ### spec_l12Total: function 74 -/
def spec_l12Total.l0 : Nat → Int → List Int → Int → Int → Option (Int)
 | 0, _, _, _, _ => none
 | k + 1, x3, x6, x7, x8 => if x8 < x7 then (if 0 ≤ x8 then (if x8 < (x6.length : Int) then (spec_l12Total.l0 k (wrap64 (x3 + (rd x6 x8))) x6 x7 (wrap64 (x8 + 1))) else (none)) else (none)) else (some x3)
def spec_l12Total.f (k : Nat) (l0 : List Int) : Option (Int) := spec_l12Total.l0 k 0 l0 (l0.length : Int) 0
theorem spec_l12Total.calls (k : Nat) (A0 : Option Addr) (c0 : Nat) (l0 : List Int) (r : Int) (w : World) (hr0 : Kd.C (Kd.int .i64) w A0 l0.length l0) (hc0 : l0.length ≤ c0) (h : spec_l12Total.f k l0 = some r) :
  Calls Try.prog 74 #[.slice A0 l0.length c0] w fun e w' => e = .returned (.int .i64 r) ∧ Drawn0 w w' := by
 have HR0 := Aside0.mk hr0
 have HC0 := Aside0.mk hc0
 clear hr0 hc0
 have H : (spec_l12Total.l0 k 0 l0 (l0.length : Int) 0) = some r := h
 clear h
 have H' := Aside0.mk H
 clear H
 go_enter Try.func74, Try.ntmps74
 go_wp2
 go_loopg [3, 8] k (fun kq v3 v8 w' => ∃ (x3_1 : Int) (x8_1 : Int), v3 = .int .i64 x3_1 ∧ v8 = .int .i64 x8_1 ∧ Aside0 (spec_l12Total.l0 kq x3_1 l0 (l0.length : Int) x8_1 = some r) ∧ Aside0 (kq ≤ k) ∧ Drawn0 w w')
 case atStart => exact ⟨(0), (0), TF, TF, H', ⟨Nat.le_refl _⟩, TN⟩
 case round =>
  clear H'
  obtain ⟨x3_1, x8_1, rfl, rfl, HA, HK1, ⟨m1, rfl⟩⟩ := hrel
  cases gk with
  | zero => exact absurd HA.out (by simp [spec_l12Total.l0])
  | succ k1 =>
   have H := HA.out
   clear HA
   simp only [spec_l12Total.l0] at H
   by_cases c2 : x8_1 < (l0.length : Int)
   ·rw [if_pos c2] at H
    have c2b0 : decide (x8_1 < (l0.length : Int)) = true := decide_eq_true c2
    clear c2
    obtain ⟨c3, H⟩ := ifn H
    have c3b0 : decide (0 ≤ x8_1) = true := decide_eq_true c3
    clear c3
    obtain ⟨c4, H⟩ := ifn H
    have c4b0 : decide (x8_1 < (l0.length : Int)) = true := decide_eq_true c4
    clear c4
    have H' := Aside0.mk H
    clear H
    have p203 : 0 ≤ (x8_1 : Int) := TD
    have q203 : x8_1 < (l0.length : Int) := TD
    obtain ⟨ad203, e203, hx203_0⟩ := Kd.at_int HR0.out x8_1 p203 q203
    cases e203
    replace p203 := eq_true p203
    replace q203 := eq_true q203
    go_wp2
    go_roundg k1
    case measure => have := HK1.out; omega
    case rel => exact ⟨(wrap64 (x3_1 + (rd l0 x8_1))), (wrap64 (x8_1 + 1)), TF, TF, H', ⟨TM⟩, TN⟩
   ·rw [if_neg c2] at H
    have c2b0 : decide (x8_1 < (l0.length : Int)) = false := decide_eq_false c2
    clear c2
    obtain rfl := Option.some.inj H
    go_wp2
    go_ret
    exact ⟨TF, TN⟩
end
section
/-! ### spec_l12Next: function 73 -/
def spec_l12Next.l0 : Nat → Int → List Int → Int → Int → List Int → List Int → List Int → List Int → Option (List Int × List Int × Int)
 | 0, _, _, _, _, _, _, _, _ => none
 | k + 1, x5, x14, x15, x16, x648000, x648001, x656000, x656001 => if x16 < x15 then (if 0 ≤ x16 then (if x16 < (x14.length : Int) then (if x16 < (x648000.length : Int) then (if x656001.length < 17592186044416 then ((some (x656001 ++ [wrap64 ((rd x14 x16) + (rd x648000 x16))] : List Int)).bind fun y658 => (if x16 < (y658.length : Int) then (if 0 ≤ x5 then (if x5 < (y658.length : Int) then (if (rd y658 x16) > (rd y658 x5) then (spec_l12Next.l0 k x16 x14 x15 (wrap64 (x16 + 1)) x648000 x648001 x656000 y658) else (spec_l12Next.l0 k x5 x14 x15 (wrap64 (x16 + 1)) x648000 x648001 x656000 y658)) else (none)) else (none)) else (none))) else (none)) else (none)) else (none)) else (none)) else (if 0 ≤ x5 then (if x5 < (x656001.length : Int) then ((spec_l12Total.f k x648000).bind fun t664 => (some (x656000, (x656001.set (x5 : Int).toNat (wrap64 ((rd x656001 x5) - t664))), x5))) else (none)) else (none))
def spec_l12Next.f (k : Nat) (l0_0 : List Int) (l0_1 : List Int) : Option (List Int × List Int × Int) := (some (([] : List Int) : List Int)).bind fun y649 => (if y649.length + l0_0.length < 17592186044416 then (spec_l12Next.l0 k 0 l0_1 (l0_1.length : Int) 0 l0_0 l0_1 (y649 ++ l0_0) ([] : List Int)) else (none))
def spec_l12Next.T6 : Bool × List (List Nat × List Nat) := (true, [([], []), ([0], [0]), ([], []), ([], []), ([3], [3]), ([], []), ([4, 5], [4, 5]), ([6], [6]), ([2, 7], [2, 7]), ([8], [8]), ([1, 9], [1, 9]), ([0, 1, 2, 3, 4, 5, 6, 7, 8, 9, 10], []), ([11, 10, 10, 0, 1, 2, 3, 4, 5, 6, 7, 8, 9, 10], [10, 11])])
def spec_l12Next.B6 : List Nat := [0, 1, 0, 0, 8, 0, 56, 120, 252, 508, 1023, 2047, 4095]
theorem spec_l12Next.tab6 : rtab .any (opsOf Try.f73 6) = spec_l12Next.T6 := by kernel_rfl
theorem spec_l12Next.bits6 : waitsOk spec_l12Next.T6.2 spec_l12Next.B6 = true := by kernel_rfl
def spec_l12Next.T7 : Bool × List (List Nat × List Nat) := (true, [([], []), ([0], [0]), ([], []), ([1, 2], [1, 2]), ([3], [3]), ([], []), ([5], [5]), ([], []), ([6, 7], [6, 7]), ([8], [8]), ([4, 9], [4, 9])])
def spec_l12Next.B7 : List Nat := [0, 1, 0, 7, 15, 0, 32, 0, 224, 480, 1023]
theorem spec_l12Next.tab7 : rtab .any (opsOf Try.f73 7) = spec_l12Next.T7 := by kernel_rfl
theorem spec_l12Next.bits7 : waitsOk spec_l12Next.T7.2 spec_l12Next.B7 = true := by kernel_rfl
def spec_l12Next.T10 : Bool × List (List Nat × List Nat) := (true, [([], []), ([0], [0]), ([], []), ([1, 2], [1, 2]), ([3], [3]), ([], []), ([5], [5]), ([6], [6]), ([4, 7], [4, 7]), ([1, 2, 0, 1, 2, 3, 4, 5, 6, 7, 8], [1, 2]), ([9, 8, 7, 0, 1, 2, 3, 4, 5, 6, 7, 8], [8, 9])])
def spec_l12Next.B10 : List Nat := [0, 1, 0, 7, 15, 0, 32, 96, 255, 511, 1023]
theorem spec_l12Next.tab10 : rtab .any (opsOf Try.f73 10) = spec_l12Next.T10 := by kernel_rfl
theorem spec_l12Next.bits10 : waitsOk spec_l12Next.T10.2 spec_l12Next.B10 = true := by kernel_rfl
theorem spec_l12Next.calls (k : Nat) (A0_0 : Option Addr) (c0_0 : Nat) (l0_0 : List Int) (A0_1 : Option Addr) (c0_1 : Nat) (l0_1 : List Int) (r1 : List Int) (r2 : List Int) (r3 : Int) (w : World) (hr0_0 : Kd.C (Kd.int .i64) w A0_0 l0_0.length l0_0) (hc0_0 : l0_0.length ≤ c0_0) (hr0_1 : Kd.C (Kd.int .i64) w A0_1 l0_1.length l0_1) (hc0_1 : l0_1.length ≤ c0_1) (h : spec_l12Next.f k l0_0 l0_1 = some (r1, r2, r3)) :
  Calls Try.prog 73 #[.agg #[.slice A0_0 l0_0.length c0_0, .slice A0_1 l0_1.length c0_1]] w fun e w' => ∃ v0_ v1_ : Value, e = .returned (.tuple #[.agg #[v0_, v1_], .int .i64 r3]) ∧ Kd.R (Kd.int .i64) 3 w' w.heap.size (fun k_ => some k_ ≠ (v1_ : Value).ownBlock) v0_ r1 ∧ Kd.R (Kd.int .i64) 3 w' w.heap.size (fun k_ => some k_ ≠ (v0_ : Value).ownBlock) v1_ r2 ∧ Below w.heap.size w w' := by
 have hu40 := Try.underlying40
 have HR0_0 := Aside0.mk hr0_0
 have HC0_0 := Aside0.mk hc0_0
 clear hr0_0 hc0_0
 have HR0_1 := Aside0.mk hr0_1
 have HC0_1 := Aside0.mk hc0_1
 clear hr0_1 hc0_1
 have HB := Aside0.mk (Below.refl w.heap.size w)
 have H : ((some (([] : List Int) : List Int)).bind fun y649 => (if y649.length + l0_0.length < 17592186044416 then (spec_l12Next.l0 k 0 l0_1 (l0_1.length : Int) 0 l0_0 l0_1 (y649 ++ l0_0) ([] : List Int)) else (none))) = some (r1, r2, r3) := h
 clear h
 obtain ⟨y649, hy649⟩ : ∃ y_ : List Int, y_ = (([] : List Int)) := ⟨_, rfl⟩
 replace H : (if y649.length + l0_0.length < 17592186044416 then (spec_l12Next.l0 k 0 l0_1 (l0_1.length : Int) 0 l0_0 l0_1 (y649 ++ l0_0) ([] : List Int)) else (none)) = some (r1, r2, r3) := by first | (rw [hy649]; with_reducible exact H) | (have H2_ := (Option.bind_some _ _).symm.trans H; rw [hy649]; with_reducible exact H2_) | (have H2_ := (Option.bind_some _ _).symm.trans H; with_reducible exact H2_) | with_reducible exact H | (rw [hy649]; exact H) | exact H
 have Ny649 := Aside0.mk hy649
 clear hy649
 obtain ⟨c2, H⟩ := ifn H
 have LMc2 := Aside0.mk c2
 clear c2
 obtain ⟨y652, hy652⟩ : ∃ y_ : List Int, y_ = (y649 ++ l0_0) := ⟨_, rfl⟩
 replace H : (spec_l12Next.l0 k 0 l0_1 (l0_1.length : Int) 0 l0_0 l0_1 y652 ([] : List Int)) = some (r1, r2, r3) := by first | (rw [hy652]; with_reducible exact H) | (have H2_ := (Option.bind_some _ _).symm.trans H; rw [hy652]; with_reducible exact H2_) | (have H2_ := (Option.bind_some _ _).symm.trans H; with_reducible exact H2_) | with_reducible exact H | (rw [hy652]; exact H) | exact H
 have Ny652 := Aside0.mk hy652
 clear hy652
 have H' := Aside0.mk H
 clear H
 go_enter Try.func73, Try.ntmps73
 go_wp2_with (first | ((with_reducible refine gate_dst (N := 1) rfl ?_); refine bE 1 #[.slice A0_0 l0_0.length c0_0, .slice A0_1 l0_1.length c0_1] 40 ?_; intro gb647 hg w3 hbox hb; have BK647 := Aside0.mk (hbox); have GE647 := bG hg; replace HB := BS hb; clear hb hbox hg) | ((with_reducible refine gate_dst (N := 2) rfl ?_); refine bE 2 #[.slice none 0 0, .slice none 0 0] 40 ?_; intro gb648 hg w4 hbox hb; have BK648 := Aside0.mk (hbox); have GE648 := bG hg; replace HB := BS hb; have NB647_648 := bN BK647 hg; have NB648_647 := bM BK647 hg; replace BK647 := KB BK647 hb; clear hb hbox hg) | ((with_reducible refine gate_dst (N := 8) rfl ?_); refine Kd.R_lit (Kd.int .i64) _ 3 ?hg (N := 8) ?hd (xs := ([] : List Int)) (inner := []) (ok := fun _ => True) (okp := fun _ => True) ?hr ?hp (fun _ hk => hk) trivial (Below.refl _ _) (Nat.le_refl _) (by simp) ?_; (case hd => rfl); (case hg => rfl); (case hr => first | (go_simp; done) | (go_simp; rfl)); (case hp => exact (Reps.none _ _)); intro v650 w5 ho6 hb hg_ hnew_; clear hg_ hnew_; (first | rw [← Ny649.out] at ho6 | (simp only [Int.reduceToNat] at ho6; rw [← Ny649.out] at ho6)); have HO651 := RL ho6; replace BK647 := KB BK647 hb; replace BK648 := KB BK648 hb; replace HB := BS hb; clear hb ho6; obtain ⟨hnb7, hnc7⟩ := nn NB647_648; have hcz8 := cz2 BK647) | ((with_reducible refine gate_builtin (b := .append) (xs := #[.tmp 8, .tmp 10]) rfl ?_); at_builtin; refine Kd.R_append_rows (Kd.int .i64) (w0 := w) w.heap.size rfl (.tmp 8) (.tmp 10) 22 3 (.int .i64 0) 8 rfl Try.underlying22 info3 rfl (by decide) (by omega) v650 y649 l0_0 _ _ _ (fun _ => True) (fun _ => False) rfl rfl ?aO ?aR (fun _ _ h => h) (fun _ h => h.elim) ?aF ?aB ?aS ?aL ?_; (case aR => repeat (first | exact (Kd.C_below HR0_0.out HB.out) | (with_reducible refine Kd.C_alloc ?_ _) | (with_reducible refine Kd.C_drewN ?_ _) | (with_reducible refine Kd.C_drew ?_))); (case aB => exact TB); (case aF => exact (fun _ _ => trivial)); (case aO => exact (RW HO651).out); (case aS => exact (below_size TB)); (case aL => have := LMc2.out; omega); intro v653 w9 ho hb hg hat; rw [← Ny652.out] at ho; have n0_ := Aside0.mk (blk_grown (g := gb647) (o := .cells #[.slice A0_0 l0_0.length c0_0, .slice A0_1 l0_1.length c0_1] 40 (0, 0)) (KW BK647).out hg (Kd.R_ne HO651.out BK647.out (by decide))); have n1_ := Aside0.mk (blk_grown (g := gb648) (o := .cells #[.slice none 0 0, .slice none 0 0] 40 (0, 0)) (KW BK648).out hg (Kd.R_ne HO651.out BK648.out (by decide))); have n2_ := Aside0.mk (hb); have n3_ := Aside0.mk (ho); clear BK647; clear BK648; clear HB; clear HO651; have BK647 := n0_; have BK648 := n1_; have HB := n2_; have HO654 := n3_; clear n0_ n1_ n2_ n3_; clear ho hb hg hat; obtain ⟨Ao10, co10, eo10⟩ := Kd.R_slice HO654.out; subst eo10) | ((with_reducible refine gate_dst (N := 4) rfl ?_); refine bE 4 #[.slice none 0 0, .slice none 0 0] 40 ?_; intro gb655 hg w11 hbox hb; replace HO654 := RB HO654 hb; have BK655 := Aside0.mk (hbox); have GE655 := bG hg; replace HB := BS hb; have NB647_655 := bN BK647 hg; have NB655_647 := bM BK647 hg; replace BK647 := KB BK647 hb; have NB648_655 := bN BK648 hg; have NB655_648 := bM BK648 hg; replace BK648 := KB BK648 hb; clear hb hbox hg; obtain ⟨hnb12, hnc12⟩ := nn NB655_647; obtain ⟨hnb13, hnc13⟩ := nn NB655_648; have hcz14 := cz2 BK655; have hcz15 := cz2 BK647))
 go_loopg [5, 16] k (fun kq v5 v16 w' => ∃ (x5_1 : Int) (x16_1 : Int) (x656001_1 : List Int) (u656001 : Value), v5 = .int .i64 x5_1 ∧ v16 = .int .i64 x16_1 ∧ Aside0 (spec_l12Next.l0 kq x5_1 l0_1 (l0_1.length : Int) x16_1 l0_0 l0_1 y652 x656001_1 = some (r1, r2, r3)) ∧ Aside0 (kq ≤ k) ∧ Aside0 (Kd.R (Kd.int .i64) 3 w' w.heap.size (fun k_ => some k_ ≠ (u656001 : Value).ownBlock) (.slice Ao10 y652.length co10) y652) ∧ Aside0 (Kd.R (Kd.int .i64) 3 w' w.heap.size (fun k_ => some k_ ≠ ((.slice Ao10 y652.length co10) : Value).ownBlock) u656001 x656001_1) ∧ Aside0 (w'.heap[gb647]? = some (.cells #[(.slice A0_0 l0_0.length c0_0), (.slice A0_1 l0_1.length c0_1)] 40 (0, 0))) ∧ Aside0 (w'.heap[gb648]? = some (.cells #[(.slice none 0 0), (.slice none 0 0)] 40 (0, 0))) ∧ Aside0 (w'.heap[gb655]? = some (.cells #[(.slice Ao10 y652.length co10), u656001] 40 (0, 0))) ∧ Aside0 (Below w.heap.size w w'))
 case atStart => exact ⟨(0), (0), (([] : List Int)), (.slice none 0 0), TF, TF, H', ⟨Nat.le_refl _⟩, ⟨by (with_reducible repeat (first | apply Kd.R_alloc | apply Kd.R_drewN | apply Kd.R_drew)); exact Kd.R_mono (Kd.R_far (p := ⟨gb655, 1, none⟩) (Kd.R_far (p := ⟨gb655, 0, none⟩) (Kd.R_types HO654.out BK655.out (by decide)) (fun _ hk => hk.2) (.slice Ao10 y652.length co10)) (fun _ hk => hk.2) (.slice none 0 0)) (fun _ hk => (by simp [Value.ownBlock]))⟩, ⟨TZ⟩, ⟨TS⟩, ⟨TS⟩, ⟨TS⟩, ⟨TB⟩⟩
 case round =>
  clear H'
  obtain ⟨x5_1, x16_1, x656001_1, u656001, rfl, rfl, HA, HK1, HO_656000, HO_656001, BK647, BK648, BK655, HB⟩ := hrel
  cases gk with
  | zero => exact absurd HA.out (by simp [spec_l12Next.l0])
  | succ k1 =>
   have H := HA.out
   clear HA
   simp only [spec_l12Next.l0] at H
   by_cases c16 : x16_1 < (l0_1.length : Int)
   ·rw [if_pos c16] at H
    have c16b0 : decide (x16_1 < (l0_1.length : Int)) = true := decide_eq_true c16
    clear c16
    obtain ⟨c17, H⟩ := ifn H
    have c17b0 : decide (0 ≤ x16_1) = true := decide_eq_true c17
    clear c17
    obtain ⟨c18, H⟩ := ifn H
    have c18b0 : decide (x16_1 < (l0_1.length : Int)) = true := decide_eq_true c18
    clear c18
    obtain ⟨c19, H⟩ := ifn H
    have c19b0 : decide (x16_1 < (l0_0.length : Int)) = true := decide_eq_true c19
    clear c19
    obtain ⟨c20, H⟩ := ifn H
    have LMc20 := Aside0.mk c20
    clear c20
    obtain ⟨y658, hy658⟩ : ∃ y_ : List Int, y_ = (x656001_1 ++ [wrap64 ((rd l0_1 x16_1) + (rd l0_0 x16_1))]) := ⟨_, rfl⟩
    replace H : (if x16_1 < (y658.length : Int) then (if 0 ≤ x5_1 then (if x5_1 < (y658.length : Int) then (if (rd y658 x16_1) > (rd y658 x5_1) then (spec_l12Next.l0 k1 x16_1 l0_1 (l0_1.length : Int) (wrap64 (x16_1 + 1)) l0_0 l0_1 y652 y658) else (spec_l12Next.l0 k1 x5_1 l0_1 (l0_1.length : Int) (wrap64 (x16_1 + 1)) l0_0 l0_1 y652 y658)) else (none)) else (none)) else (none)) = some (r1, r2, r3) := by first | (rw [hy658]; with_reducible exact H) | (have H2_ := (Option.bind_some _ _).symm.trans H; rw [hy658]; with_reducible exact H2_) | (have H2_ := (Option.bind_some _ _).symm.trans H; with_reducible exact H2_) | with_reducible exact H | (rw [hy658]; exact H) | exact H
    have Ny658 := Aside0.mk hy658
    clear hy658
    obtain ⟨c21, H⟩ := ifn H
    have c21b0 : decide (x16_1 < (y658.length : Int)) = true := decide_eq_true c21
    clear c21
    obtain ⟨c22, H⟩ := ifn H
    have c22b0 : decide (0 ≤ x5_1) = true := decide_eq_true c22
    clear c22
    obtain ⟨c23, H⟩ := ifn H
    have c23b0 : decide (x5_1 < (y658.length : Int)) = true := decide_eq_true c23
    clear c23
    by_cases c24 : (rd y658 x16_1) > (rd y658 x5_1)
    ·rw [if_pos c24] at H
     have c24b0 : decide ((rd y658 x5_1) < (rd y658 x16_1)) = true := decide_eq_true c24
     clear c24
     have H' := Aside0.mk H
     clear H
     have p656 : 0 ≤ (x16_1 : Int) := TD
     have q656 : x16_1 < (l0_1.length : Int) := TD
     obtain ⟨ad656, e656, hx656_0⟩ := Kd.at_int (Kd.C_below HR0_1.out HB.out) x16_1 p656 q656
     cases e656
     replace p656 := eq_true p656
     replace q656 := eq_true q656
     try go_wp2
     replace HO_656000 := Aside0.mk (Kd.R_drew HO_656000.out)
     replace HO_656001 := Aside0.mk (Kd.R_drew HO_656001.out)
     replace BK647 := Aside0.mk (blk_drew BK647.out)
     replace BK648 := Aside0.mk (blk_drew BK648.out)
     replace BK655 := Aside0.mk (blk_drew BK655.out)
     replace HB := Aside0.mk (below_drew1 HB.out)
     have p657 : 0 ≤ (x16_1 : Int) := TD
     have q657 : x16_1 < (l0_0.length : Int) := TD
     obtain ⟨ad657, e657, hx657_0⟩ := Kd.at_int HR0_0.out x16_1 p657 q657
     have hw657_0 := hx657_0
     cases e657
     replace hx657_0 := hBc HB hx657_0
     replace p657 := eq_true p657
     replace q657 := eq_true q657
     refine start_ (n := 13) (S := fun w' => w'.cell? ⟨gb655, 0, none⟩ = some (.slice Ao10 y652.length co10) ∧ w'.cell? ⟨gb655, 1, none⟩ = some (u656001) ∧ w'.cell? ⟨gb647, 0, none⟩ = some (.slice (some ad657) l0_0.length c0_0) ∧ w'.cell? ⟨gb647, 1, none⟩ = some (.slice (some ad656) l0_1.length c0_1) ∧ w'.cell? (ad657.add (x16_1).toNat) = some (.int .i64 (rd l0_0 x16_1))) (ds := [12]) #[false, false, false, false, false, false, false, false, false, false, false, false, false] KR rfl rfl ⟨bc 0 BK655, bc 1 BK655, bc 0 BK647, bc 1 BK647, ((HB.out.cell (World.block_lt_of_cell? w _ hw657_0)).trans hw657_0)⟩ (fun hHeld => ?_); refine with_tabW spec_l12Next.tab6 spec_l12Next.bits6 (fun HT_ HW_ => ?_)
     generalize wr.drew = w25 at HO_656000 HO_656001 BK647 BK648 BK655 HB hx657_0 hHeld ⊢
     refine pA 0 21 (mL 13 1) HT_ rfl rfl ?_
     refine pA 2 23 (mL 13 5) HT_ rfl rfl ?_
     refine pA 3 24 (mL 13 13) HT_ rfl rfl ?_
     refine pA 5 26 (mL 13 45) HT_ rfl rfl ?_
     refine tA 1 22 (mL 13 47) HT_ HW_ hHeld rfl rfl (by rintro w' ⟨s0, s1, s2, s3, s4⟩; go_simp; with_reducible rfl) ?_
     refine tA 4 25 (mL 13 63) HT_ HW_ hHeld rfl rfl (by rintro w' ⟨s0, s1, s2, s3, s4⟩; go_simp; with_reducible rfl) ?_
     refine pA 6 27 (mL 13 127) HT_ rfl rfl ?_
     refine tA 7 28 (mL 13 255) HT_ HW_ hHeld rfl rfl (by rintro w' ⟨s0, s1, s2, s3, s4⟩; go_simp; with_reducible rfl) ?_
     refine pA 8 29 (mL 13 511) HT_ rfl rfl ?_
     refine one_ (i := 9) (N := some 30) (mL 13 1023) rfl rfl (one_of HT_.out KR) (by decide) (fun K hK => ?_)
     refine value_ (w1 := ?_) (v := ?_) (by rfl) rfl ?_ ?_
     rotate_left 2
     ·go_simp
      constructor
      ·rfl
      ·rfl
     refine hK.out _ _ ⟨(blk_cell (blk_alloc BK655.out _) 0).trans rfl, (blk_cell (blk_alloc BK655.out _) 1).trans rfl, (blk_cell (blk_alloc BK647.out _) 0).trans rfl, (blk_cell (blk_alloc BK647.out _) 1).trans rfl, (World.cell?_alloc_lt _ _ _ (World.block_lt_of_cell? _ _ (((HB.out.cell (World.block_lt_of_cell? w _ hw657_0)).trans hw657_0)))).trans (((HB.out.cell (World.block_lt_of_cell? w _ hw657_0)).trans hw657_0))⟩ (fun hHeld => ?_)
     clear hK K
     refine nA ?_
     refine one_ (i := 10) (N := some 31) (mL 13 2047) rfl rfl (one_of HT_.out KR) (by decide) (fun K hK => ?_)
     refine Kd.R_append_step (Kd.int .i64) (w0 := w) w.heap.size (by rfl) (.tmp 22) (.tmp 30) 22 3 (.int .i64 0) 8 rfl Try.underlying22 info3 rfl (by decide) (by omega) u656001 x656001_1 (wrap64 ((rd l0_1 x16_1) + (rd l0_0 x16_1))) [.int .i64 (wrap64 ((rd l0_1 x16_1) + (rd l0_0 x16_1)))] (fun k_ => some k_ ≠ (.slice Ao10 y652.length co10 : Value).ownBlock) (fun _ => False) rfl rfl ?aP (fun _ hk => hk.elim) ?aF ?aO ?aB ?aS ?aL ?_
     (case aP => exact rfl)
     (case aB => exact TB)
     (case aF => exact (fun k_ hk => Kd.fresh' (Kd.R_lt (RW HO_656000).out) k_ hk))
     (case aO => exact (RW HO_656001).out)
     (case aS => exact (below_size TB))
     (case aL => have := LMc20.out; omega)
     intro v659 w26 ho hb hg hat
     rw [← Ny658.out] at ho
     have n0_ := Aside0.mk (Kd.R_after (ok := (fun _ => True)) (by (with_reducible repeat (first | apply Kd.R_alloc | apply Kd.R_drewN | apply Kd.R_drew)); exact Kd.R_mono HO_656000.out (fun _ hk => ⟨trivial, hk⟩)) hg hat)
     have n1_ := Aside0.mk (blk_grown (g := gb647) (o := .cells #[.slice (some ad657) l0_0.length c0_0, .slice (some ad656) l0_1.length c0_1] 40 (0, 0)) (KW BK647).out hg (Kd.R_ne HO_656001.out BK647.out (by decide)))
     have n2_ := Aside0.mk (blk_grown (g := gb648) (o := .cells #[.slice none 0 0, .slice none 0 0] 40 (0, 0)) (KW BK648).out hg (Kd.R_ne HO_656001.out BK648.out (by decide)))
     have n3_ := Aside0.mk (blk_grown (g := gb655) (o := .cells #[.slice Ao10 y652.length co10, u656001] 40 (0, 0)) (KW BK655).out hg (Kd.R_ne HO_656001.out BK655.out (by decide)))
     have n4_ := Aside0.mk (hb)
     have n5_ := Aside0.mk (ho)
     clear HO_656000
     clear BK647
     clear BK648
     clear BK655
     clear HB
     clear HO_656001
     have HO_656000 := n0_
     have BK647 := n1_
     have BK648 := n2_
     have BK655 := n3_
     have HB := n4_
     have HO660 := n5_
     clear n0_ n1_ n2_ n3_ n4_ n5_
     clear ho hb hg hat
     obtain ⟨Ao27, co27, eo27⟩ := Kd.R_slice HO660.out
     (first | subst eo27 | (injection eo27 with f1_ f2_ f3_; have f4_ := f1_.symm; have f5_ := f3_.symm; clear f1_ f2_ f3_; subst f4_; subst f5_))
     refine hK.out _ _ ⟨bc 0 BK655, bc 1 BK655, bc 0 BK647, bc 1 BK647, ((HB.out.cell (World.block_lt_of_cell? w _ hw657_0)).trans hw657_0)⟩ (fun hHeld => ?_)
     clear hK K
     refine nA ?_
     refine pA 11 32 (mL 13 4095) HT_ rfl rfl ?_
     refine last_ (i := 12) (N := none) (mL 13 8191) rfl rfl (one_of HT_.out KR) (by decide) (fun K hK => ?_)
     have hs28 := bc 1 BK655
     have hfs28 := blk_frozen BK655.out 1
     have hns28_0 := NB647_655.out
     have hns28_1 := NB648_655.out
     have hms28_0 := NB655_647.out
     have hms28_1 := NB655_648.out
     refine skip_ (w1 := ?_) (by rfl) rfl ?_ ?_
     rotate_left
     ·go_simp
      rfl
     refine hK.out _ _ ?_
     clear hK K
     refine done_ (done_of HT_.out KR) ?_
     try go_wp2
     have n0_ : Aside0 (Kd.R (Kd.int .i64) 3 (w26.setCell ⟨gb655, 1, none⟩ (.slice Ao27 y658.length co27)) w.heap.size (fun k_ => some k_ ≠ (.slice Ao27 y658.length co27 : Value).ownBlock) (.slice Ao10 y652.length co10) y652) := ⟨by (with_reducible repeat (first | apply Kd.R_alloc | apply Kd.R_drewN | apply Kd.R_drew)); exact Kd.R_mono (Kd.R_far (p := ⟨gb655, 1, none⟩) (Kd.R_types HO_656000.out BK655.out (by decide)) (fun _ hk => hk.2) (.slice Ao27 y658.length co27)) (fun _ hk => hk.1.2)⟩
     have n1_ : Aside0 (Kd.R (Kd.int .i64) 3 (w26.setCell ⟨gb655, 1, none⟩ (.slice Ao27 y658.length co27)) w.heap.size (fun k_ => some k_ ≠ (.slice Ao10 y652.length co10 : Value).ownBlock) (.slice Ao27 y658.length co27) y658) := ⟨by (with_reducible repeat (first | apply Kd.R_alloc | apply Kd.R_drewN | apply Kd.R_drew)); exact Kd.R_mono (Kd.R_far (p := ⟨gb655, 1, none⟩) (Kd.R_types HO660.out BK655.out (by decide)) (fun _ hk => hk.2) (.slice Ao27 y658.length co27)) (fun _ hk => hk.1)⟩
     have n2_ : Aside0 ((w26.setCell ⟨gb655, 1, none⟩ (.slice Ao27 y658.length co27)).heap[gb647]? = some (.cells #[.slice (some ad657) l0_0.length c0_0, .slice (some ad656) l0_1.length c0_1] 40 (0, 0))) := ⟨TS⟩
     have n3_ : Aside0 ((w26.setCell ⟨gb655, 1, none⟩ (.slice Ao27 y658.length co27)).heap[gb648]? = some (.cells #[.slice none 0 0, .slice none 0 0] 40 (0, 0))) := ⟨TS⟩
     have n4_ : Aside0 ((w26.setCell ⟨gb655, 1, none⟩ (.slice Ao27 y658.length co27)).heap[gb655]? = some (.cells #[.slice Ao10 y652.length co10, .slice Ao27 y658.length co27] 40 (0, 0))) := ⟨TS⟩
     have n5_ : Aside0 (Below w.heap.size w (w26.setCell ⟨gb655, 1, none⟩ (.slice Ao27 y658.length co27))) := ⟨TB⟩
     (try clear HO_656000)
     (try clear HO660)
     (try clear BK647)
     (try clear BK648)
     (try clear BK655)
     (try clear HB)
     generalize (w26.setCell ⟨gb655, 1, none⟩ (.slice Ao27 y658.length co27)) = w29 at n0_ n1_ n2_ n3_ n4_ n5_ ⊢
     have HO_656000 := n0_
     have HO660 := n1_
     have BK647 := n2_
     have BK648 := n3_
     have BK655 := n4_
     have HB := n5_
     clear n0_ n1_ n2_ n3_ n4_ n5_
     replace HO_656000 := Aside0.mk (Kd.R_drew HO_656000.out)
     replace HO660 := Aside0.mk (Kd.R_drew HO660.out)
     replace BK647 := Aside0.mk (blk_drew BK647.out)
     replace BK648 := Aside0.mk (blk_drew BK648.out)
     replace BK655 := Aside0.mk (blk_drew BK655.out)
     replace HB := Aside0.mk (below_drew1 HB.out)
     have p661 : 0 ≤ (x16_1 : Int) := TD
     have q661 : x16_1 < (y658.length : Int) := TD
     obtain ⟨ad661, e661, hx661_0⟩ := Kd.at_int (Kd.R_reads' HO660.out).2.2 x16_1 p661 q661
     cases e661
     replace p661 := eq_true p661
     replace q661 := eq_true q661
     have p662 : 0 ≤ (x5_1 : Int) := TD
     have q662 : x5_1 < (y658.length : Int) := TD
     obtain ⟨ad662, e662, hx662_0⟩ := Kd.at_int (Kd.R_reads' HO660.out).2.2 x5_1 p662 q662
     obtain rfl : ad661 = ad662 := (by injection e662)
     replace p662 := eq_true p662
     replace q662 := eq_true q662
     refine start_ (n := 11) (S := fun w' => w'.cell? ⟨gb655, 0, none⟩ = some (.slice Ao10 y652.length co10) ∧ w'.cell? ⟨gb655, 1, none⟩ = some (.slice (some ad661) y658.length co27) ∧ w'.cell? (ad661.add (x16_1).toNat) = some (.int .i64 (rd y658 x16_1)) ∧ w'.cell? (ad661.add (x5_1).toNat) = some (.int .i64 (rd y658 x5_1))) (ds := []) #[false, false, false, false, false, false, false, false, false, false, false] KR rfl rfl ⟨bc 0 BK655, bc 1 BK655, hx661_0, hx662_0⟩ (fun hHeld => ?_); refine with_tabW spec_l12Next.tab7 spec_l12Next.bits7 (fun HT_ HW_ => ?_)
     generalize w29.drew = w30 at HO_656000 HO660 BK647 BK648 BK655 HB hx661_0 hx662_0 hHeld ⊢
     refine pA 0 33 (mL 11 1) HT_ rfl rfl ?_
     refine pA 2 35 (mL 11 5) HT_ rfl rfl ?_
     refine pA 5 38 (mL 11 37) HT_ rfl rfl ?_
     refine pA 7 40 (mL 11 165) HT_ rfl rfl ?_
     refine tA 1 34 (mL 11 167) HT_ HW_ hHeld rfl rfl (by rintro w' ⟨s0, s1, s2, s3⟩; go_simp; with_reducible rfl) ?_
     refine pA 3 36 (mL 11 175) HT_ rfl rfl ?_
     refine tA 4 37 (mL 11 191) HT_ HW_ hHeld rfl rfl (by rintro w' ⟨s0, s1, s2, s3⟩; go_simp; with_reducible rfl) ?_
     refine tA 6 39 (mL 11 255) HT_ HW_ hHeld rfl rfl (by rintro w' ⟨s0, s1, s2, s3⟩; go_simp; with_reducible rfl) ?_
     refine pA 8 41 (mL 11 511) HT_ rfl rfl ?_
     refine tA 9 42 (mL 11 1023) HT_ HW_ hHeld rfl rfl (by rintro w' ⟨s0, s1, s2, s3⟩; go_simp; with_reducible rfl) ?_
     refine pA 10 43 (mL 11 2047) HT_ rfl rfl ?_
     refine done_ (done_of HT_.out KR) ?_
     try go_wp2
     go_roundg k1
     case measure => have := HK1.out; omega
     case rel => exact ⟨(x16_1), (wrap64 (x16_1 + 1)), (y658), (.slice (some ad661) y658.length co27), TF, TF, H', ⟨TM⟩, RW HO_656000, RW HO660, KW BK647, KW BK648, KW BK655, ⟨TB⟩⟩
    ·rw [if_neg c24] at H
     have c24b0 : decide ((rd y658 x5_1) < (rd y658 x16_1)) = false := decide_eq_false c24
     clear c24
     have H' := Aside0.mk H
     clear H
     have p656 : 0 ≤ (x16_1 : Int) := TD
     have q656 : x16_1 < (l0_1.length : Int) := TD
     obtain ⟨ad656, e656, hx656_0⟩ := Kd.at_int (Kd.C_below HR0_1.out HB.out) x16_1 p656 q656
     cases e656
     replace p656 := eq_true p656
     replace q656 := eq_true q656
     try go_wp2
     replace HO_656000 := Aside0.mk (Kd.R_drew HO_656000.out)
     replace HO_656001 := Aside0.mk (Kd.R_drew HO_656001.out)
     replace BK647 := Aside0.mk (blk_drew BK647.out)
     replace BK648 := Aside0.mk (blk_drew BK648.out)
     replace BK655 := Aside0.mk (blk_drew BK655.out)
     replace HB := Aside0.mk (below_drew1 HB.out)
     have p657 : 0 ≤ (x16_1 : Int) := TD
     have q657 : x16_1 < (l0_0.length : Int) := TD
     obtain ⟨ad657, e657, hx657_0⟩ := Kd.at_int HR0_0.out x16_1 p657 q657
     have hw657_0 := hx657_0
     cases e657
     replace hx657_0 := hBc HB hx657_0
     replace p657 := eq_true p657
     replace q657 := eq_true q657
     refine start_ (n := 13) (S := fun w' => w'.cell? ⟨gb655, 0, none⟩ = some (.slice Ao10 y652.length co10) ∧ w'.cell? ⟨gb655, 1, none⟩ = some (u656001) ∧ w'.cell? ⟨gb647, 0, none⟩ = some (.slice (some ad657) l0_0.length c0_0) ∧ w'.cell? ⟨gb647, 1, none⟩ = some (.slice (some ad656) l0_1.length c0_1) ∧ w'.cell? (ad657.add (x16_1).toNat) = some (.int .i64 (rd l0_0 x16_1))) (ds := [12]) #[false, false, false, false, false, false, false, false, false, false, false, false, false] KR rfl rfl ⟨bc 0 BK655, bc 1 BK655, bc 0 BK647, bc 1 BK647, ((HB.out.cell (World.block_lt_of_cell? w _ hw657_0)).trans hw657_0)⟩ (fun hHeld => ?_); refine with_tabW spec_l12Next.tab6 spec_l12Next.bits6 (fun HT_ HW_ => ?_)
     generalize wr.drew = w31 at HO_656000 HO_656001 BK647 BK648 BK655 HB hx657_0 hHeld ⊢
     refine pA 0 21 (mL 13 1) HT_ rfl rfl ?_
     refine pA 2 23 (mL 13 5) HT_ rfl rfl ?_
     refine pA 3 24 (mL 13 13) HT_ rfl rfl ?_
     refine pA 5 26 (mL 13 45) HT_ rfl rfl ?_
     refine tA 1 22 (mL 13 47) HT_ HW_ hHeld rfl rfl (by rintro w' ⟨s0, s1, s2, s3, s4⟩; go_simp; with_reducible rfl) ?_
     refine tA 4 25 (mL 13 63) HT_ HW_ hHeld rfl rfl (by rintro w' ⟨s0, s1, s2, s3, s4⟩; go_simp; with_reducible rfl) ?_
     refine pA 6 27 (mL 13 127) HT_ rfl rfl ?_
     refine tA 7 28 (mL 13 255) HT_ HW_ hHeld rfl rfl (by rintro w' ⟨s0, s1, s2, s3, s4⟩; go_simp; with_reducible rfl) ?_
     refine pA 8 29 (mL 13 511) HT_ rfl rfl ?_
     refine one_ (i := 9) (N := some 30) (mL 13 1023) rfl rfl (one_of HT_.out KR) (by decide) (fun K hK => ?_)
     refine value_ (w1 := ?_) (v := ?_) (by rfl) rfl ?_ ?_
     rotate_left 2
     ·go_simp
      constructor
      ·rfl
      ·rfl
     refine hK.out _ _ ⟨(blk_cell (blk_alloc BK655.out _) 0).trans rfl, (blk_cell (blk_alloc BK655.out _) 1).trans rfl, (blk_cell (blk_alloc BK647.out _) 0).trans rfl, (blk_cell (blk_alloc BK647.out _) 1).trans rfl, (World.cell?_alloc_lt _ _ _ (World.block_lt_of_cell? _ _ (((HB.out.cell (World.block_lt_of_cell? w _ hw657_0)).trans hw657_0)))).trans (((HB.out.cell (World.block_lt_of_cell? w _ hw657_0)).trans hw657_0))⟩ (fun hHeld => ?_)
     clear hK K
     refine nA ?_
     refine one_ (i := 10) (N := some 31) (mL 13 2047) rfl rfl (one_of HT_.out KR) (by decide) (fun K hK => ?_)
     refine Kd.R_append_step (Kd.int .i64) (w0 := w) w.heap.size (by rfl) (.tmp 22) (.tmp 30) 22 3 (.int .i64 0) 8 rfl Try.underlying22 info3 rfl (by decide) (by omega) u656001 x656001_1 (wrap64 ((rd l0_1 x16_1) + (rd l0_0 x16_1))) [.int .i64 (wrap64 ((rd l0_1 x16_1) + (rd l0_0 x16_1)))] (fun k_ => some k_ ≠ (.slice Ao10 y652.length co10 : Value).ownBlock) (fun _ => False) rfl rfl ?aP (fun _ hk => hk.elim) ?aF ?aO ?aB ?aS ?aL ?_
     (case aP => exact rfl)
     (case aB => exact TB)
     (case aF => exact (fun k_ hk => Kd.fresh' (Kd.R_lt (RW HO_656000).out) k_ hk))
     (case aO => exact (RW HO_656001).out)
     (case aS => exact (below_size TB))
     (case aL => have := LMc20.out; omega)
     intro v659 w32 ho hb hg hat
     rw [← Ny658.out] at ho
     have n0_ := Aside0.mk (Kd.R_after (ok := (fun _ => True)) (by (with_reducible repeat (first | apply Kd.R_alloc | apply Kd.R_drewN | apply Kd.R_drew)); exact Kd.R_mono HO_656000.out (fun _ hk => ⟨trivial, hk⟩)) hg hat)
     have n1_ := Aside0.mk (blk_grown (g := gb647) (o := .cells #[.slice (some ad657) l0_0.length c0_0, .slice (some ad656) l0_1.length c0_1] 40 (0, 0)) (KW BK647).out hg (Kd.R_ne HO_656001.out BK647.out (by decide)))
     have n2_ := Aside0.mk (blk_grown (g := gb648) (o := .cells #[.slice none 0 0, .slice none 0 0] 40 (0, 0)) (KW BK648).out hg (Kd.R_ne HO_656001.out BK648.out (by decide)))
     have n3_ := Aside0.mk (blk_grown (g := gb655) (o := .cells #[.slice Ao10 y652.length co10, u656001] 40 (0, 0)) (KW BK655).out hg (Kd.R_ne HO_656001.out BK655.out (by decide)))
     have n4_ := Aside0.mk (hb)
     have n5_ := Aside0.mk (ho)
     clear HO_656000
     clear BK647
     clear BK648
     clear BK655
     clear HB
     clear HO_656001
     have HO_656000 := n0_
     have BK647 := n1_
     have BK648 := n2_
     have BK655 := n3_
     have HB := n4_
     have HO660 := n5_
     clear n0_ n1_ n2_ n3_ n4_ n5_
     clear ho hb hg hat
     obtain ⟨Ao33, co33, eo33⟩ := Kd.R_slice HO660.out
     (first | subst eo33 | (injection eo33 with f1_ f2_ f3_; have f4_ := f1_.symm; have f5_ := f3_.symm; clear f1_ f2_ f3_; subst f4_; subst f5_))
     refine hK.out _ _ ⟨bc 0 BK655, bc 1 BK655, bc 0 BK647, bc 1 BK647, ((HB.out.cell (World.block_lt_of_cell? w _ hw657_0)).trans hw657_0)⟩ (fun hHeld => ?_)
     clear hK K
     refine nA ?_
     refine pA 11 32 (mL 13 4095) HT_ rfl rfl ?_
     refine last_ (i := 12) (N := none) (mL 13 8191) rfl rfl (one_of HT_.out KR) (by decide) (fun K hK => ?_)
     have hs34 := bc 1 BK655
     have hfs34 := blk_frozen BK655.out 1
     have hns34_0 := NB647_655.out
     have hns34_1 := NB648_655.out
     have hms34_0 := NB655_647.out
     have hms34_1 := NB655_648.out
     refine skip_ (w1 := ?_) (by rfl) rfl ?_ ?_
     rotate_left
     ·go_simp
      rfl
     refine hK.out _ _ ?_
     clear hK K
     refine done_ (done_of HT_.out KR) ?_
     try go_wp2
     have n0_ : Aside0 (Kd.R (Kd.int .i64) 3 (w32.setCell ⟨gb655, 1, none⟩ (.slice Ao33 y658.length co33)) w.heap.size (fun k_ => some k_ ≠ (.slice Ao33 y658.length co33 : Value).ownBlock) (.slice Ao10 y652.length co10) y652) := ⟨by (with_reducible repeat (first | apply Kd.R_alloc | apply Kd.R_drewN | apply Kd.R_drew)); exact Kd.R_mono (Kd.R_far (p := ⟨gb655, 1, none⟩) (Kd.R_types HO_656000.out BK655.out (by decide)) (fun _ hk => hk.2) (.slice Ao33 y658.length co33)) (fun _ hk => hk.1.2)⟩
     have n1_ : Aside0 (Kd.R (Kd.int .i64) 3 (w32.setCell ⟨gb655, 1, none⟩ (.slice Ao33 y658.length co33)) w.heap.size (fun k_ => some k_ ≠ (.slice Ao10 y652.length co10 : Value).ownBlock) (.slice Ao33 y658.length co33) y658) := ⟨by (with_reducible repeat (first | apply Kd.R_alloc | apply Kd.R_drewN | apply Kd.R_drew)); exact Kd.R_mono (Kd.R_far (p := ⟨gb655, 1, none⟩) (Kd.R_types HO660.out BK655.out (by decide)) (fun _ hk => hk.2) (.slice Ao33 y658.length co33)) (fun _ hk => hk.1)⟩
     have n2_ : Aside0 ((w32.setCell ⟨gb655, 1, none⟩ (.slice Ao33 y658.length co33)).heap[gb647]? = some (.cells #[.slice (some ad657) l0_0.length c0_0, .slice (some ad656) l0_1.length c0_1] 40 (0, 0))) := ⟨TS⟩
     have n3_ : Aside0 ((w32.setCell ⟨gb655, 1, none⟩ (.slice Ao33 y658.length co33)).heap[gb648]? = some (.cells #[.slice none 0 0, .slice none 0 0] 40 (0, 0))) := ⟨TS⟩
     have n4_ : Aside0 ((w32.setCell ⟨gb655, 1, none⟩ (.slice Ao33 y658.length co33)).heap[gb655]? = some (.cells #[.slice Ao10 y652.length co10, .slice Ao33 y658.length co33] 40 (0, 0))) := ⟨TS⟩
     have n5_ : Aside0 (Below w.heap.size w (w32.setCell ⟨gb655, 1, none⟩ (.slice Ao33 y658.length co33))) := ⟨TB⟩
     (try clear HO_656000)
     (try clear HO660)
     (try clear BK647)
     (try clear BK648)
     (try clear BK655)
     (try clear HB)
     generalize (w32.setCell ⟨gb655, 1, none⟩ (.slice Ao33 y658.length co33)) = w35 at n0_ n1_ n2_ n3_ n4_ n5_ ⊢
     have HO_656000 := n0_
     have HO660 := n1_
     have BK647 := n2_
     have BK648 := n3_
     have BK655 := n4_
     have HB := n5_
     clear n0_ n1_ n2_ n3_ n4_ n5_
     replace HO_656000 := Aside0.mk (Kd.R_drew HO_656000.out)
     replace HO660 := Aside0.mk (Kd.R_drew HO660.out)
     replace BK647 := Aside0.mk (blk_drew BK647.out)
     replace BK648 := Aside0.mk (blk_drew BK648.out)
     replace BK655 := Aside0.mk (blk_drew BK655.out)
     replace HB := Aside0.mk (below_drew1 HB.out)
     have p661 : 0 ≤ (x16_1 : Int) := TD
     have q661 : x16_1 < (y658.length : Int) := TD
     obtain ⟨ad661, e661, hx661_0⟩ := Kd.at_int (Kd.R_reads' HO660.out).2.2 x16_1 p661 q661
     cases e661
     replace p661 := eq_true p661
     replace q661 := eq_true q661
     have p662 : 0 ≤ (x5_1 : Int) := TD
     have q662 : x5_1 < (y658.length : Int) := TD
     obtain ⟨ad662, e662, hx662_0⟩ := Kd.at_int (Kd.R_reads' HO660.out).2.2 x5_1 p662 q662
     obtain rfl : ad661 = ad662 := (by injection e662)
     replace p662 := eq_true p662
     replace q662 := eq_true q662
     refine start_ (n := 11) (S := fun w' => w'.cell? ⟨gb655, 0, none⟩ = some (.slice Ao10 y652.length co10) ∧ w'.cell? ⟨gb655, 1, none⟩ = some (.slice (some ad661) y658.length co33) ∧ w'.cell? (ad661.add (x16_1).toNat) = some (.int .i64 (rd y658 x16_1)) ∧ w'.cell? (ad661.add (x5_1).toNat) = some (.int .i64 (rd y658 x5_1))) (ds := []) #[false, false, false, false, false, false, false, false, false, false, false] KR rfl rfl ⟨bc 0 BK655, bc 1 BK655, hx661_0, hx662_0⟩ (fun hHeld => ?_); refine with_tabW spec_l12Next.tab7 spec_l12Next.bits7 (fun HT_ HW_ => ?_)
     generalize w35.drew = w36 at HO_656000 HO660 BK647 BK648 BK655 HB hx661_0 hx662_0 hHeld ⊢
     refine pA 0 33 (mL 11 1) HT_ rfl rfl ?_
     refine pA 2 35 (mL 11 5) HT_ rfl rfl ?_
     refine pA 5 38 (mL 11 37) HT_ rfl rfl ?_
     refine pA 7 40 (mL 11 165) HT_ rfl rfl ?_
     refine tA 1 34 (mL 11 167) HT_ HW_ hHeld rfl rfl (by rintro w' ⟨s0, s1, s2, s3⟩; go_simp; with_reducible rfl) ?_
     refine pA 3 36 (mL 11 175) HT_ rfl rfl ?_
     refine tA 4 37 (mL 11 191) HT_ HW_ hHeld rfl rfl (by rintro w' ⟨s0, s1, s2, s3⟩; go_simp; with_reducible rfl) ?_
     refine tA 6 39 (mL 11 255) HT_ HW_ hHeld rfl rfl (by rintro w' ⟨s0, s1, s2, s3⟩; go_simp; with_reducible rfl) ?_
     refine pA 8 41 (mL 11 511) HT_ rfl rfl ?_
     refine tA 9 42 (mL 11 1023) HT_ HW_ hHeld rfl rfl (by rintro w' ⟨s0, s1, s2, s3⟩; go_simp; with_reducible rfl) ?_
     refine pA 10 43 (mL 11 2047) HT_ rfl rfl ?_
     refine done_ (done_of HT_.out KR) ?_
     try go_wp2
     go_roundg k1
     case measure => have := HK1.out; omega
     case rel => exact ⟨(x5_1), (wrap64 (x16_1 + 1)), (y658), (.slice (some ad661) y658.length co33), TF, TF, H', ⟨TM⟩, RW HO_656000, RW HO660, KW BK647, KW BK648, KW BK655, ⟨TB⟩⟩
   ·rw [if_neg c16] at H
    have c16b0 : decide (x16_1 < (l0_1.length : Int)) = false := decide_eq_false c16
    clear c16
    obtain ⟨c37, H⟩ := ifn H
    have c37b0 : decide (0 ≤ x5_1) = true := decide_eq_true c37
    clear c37
    obtain ⟨c38, H⟩ := ifn H
    have c38b0 : decide (x5_1 < (x656001_1.length : Int)) = true := decide_eq_true c38
    clear c38
    obtain ⟨t664, A39, H⟩ := bnd H
    obtain ⟨y665, hy665⟩ : ∃ y_ : List Int, y_ = (x656001_1.set (x5_1 : Int).toNat (wrap64 ((rd x656001_1 x5_1) - t664))) := ⟨_, rfl⟩
    replace H : (some (y652, y665, x5_1)) = some (r1, r2, r3) := by first | (rw [hy665]; with_reducible exact H) | (have H2_ := (Option.bind_some _ _).symm.trans H; rw [hy665]; with_reducible exact H2_) | (have H2_ := (Option.bind_some _ _).symm.trans H; with_reducible exact H2_) | with_reducible exact H | (rw [hy665]; exact H) | exact H
    have Ny665 := Aside0.mk hy665
    clear hy665
    simp only [Option.some.injEq, Prod.mk.injEq] at H
    obtain ⟨rfl, rfl, rfl⟩ := H
    try go_wp2
    replace HO_656000 := Aside0.mk (Kd.R_drew HO_656000.out)
    replace HO_656001 := Aside0.mk (Kd.R_drew HO_656001.out)
    replace BK647 := Aside0.mk (blk_drew BK647.out)
    replace BK648 := Aside0.mk (blk_drew BK648.out)
    replace BK655 := Aside0.mk (blk_drew BK655.out)
    replace HB := Aside0.mk (below_drew1 HB.out)
    obtain ⟨Ao42, co42, eo42⟩ := Kd.R_slice HO_656001.out
    (first | subst eo42 | (injection eo42 with f1_ f2_ f3_; have f4_ := f1_.symm; have f5_ := f3_.symm; clear f1_ f2_ f3_; subst f4_; subst f5_))
    have p663 : 0 ≤ (x5_1 : Int) := TD
    have q663 : x5_1 < (x656001_1.length : Int) := TD
    obtain ⟨ad663, e663, hx663_0⟩ := Kd.at_int (Kd.R_reads' HO_656001.out).2.2 x5_1 p663 q663
    cases e663
    replace p663 := eq_true p663
    replace q663 := eq_true q663
    refine start_ (n := 11) (S := fun w' => w'.cell? ⟨gb655, 0, none⟩ = some (.slice Ao10 y652.length co10) ∧ w'.cell? ⟨gb655, 1, none⟩ = some (.slice (some ad663) x656001_1.length co42) ∧ w'.cell? ⟨gb647, 0, none⟩ = some (.slice A0_0 l0_0.length c0_0) ∧ w'.cell? ⟨gb647, 1, none⟩ = some (.slice A0_1 l0_1.length c0_1) ∧ w'.cell? (ad663.add (x5_1).toNat) = some (.int .i64 (rd x656001_1 x5_1))) (ds := [10]) #[false, false, false, false, false, false, false, false, false, false, false] KR rfl rfl ⟨bc 0 BK655, bc 1 BK655, bc 0 BK647, bc 1 BK647, hx663_0⟩ (fun hHeld => ?_); refine with_tabW spec_l12Next.tab10 spec_l12Next.bits10 (fun HT_ HW_ => ?_)
    generalize wr.drew = w41 at HO_656000 HO_656001 BK647 BK648 BK655 HB hx663_0 hHeld ⊢
    refine pA 0 46 (mL 11 1) HT_ rfl rfl ?_
    refine pA 2 48 (mL 11 5) HT_ rfl rfl ?_
    refine pA 5 51 (mL 11 37) HT_ rfl rfl ?_
    refine tA 1 47 (mL 11 39) HT_ HW_ hHeld rfl rfl (by rintro w' ⟨s0, s1, s2, s3, s4⟩; go_simp; with_reducible rfl) ?_
    refine pA 3 49 (mL 11 47) HT_ rfl rfl ?_
    refine tA 4 50 (mL 11 63) HT_ HW_ hHeld rfl rfl (by rintro w' ⟨s0, s1, s2, s3, s4⟩; go_simp; with_reducible rfl) ?_
    refine tA 6 52 (mL 11 127) HT_ HW_ hHeld rfl rfl (by rintro w' ⟨s0, s1, s2, s3, s4⟩; go_simp; with_reducible rfl) ?_
    refine one_ (i := 7) (N := some 53) (mL 11 255) rfl rfl (one_of HT_.out KR) (by decide) (fun K hK => ?_)
    refine goes_ Try.func74 KR rfl #[.slice A0_0 l0_0.length c0_0] (by rfl) rfl rfl TA ?_
    with_reducible refine (spec_l12Total.calls k1 _ _ l0_0 t664 _ ?side1 ?side2 A39.out).mono ?_
    (case side1 => exact CW ((Kd.C_below HR0_0.out HB.out)))
    (case side2 => exact HC0_0.out)
    rintro e w41q ⟨rfl, ⟨nd, hq_⟩⟩
    replace hq_ := hq_.symm
    replace HO_656000 := Aside0.mk (Kd.R_at hq_ HO_656000.out)
    replace HO_656001 := Aside0.mk (Kd.R_at hq_ HO_656001.out)
    replace BK647 := Aside0.mk (blk_at hq_ BK647.out)
    replace BK648 := Aside0.mk (blk_at hq_ BK648.out)
    replace BK655 := Aside0.mk (blk_at hq_ BK655.out)
    replace HB := Aside0.mk (below_at hq_ HB.out)
    replace hx663_0 := cell_at hq_ hx663_0
    clear hq_
    refine ⟨_, rfl, ?_⟩
    have p40 : 0 ≤ (x5_1 : Int) := TD
    have q40 : (x5_1 : Int) < ((x656001_1.length : Int) : Int) := TD
    obtain ⟨go40, co40, eo40, gb40, gl40, cl40, HG40⟩ := Kd.R_form HO_656001.out (by omega)
    (first | cases eo40 | (injection eo40 with ea_ en_ ec_; (first | subst ea_ | (injection ea_ with ea_; subst ea_)); subst ec_; clear en_))
    have GB40 := Aside0.mk gb40
    have GG40 := Aside0.mk HG40
    clear gb40 gl40 HG40
    (first | simp only [add_plain] at hx663_0 | skip)
    obtain ⟨hx40_0, hf40_0⟩ := Kd.R_celln 0 HO_656001.out (x5_1 : Int) p40 q40
    replace p40 := eq_true p40
    replace q40 := eq_true q40
    have HP43 := Kd.R_putn HO_656001.out (x5_1 : Int) (wrap64 ((rd x656001_1 x5_1) - t664))
    rw [← Ny665.out] at HP43
    have HQ43 := Aside0.mk HP43
    clear HP43
    refine hK.out _ _ ⟨bc 0 BK655, bc 1 BK655, bc 0 BK647, bc 1 BK647, (by first | exact hx663_0 | (simp only [add_plain]; exact hx663_0))⟩ (fun hHeld => ?_)
    clear hK K
    refine nA ?_
    refine pA 8 54 (mL 11 511) HT_ rfl rfl ?_
    refine pA 9 55 (mL 11 1023) HT_ rfl rfl ?_
    refine last_ (i := 10) (N := none) (mL 11 2047) rfl rfl (one_of HT_.out KR) (by decide) (fun K hK => ?_)
    refine skip_ (w1 := ?_) (by rfl) rfl ?_ ?_
    rotate_left
    ·go_simp
     rfl
    refine hK.out _ _ ?_
    clear hK K
    refine done_ (done_of HT_.out KR) ?_
    have n0_ : Aside0 (Kd.R (Kd.int .i64) 3 (w41q.setCell ⟨go40, (x5_1 : Int).toNat, none⟩ (.int .i64 (wrap64 ((rd x656001_1 x5_1) - t664)))) w.heap.size (fun k_ => some k_ ≠ (.slice (some ⟨go40, 0, none⟩) x656001_1.length co42 : Value).ownBlock) (.slice Ao10 y652.length co10) y652) := ⟨by (with_reducible repeat (first | apply Kd.R_alloc | apply Kd.R_drewN | apply Kd.R_drew)); exact Kd.R_mono (Kd.R_far (p := ⟨go40, (x5_1 : Int).toNat, none⟩) (Kd.R_mono HO_656000.out (fun k_ hk => (⟨hk, fun e_ => hk (by rw [e_]; rfl)⟩ : _ ∧ k_ ≠ go40))) (fun _ hk => hk.2) (.int .i64 (wrap64 ((rd x656001_1 x5_1) - t664)))) (fun _ hk => hk.1)⟩
    have n1_ : Aside0 (Kd.R (Kd.int .i64) 3 (w41q.setCell ⟨go40, (x5_1 : Int).toNat, none⟩ (.int .i64 (wrap64 ((rd x656001_1 x5_1) - t664)))) w.heap.size (fun k_ => some k_ ≠ (.slice Ao10 y652.length co10 : Value).ownBlock) (.slice (some ⟨go40, 0, none⟩) x656001_1.length co42) y665) := RW HQ43
    have n2_ : Aside0 ((w41q.setCell ⟨go40, (x5_1 : Int).toNat, none⟩ (.int .i64 (wrap64 ((rd x656001_1 x5_1) - t664)))).heap[gb647]? = some (.cells #[.slice A0_0 l0_0.length c0_0, .slice A0_1 l0_1.length c0_1] 40 (0, 0))) := ⟨by (with_reducible repeat (first | refine blk_drewN ?_ _ | refine blk_drew ?_ | refine blk_alloc ?_ _)); refine blk_far ?_ (by have h_ := Kd.R_ne HO_656001.out BK647.out (by decide); intro e_; exact h_ (by rw [e_]; rfl)) _; (with_reducible repeat (first | refine blk_drewN ?_ _ | refine blk_drew ?_ | refine blk_alloc ?_ _)); exact BK647.out⟩
    have n3_ : Aside0 ((w41q.setCell ⟨go40, (x5_1 : Int).toNat, none⟩ (.int .i64 (wrap64 ((rd x656001_1 x5_1) - t664)))).heap[gb648]? = some (.cells #[.slice none 0 0, .slice none 0 0] 40 (0, 0))) := ⟨by (with_reducible repeat (first | refine blk_drewN ?_ _ | refine blk_drew ?_ | refine blk_alloc ?_ _)); refine blk_far ?_ (by have h_ := Kd.R_ne HO_656001.out BK648.out (by decide); intro e_; exact h_ (by rw [e_]; rfl)) _; (with_reducible repeat (first | refine blk_drewN ?_ _ | refine blk_drew ?_ | refine blk_alloc ?_ _)); exact BK648.out⟩
    have n4_ : Aside0 ((w41q.setCell ⟨go40, (x5_1 : Int).toNat, none⟩ (.int .i64 (wrap64 ((rd x656001_1 x5_1) - t664)))).heap[gb655]? = some (.cells #[.slice Ao10 y652.length co10, .slice (some ⟨go40, 0, none⟩) x656001_1.length co42] 40 (0, 0))) := ⟨by (with_reducible repeat (first | refine blk_drewN ?_ _ | refine blk_drew ?_ | refine blk_alloc ?_ _)); refine blk_far ?_ (by have h_ := Kd.R_ne HO_656001.out BK655.out (by decide); intro e_; exact h_ (by rw [e_]; rfl)) _; (with_reducible repeat (first | refine blk_drewN ?_ _ | refine blk_drew ?_ | refine blk_alloc ?_ _)); exact BK655.out⟩
    have n5_ : Aside0 (Below w.heap.size w (w41q.setCell ⟨go40, (x5_1 : Int).toNat, none⟩ (.int .i64 (wrap64 ((rd x656001_1 x5_1) - t664))))) := ⟨TB⟩
    (try clear HO_656000)
    (try clear HO_656001)
    (try clear BK647)
    (try clear BK648)
    (try clear BK655)
    (try clear HB)
    generalize (w41q.setCell ⟨go40, (x5_1 : Int).toNat, none⟩ (.int .i64 (wrap64 ((rd x656001_1 x5_1) - t664)))) = w44 at n0_ n1_ n2_ n3_ n4_ n5_ ⊢
    have HO_656000 := n0_
    have HO_656001 := n1_
    have BK647 := n2_
    have BK648 := n3_
    have BK655 := n4_
    have HB := n5_
    clear n0_ n1_ n2_ n3_ n4_ n5_
    have hnb45 := NB655_647.out
    have hnc45 := NB647_655.out
    have hnb46 := NB655_648.out
    have hnc46 := NB648_655.out
    have hcz47 := cz2 BK655
    have hnb48 := NB648_647.out
    have hnc48 := NB647_648.out
    have hcz49 := cz2 BK648
    try go_wp2
    refine bodyPost_ret (results_ct rfl _ _ gb648 40 #[.slice Ao10 y652.length co10, .slice (some ⟨go40, 0, none⟩) x656001_1.length co42] (0, 0) _ rfl (by (with_reducible repeat (first | refine blk_drewN ?_ _ | refine blk_drew ?_ | refine blk_alloc ?_ _)); refine blk_put (cs := #[.slice Ao10 y652.length co10, .slice none 0 0]) ?_ 1 _ rfl; (with_reducible repeat (first | refine blk_drewN ?_ _ | refine blk_drew ?_ | refine blk_alloc ?_ _)); refine blk_put (cs := #[.slice none 0 0, .slice none 0 0]) ?_ 0 _ rfl; (with_reducible repeat (first | refine blk_drewN ?_ _ | refine blk_drew ?_ | refine blk_alloc ?_ _)); exact BK648.out) Try.underlying40 rfl KR) rfl ?_
    exact ⟨_, _, TE, by (with_reducible repeat (first | apply Kd.R_alloc | apply Kd.R_drewN | apply Kd.R_drew)); exact Kd.R_mono (Kd.R_far (p := ⟨gb648, 1, none⟩) (Kd.R_far (p := ⟨gb648, 0, none⟩) (Kd.R_types HO_656000.out BK648.out (by decide)) (fun _ hk => hk.2) (.slice Ao10 y652.length co10)) (fun _ hk => hk.2) (.slice (some ⟨go40, 0, none⟩) x656001_1.length co42)) (fun _ hk => hk.1), by (with_reducible repeat (first | apply Kd.R_alloc | apply Kd.R_drewN | apply Kd.R_drew)); exact Kd.R_mono (Kd.R_far (p := ⟨gb648, 1, none⟩) (Kd.R_far (p := ⟨gb648, 0, none⟩) (Kd.R_types HO_656001.out BK648.out (by decide)) (fun _ hk => hk.2) (.slice Ao10 y652.length co10)) (fun _ hk => hk.2) (.slice (some ⟨go40, 0, none⟩) x656001_1.length co42)) (fun _ hk => hk.1), TB⟩
end
section
/-! ### spec_NextTurn: function 45 -/
def spec_NextTurn.f (k : Nat) (l0_0 : List Int) (l0_1 : List Int) : Option (List Int × List Int × Int × Bool) := (spec_GoodTurn.f k l0_0 l0_1).bind fun t668 => (if t668 = true then ((spec_l12Next.f k l0_0 l0_1).bind fun bt669 => ((spec_GoodTurn.f k bt669.1 bt669.2.1).bind fun t677 => (if t677 = true then (some (bt669.1, bt669.2.1, bt669.2.2, true)) else (some (([] : List Int), ([] : List Int), 0, false))))) else (some (([] : List Int), ([] : List Int), 0, false)))
theorem spec_NextTurn.calls (k : Nat) (A0_0 : Option Addr) (c0_0 : Nat) (l0_0 : List Int) (A0_1 : Option Addr) (c0_1 : Nat) (l0_1 : List Int) (r1 : List Int) (r2 : List Int) (r3 : Int) (r4 : Bool) (w : World) (hr0_0 : Kd.C (Kd.int .i64) w A0_0 l0_0.length l0_0) (hc0_0 : l0_0.length ≤ c0_0) (hr0_1 : Kd.C (Kd.int .i64) w A0_1 l0_1.length l0_1) (hc0_1 : l0_1.length ≤ c0_1) (h : spec_NextTurn.f k l0_0 l0_1 = some (r1, r2, r3, r4)) :
  Calls Try.prog 45 #[.agg #[.slice A0_0 l0_0.length c0_0, .slice A0_1 l0_1.length c0_1]] w fun e w' => ∃ v0_ v1_ : Value, e = .returned (.tuple #[.agg #[v0_, v1_], .int .i64 r3, .bool r4]) ∧ Kd.R (Kd.int .i64) 3 w' w.heap.size (fun k_ => some k_ ≠ (v1_ : Value).ownBlock) v0_ r1 ∧ Kd.R (Kd.int .i64) 3 w' w.heap.size (fun k_ => some k_ ≠ (v0_ : Value).ownBlock) v1_ r2 ∧ Below w.heap.size w w' := by
 have hu40 := Try.underlying40
 have HR0_0 := Aside0.mk hr0_0
 have HC0_0 := Aside0.mk hc0_0
 clear hr0_0 hc0_0
 have HR0_1 := Aside0.mk hr0_1
 have HC0_1 := Aside0.mk hc0_1
 clear hr0_1 hc0_1
 have HB := Aside0.mk (Below.refl w.heap.size w)
 have H : ((spec_GoodTurn.f k l0_0 l0_1).bind fun t668 => (if t668 = true then ((spec_l12Next.f k l0_0 l0_1).bind fun bt669 => ((spec_GoodTurn.f k bt669.1 bt669.2.1).bind fun t677 => (if t677 = true then (some (bt669.1, bt669.2.1, bt669.2.2, true)) else (some (([] : List Int), ([] : List Int), 0, false))))) else (some (([] : List Int), ([] : List Int), 0, false)))) = some (r1, r2, r3, r4) := h
 clear h
 obtain ⟨t668, A2, H⟩ := bnd H
 by_cases c3 : t668 = true
 ·subst c3
  replace H := ift H
  obtain ⟨⟨t669, t672, t675⟩, A4, H⟩ := bnd H
  try dsimp only at H
  obtain ⟨t677, A5, H⟩ := bnd H
  by_cases c6 : t677 = true
  ·subst c6
   replace H := ift H
   simp only [Option.some.injEq, Prod.mk.injEq] at H
   obtain ⟨rfl, rfl, rfl, rfl⟩ := H
   go_enter Try.func45, Try.ntmps45
   go_wp2_with (first | ((with_reducible refine gate_dst (N := 1) rfl ?_); refine bE 1 #[.slice A0_0 l0_0.length c0_0, .slice A0_1 l0_1.length c0_1] 40 ?_; intro gb666 hg w7 hbox hb; have BK666 := Aside0.mk (hbox); have GE666 := bG hg; replace HB := BS hb; clear hb hbox hg) | ((with_reducible refine gate_dst (N := 2) rfl ?_); refine bE 2 #[.slice none 0 0, .slice none 0 0] 40 ?_; intro gb667 hg w8 hbox hb; have BK667 := Aside0.mk (hbox); have GE667 := bG hg; replace HB := BS hb; have NB666_667 := bN BK666 hg; have NB667_666 := bM BK666 hg; replace BK666 := KB BK666 hb; clear hb hbox hg; obtain ⟨hnb9, hnc9⟩ := nn NB666_667; have hcz10 := cz2 BK666) | ((with_reducible refine gate_callee (f := 27) rfl ?_); refine goesL_ (some 8) rfl rfl Try.func27 KR rfl #[.agg #[.slice A0_0 l0_0.length c0_0, .slice A0_1 l0_1.length c0_1]] rfl TA ?_; (with_reducible refine (spec_GoodTurn.calls k _ _ l0_0 _ _ l0_1 true _ ?side1 ?side2 ?side3 ?side4 A2.out).mono ?_); (case side1 => exact CW ((Kd.C_below HR0_0.out HB.out))); (case side2 => exact HC0_0.out); (case side3 => exact CW ((Kd.C_below HR0_1.out HB.out))); (case side4 => exact HC0_1.out); rintro e w11 ⟨rfl, hb⟩; refine ⟨_, rfl, ?_⟩; replace BK666 := KB BK666 hb; replace BK667 := KB BK667 hb; replace HB := BS hb; clear hb; have hcz12 := cz2 BK666) | ((with_reducible refine gate_callee (f := 73) rfl ?_); refine goesL_ (some 13) rfl rfl Try.func73 KR rfl #[.agg #[.slice A0_0 l0_0.length c0_0, .slice A0_1 l0_1.length c0_1]] rfl TA ?_; (with_reducible refine (spec_l12Next.calls k _ _ l0_0 _ _ l0_1 t669 t672 t675 _ ?side1 ?side2 ?side3 ?side4 A4.out).mono ?_); (case side1 => exact CW ((Kd.C_below HR0_0.out HB.out))); (case side2 => exact HC0_0.out); (case side3 => exact CW ((Kd.C_below HR0_1.out HB.out))); (case side4 => exact HC0_1.out); rintro e w13 ⟨v670, v673, rfl, ho0, ho1, hb⟩; refine ⟨_, rfl, ?_⟩; have HO671 := RL ho0; have HO674 := RL ho1; replace BK666 := KB BK666 hb; replace BK667 := KB BK667 hb; replace HB := BS hb; clear hb; (try clear ho0); (try clear ho1)) | ((with_reducible refine gate_dst (N := 5) rfl ?_); refine bE 5 #[.slice none 0 0, .slice none 0 0] 40 ?_; intro gb676 hg w14 hbox hb; replace HO671 := RB HO671 hb; replace HO674 := RB HO674 hb; have BK676 := Aside0.mk (hbox); have GE676 := bG hg; replace HB := BS hb; have NB666_676 := bN BK666 hg; have NB676_666 := bM BK666 hg; replace BK666 := KB BK666 hb; have NB667_676 := bN BK667 hg; have NB676_667 := bM BK667 hg; replace BK667 := KB BK667 hb; clear hb hbox hg; obtain ⟨Ao15, co15, eo15⟩ := Kd.R_slice HO671.out; subst eo15; obtain ⟨hnb16, hnc16⟩ := nn NB676_666; obtain ⟨hnb17, hnc17⟩ := nn NB676_667; have hcz18 := cz2 BK676; obtain ⟨Ao19, co19, eo19⟩ := Kd.R_slice HO674.out; subst eo19) | ((with_reducible refine gate_callee (f := 27) rfl ?_); refine goesL_ (some 17) rfl rfl Try.func27 KR rfl #[.agg #[.slice Ao15 t669.length co15, .slice Ao19 t672.length co19]] rfl TA ?_; (with_reducible refine (spec_GoodTurn.calls k _ _ t669 _ _ t672 true _ ?side1 ?side2 ?side3 ?side4 A5.out).mono ?_); (case side1 => exact RC (RT HO671 BK676)); (case side2 => exact RI HO671); (case side3 => exact RC (RT HO674 BK676)); (case side4 => exact RI HO674); rintro e w20 ⟨rfl, hb⟩; refine ⟨_, rfl, ?_⟩; replace HO671 := RTB HO671 BK676 hb; replace HO674 := RTB HO674 BK676 hb; replace BK666 := KF BK666 hb; replace BK667 := KF BK667 hb; replace BK676 := KP BK676 #[.slice Ao15 t669.length co15, .slice Ao19 t672.length co19] hb; replace HB := BS hb; clear hb; have hcz21 := cz2 BK676; have hcz22 := cz2 BK667))
   refine bodyPost_ret (results_ctt rfl _ _ gb667 40 #[.slice Ao15 t669.length co15, .slice Ao19 t672.length co19] (0, 0) _ rfl (by (with_reducible repeat (first | refine blk_drewN ?_ _ | refine blk_drew ?_ | refine blk_alloc ?_ _)); refine blk_put (cs := #[.slice Ao15 t669.length co15, .slice none 0 0]) ?_ 1 _ rfl; (with_reducible repeat (first | refine blk_drewN ?_ _ | refine blk_drew ?_ | refine blk_alloc ?_ _)); refine blk_put (cs := #[.slice none 0 0, .slice none 0 0]) ?_ 0 _ rfl; (with_reducible repeat (first | refine blk_drewN ?_ _ | refine blk_drew ?_ | refine blk_alloc ?_ _)); exact BK667.out) Try.underlying40 rfl KR) rfl ?_
   exact ⟨_, _, TE, by (with_reducible repeat (first | apply Kd.R_alloc | apply Kd.R_drewN | apply Kd.R_drew)); exact Kd.R_mono (Kd.R_far (p := ⟨gb667, 1, none⟩) (Kd.R_far (p := ⟨gb667, 0, none⟩) (Kd.R_types HO671.out BK667.out (by decide)) (fun _ hk => hk.2) (.slice Ao15 t669.length co15)) (fun _ hk => hk.2) (.slice Ao19 t672.length co19)) (fun _ hk => hk.1), by (with_reducible repeat (first | apply Kd.R_alloc | apply Kd.R_drewN | apply Kd.R_drew)); exact Kd.R_mono (Kd.R_far (p := ⟨gb667, 1, none⟩) (Kd.R_far (p := ⟨gb667, 0, none⟩) (Kd.R_types HO674.out BK667.out (by decide)) (fun _ hk => hk.2) (.slice Ao15 t669.length co15)) (fun _ hk => hk.2) (.slice Ao19 t672.length co19)) (fun _ hk => hk.1), TB⟩
  ·replace c6 := Bool.eq_false_iff.mpr c6
   subst c6
   replace H := iff' H
   simp only [Option.some.injEq, Prod.mk.injEq] at H
   obtain ⟨rfl, rfl, rfl, rfl⟩ := H
   go_enter Try.func45, Try.ntmps45
   go_wp2_with (first | ((with_reducible refine gate_dst (N := 1) rfl ?_); refine bE 1 #[.slice A0_0 l0_0.length c0_0, .slice A0_1 l0_1.length c0_1] 40 ?_; intro gb666 hg w23 hbox hb; have BK666 := Aside0.mk (hbox); have GE666 := bG hg; replace HB := BS hb; clear hb hbox hg) | ((with_reducible refine gate_dst (N := 2) rfl ?_); refine bE 2 #[.slice none 0 0, .slice none 0 0] 40 ?_; intro gb667 hg w24 hbox hb; have BK667 := Aside0.mk (hbox); have GE667 := bG hg; replace HB := BS hb; have NB666_667 := bN BK666 hg; have NB667_666 := bM BK666 hg; replace BK666 := KB BK666 hb; clear hb hbox hg; obtain ⟨hnb25, hnc25⟩ := nn NB666_667; have hcz26 := cz2 BK666) | ((with_reducible refine gate_callee (f := 27) rfl ?_); refine goesL_ (some 8) rfl rfl Try.func27 KR rfl #[.agg #[.slice A0_0 l0_0.length c0_0, .slice A0_1 l0_1.length c0_1]] rfl TA ?_; (with_reducible refine (spec_GoodTurn.calls k _ _ l0_0 _ _ l0_1 true _ ?side1 ?side2 ?side3 ?side4 A2.out).mono ?_); (case side1 => exact CW ((Kd.C_below HR0_0.out HB.out))); (case side2 => exact HC0_0.out); (case side3 => exact CW ((Kd.C_below HR0_1.out HB.out))); (case side4 => exact HC0_1.out); rintro e w27 ⟨rfl, hb⟩; refine ⟨_, rfl, ?_⟩; replace BK666 := KB BK666 hb; replace BK667 := KB BK667 hb; replace HB := BS hb; clear hb; have hcz28 := cz2 BK666) | ((with_reducible refine gate_callee (f := 73) rfl ?_); refine goesL_ (some 13) rfl rfl Try.func73 KR rfl #[.agg #[.slice A0_0 l0_0.length c0_0, .slice A0_1 l0_1.length c0_1]] rfl TA ?_; (with_reducible refine (spec_l12Next.calls k _ _ l0_0 _ _ l0_1 t669 t672 t675 _ ?side1 ?side2 ?side3 ?side4 A4.out).mono ?_); (case side1 => exact CW ((Kd.C_below HR0_0.out HB.out))); (case side2 => exact HC0_0.out); (case side3 => exact CW ((Kd.C_below HR0_1.out HB.out))); (case side4 => exact HC0_1.out); rintro e w29 ⟨v670, v673, rfl, ho0, ho1, hb⟩; refine ⟨_, rfl, ?_⟩; have HO671 := RL ho0; have HO674 := RL ho1; replace BK666 := KB BK666 hb; replace BK667 := KB BK667 hb; replace HB := BS hb; clear hb; (try clear ho0); (try clear ho1)) | ((with_reducible refine gate_dst (N := 5) rfl ?_); refine bE 5 #[.slice none 0 0, .slice none 0 0] 40 ?_; intro gb676 hg w30 hbox hb; replace HO671 := RB HO671 hb; replace HO674 := RB HO674 hb; have BK676 := Aside0.mk (hbox); have GE676 := bG hg; replace HB := BS hb; have NB666_676 := bN BK666 hg; have NB676_666 := bM BK666 hg; replace BK666 := KB BK666 hb; have NB667_676 := bN BK667 hg; have NB676_667 := bM BK667 hg; replace BK667 := KB BK667 hb; clear hb hbox hg; obtain ⟨Ao31, co31, eo31⟩ := Kd.R_slice HO671.out; subst eo31; obtain ⟨hnb32, hnc32⟩ := nn NB676_666; obtain ⟨hnb33, hnc33⟩ := nn NB676_667; have hcz34 := cz2 BK676; obtain ⟨Ao35, co35, eo35⟩ := Kd.R_slice HO674.out; subst eo35) | ((with_reducible refine gate_callee (f := 27) rfl ?_); refine goesL_ (some 17) rfl rfl Try.func27 KR rfl #[.agg #[.slice Ao31 t669.length co31, .slice Ao35 t672.length co35]] rfl TA ?_; (with_reducible refine (spec_GoodTurn.calls k _ _ t669 _ _ t672 false _ ?side1 ?side2 ?side3 ?side4 A5.out).mono ?_); (case side1 => exact RC (RT HO671 BK676)); (case side2 => exact RI HO671); (case side3 => exact RC (RT HO674 BK676)); (case side4 => exact RI HO674); rintro e w36 ⟨rfl, hb⟩; refine ⟨_, rfl, ?_⟩; replace HO671 := RTB HO671 BK676 hb; replace HO674 := RTB HO674 BK676 hb; replace BK666 := KF BK666 hb; replace BK667 := KF BK667 hb; replace BK676 := KP BK676 #[.slice Ao31 t669.length co31, .slice Ao35 t672.length co35] hb; replace HB := BS hb; clear hb; have hcz37 := cz2 BK667))
   refine bodyPost_ret (results_ctt rfl _ _ gb667 40 #[.slice none 0 0, .slice none 0 0] (0, 0) _ rfl (by (with_reducible repeat (first | refine blk_drewN ?_ _ | refine blk_drew ?_ | refine blk_alloc ?_ _)); refine blk_put (cs := #[.slice none 0 0, .slice none 0 0]) ?_ 1 _ rfl; (with_reducible repeat (first | refine blk_drewN ?_ _ | refine blk_drew ?_ | refine blk_alloc ?_ _)); refine blk_put (cs := #[.slice none 0 0, .slice none 0 0]) ?_ 0 _ rfl; (with_reducible repeat (first | refine blk_drewN ?_ _ | refine blk_drew ?_ | refine blk_alloc ?_ _)); exact BK667.out) Try.underlying40 rfl KR) rfl ?_
   exact ⟨_, _, TE, TZ, TZ, TB⟩
 ·replace c3 := Bool.eq_false_iff.mpr c3
  subst c3
  replace H := iff' H
  simp only [Option.some.injEq, Prod.mk.injEq] at H
  obtain ⟨rfl, rfl, rfl, rfl⟩ := H
  go_enter Try.func45, Try.ntmps45
  go_wp2_with (first | ((with_reducible refine gate_dst (N := 1) rfl ?_); refine bE 1 #[.slice A0_0 l0_0.length c0_0, .slice A0_1 l0_1.length c0_1] 40 ?_; intro gb666 hg w38 hbox hb; have BK666 := Aside0.mk (hbox); have GE666 := bG hg; replace HB := BS hb; clear hb hbox hg) | ((with_reducible refine gate_dst (N := 2) rfl ?_); refine bE 2 #[.slice none 0 0, .slice none 0 0] 40 ?_; intro gb667 hg w39 hbox hb; have BK667 := Aside0.mk (hbox); have GE667 := bG hg; replace HB := BS hb; have NB666_667 := bN BK666 hg; have NB667_666 := bM BK666 hg; replace BK666 := KB BK666 hb; clear hb hbox hg; obtain ⟨hnb40, hnc40⟩ := nn NB666_667; have hcz41 := cz2 BK666) | ((with_reducible refine gate_callee (f := 27) rfl ?_); refine goesL_ (some 8) rfl rfl Try.func27 KR rfl #[.agg #[.slice A0_0 l0_0.length c0_0, .slice A0_1 l0_1.length c0_1]] rfl TA ?_; (with_reducible refine (spec_GoodTurn.calls k _ _ l0_0 _ _ l0_1 false _ ?side1 ?side2 ?side3 ?side4 A2.out).mono ?_); (case side1 => exact CW ((Kd.C_below HR0_0.out HB.out))); (case side2 => exact HC0_0.out); (case side3 => exact CW ((Kd.C_below HR0_1.out HB.out))); (case side4 => exact HC0_1.out); rintro e w42 ⟨rfl, hb⟩; refine ⟨_, rfl, ?_⟩; replace BK666 := KB BK666 hb; replace BK667 := KB BK667 hb; replace HB := BS hb; clear hb; have hcz43 := cz2 BK667))
  refine bodyPost_ret (results_ctt rfl _ _ gb667 40 #[.slice none 0 0, .slice none 0 0] (0, 0) _ rfl (by (with_reducible repeat (first | refine blk_drewN ?_ _ | refine blk_drew ?_ | refine blk_alloc ?_ _)); refine blk_put (cs := #[.slice none 0 0, .slice none 0 0]) ?_ 1 _ rfl; (with_reducible repeat (first | refine blk_drewN ?_ _ | refine blk_drew ?_ | refine blk_alloc ?_ _)); refine blk_put (cs := #[.slice none 0 0, .slice none 0 0]) ?_ 0 _ rfl; (with_reducible repeat (first | refine blk_drewN ?_ _ | refine blk_drew ?_ | refine blk_alloc ?_ _)); exact BK667.out) Try.underlying40 rfl KR) rfl ?_
  exact ⟨_, _, TE, TZ, TZ, TB⟩
end
section
/-! ### impl_NextTurn: function 46 -/
def impl_NextTurn.l0 : Nat → Int → List Int → Int → Int → List Int → List Int → Option (List Int × List Int × Int × Bool)
 | 0, _, _, _, _, _, _ => none
 | k + 1, x6, x21, x22, x23, x688000, x688001 => if x23 < x22 then (if 0 ≤ x23 then (if x23 < (x21.length : Int) then (if x23 < (x688001.length : Int) then ((some (x688001.set (x23 : Int).toNat (wrap64 ((rd x688001 x23) + (rd x21 x23))) : List Int)).bind fun y690 => (if 0 ≤ x6 then (if x6 < (x688001.length : Int) then (if (rd y690 x23) > (rd y690 x6) then (impl_NextTurn.l0 k x23 x21 x22 (wrap64 (x23 + 1)) x688000 y690) else (impl_NextTurn.l0 k x6 x21 x22 (wrap64 (x23 + 1)) x688000 y690)) else (none)) else (none))) else (none)) else (none)) else (none)) else (if 0 ≤ x6 then (if x6 < (x688001.length : Int) then ((impl_totalOf.f k x688000).bind fun t694 => ((some (x688001.set (x6 : Int).toNat (wrap64 ((rd x688001 x6) - t694)) : List Int)).bind fun y695 => ((impl_GoodTurn.f k x688000 y695).bind fun t696 => (if t696 = true then (some (x688000, y695, x6, true)) else (some (([] : List Int), ([] : List Int), 0, false)))))) else (none)) else (none))
def impl_NextTurn.f (k : Nat) (l0_0 : List Int) (l0_1 : List Int) : Option (List Int × List Int × Int × Bool) := (impl_GoodTurn.f k l0_0 l0_1).bind fun t680 => (if t680 = true then ((slices_Clone_int_int.f l0_0).bind fun t681 => ((slices_Clone_int_int.f l0_1).bind fun t684 => (impl_NextTurn.l0 k 0 t681 (t681.length : Int) 0 t681 t684))) else (some (([] : List Int), ([] : List Int), 0, false)))
def impl_NextTurn.T3 : Bool × List (List Nat × List Nat) := (true, [([], []), ([0], [0]), ([1], [1]), ([], []), ([3], [3]), ([4, 2], [4]), ([2, 5], [2, 5]), ([], []), ([7, 6, 5, 0, 1, 2, 3, 4, 5, 6, 7], [6, 7])])
def impl_NextTurn.B3 : List Nat := [0, 1, 3, 0, 8, 31, 63, 0, 255]
theorem impl_NextTurn.tab3 : rtab .any (opsOf Try.f46 3) = impl_NextTurn.T3 := by kernel_rfl
theorem impl_NextTurn.bits3 : waitsOk impl_NextTurn.T3.2 impl_NextTurn.B3 = true := by kernel_rfl
def impl_NextTurn.T9 : Bool × List (List Nat × List Nat) := (true, [([], []), ([0], [0]), ([], []), ([1, 2], [1, 2]), ([3], [3]), ([], []), ([5], [5]), ([], []), ([6, 7], [6, 7]), ([8], [8]), ([4, 9], [4, 9])])
def impl_NextTurn.B9 : List Nat := [0, 1, 0, 7, 15, 0, 32, 0, 224, 480, 1023]
theorem impl_NextTurn.tab9 : rtab .any (opsOf Try.f46 9) = impl_NextTurn.T9 := by kernel_rfl
theorem impl_NextTurn.bits9 : waitsOk impl_NextTurn.T9.2 impl_NextTurn.B9 = true := by kernel_rfl
def impl_NextTurn.T12 : Bool × List (List Nat × List Nat) := (true, [([], []), ([0], [0]), ([], []), ([1, 2], [1, 2]), ([3], [3]), ([], []), ([5], [5]), ([6], [6]), ([4, 7], [4, 7]), ([1, 2, 0, 1, 2, 3, 4, 5, 6, 7, 8], [1, 2]), ([9, 8, 7, 0, 1, 2, 3, 4, 5, 6, 7, 8], [8, 9])])
def impl_NextTurn.B12 : List Nat := [0, 1, 0, 7, 15, 0, 32, 96, 255, 511, 1023]
theorem impl_NextTurn.tab12 : rtab .any (opsOf Try.f46 12) = impl_NextTurn.T12 := by kernel_rfl
theorem impl_NextTurn.bits12 : waitsOk impl_NextTurn.T12.2 impl_NextTurn.B12 = true := by kernel_rfl
theorem impl_NextTurn.calls (k : Nat) (A0_0 : Option Addr) (c0_0 : Nat) (l0_0 : List Int) (A0_1 : Option Addr) (c0_1 : Nat) (l0_1 : List Int) (r1 : List Int) (r2 : List Int) (r3 : Int) (r4 : Bool) (w : World) (hr0_0 : Kd.C (Kd.int .i64) w A0_0 l0_0.length l0_0) (hc0_0 : l0_0.length ≤ c0_0) (hr0_1 : Kd.C (Kd.int .i64) w A0_1 l0_1.length l0_1) (hc0_1 : l0_1.length ≤ c0_1) (h : impl_NextTurn.f k l0_0 l0_1 = some (r1, r2, r3, r4)) :
  Calls Try.prog 46 #[.agg #[.slice A0_0 l0_0.length c0_0, .slice A0_1 l0_1.length c0_1]] w fun e w' => ∃ v0_ v1_ : Value, e = .returned (.tuple #[.agg #[v0_, v1_], .int .i64 r3, .bool r4]) ∧ Kd.R (Kd.int .i64) 3 w' w.heap.size (fun k_ => some k_ ≠ (v1_ : Value).ownBlock) v0_ r1 ∧ Kd.R (Kd.int .i64) 3 w' w.heap.size (fun k_ => some k_ ≠ (v0_ : Value).ownBlock) v1_ r2 ∧ Below w.heap.size w w' := by
 have hu40 := Try.underlying40
 have HR0_0 := Aside0.mk hr0_0
 have HC0_0 := Aside0.mk hc0_0
 clear hr0_0 hc0_0
 have HR0_1 := Aside0.mk hr0_1
 have HC0_1 := Aside0.mk hc0_1
 clear hr0_1 hc0_1
 have HB := Aside0.mk (Below.refl w.heap.size w)
 have H : ((impl_GoodTurn.f k l0_0 l0_1).bind fun t680 => (if t680 = true then ((slices_Clone_int_int.f l0_0).bind fun t681 => ((slices_Clone_int_int.f l0_1).bind fun t684 => (impl_NextTurn.l0 k 0 t681 (t681.length : Int) 0 t681 t684))) else (some (([] : List Int), ([] : List Int), 0, false)))) = some (r1, r2, r3, r4) := h
 clear h
 obtain ⟨t680, A2, H⟩ := bnd H
 by_cases c3 : t680 = true
 ·subst c3
  replace H := ift H
  obtain ⟨t681, A4, H⟩ := bnd H
  obtain ⟨t684, A5, H⟩ := bnd H
  have H' := Aside0.mk H
  clear H
  go_enter Try.func46, Try.ntmps46
  try go_wp2_with (first | ((with_reducible refine gate_dst (N := 1) rfl ?_); refine bE 1 #[.slice A0_0 l0_0.length c0_0, .slice A0_1 l0_1.length c0_1] 40 ?_; intro gb678 hg w6 hbox hb; have BK678 := Aside0.mk (hbox); have GE678 := bG hg; replace HB := BS hb; clear hb hbox hg) | ((with_reducible refine gate_dst (N := 2) rfl ?_); refine bE 2 #[.slice none 0 0, .slice none 0 0] 40 ?_; intro gb679 hg w7 hbox hb; have BK679 := Aside0.mk (hbox); have GE679 := bG hg; replace HB := BS hb; have NB678_679 := bN BK678 hg; have NB679_678 := bM BK678 hg; replace BK678 := KB BK678 hb; clear hb hbox hg; obtain ⟨hnb8, hnc8⟩ := nn NB678_679; have hcz9 := cz2 BK678) | ((with_reducible refine gate_callee (f := 29) rfl ?_); refine goesL_ (some 10) rfl rfl Try.func29 KR rfl #[.agg #[.slice A0_0 l0_0.length c0_0, .slice A0_1 l0_1.length c0_1]] rfl TA ?_; (with_reducible refine (impl_GoodTurn.calls k _ _ l0_0 _ _ l0_1 true _ ?side1 ?side2 ?side3 ?side4 A2.out).mono ?_); (case side1 => exact CW ((Kd.C_below HR0_0.out HB.out))); (case side2 => exact HC0_0.out); (case side3 => exact CW ((Kd.C_below HR0_1.out HB.out))); (case side4 => exact HC0_1.out); rintro e w10 ⟨rfl, hb⟩; refine ⟨_, rfl, ?_⟩; replace BK678 := KB BK678 hb; replace BK679 := KB BK679 hb; replace HB := BS hb; clear hb))
  replace BK678 := Aside0.mk (blk_drew BK678.out)
  replace BK679 := Aside0.mk (blk_drew BK679.out)
  replace HB := Aside0.mk (below_drew1 HB.out)
  refine start_ (n := 9) (S := fun w' => w'.cell? ⟨gb678, 0, none⟩ = some (.slice A0_0 l0_0.length c0_0) ∧ w'.cell? ⟨gb678, 1, none⟩ = some (.slice A0_1 l0_1.length c0_1)) (ds := []) #[false, false, false, false, false, false, false, false, false] KR rfl rfl ⟨bc 0 BK678, bc 1 BK678⟩ (fun hHeld => ?_); refine with_tabW impl_NextTurn.tab3 impl_NextTurn.bits3 (fun HT_ HW_ => ?_)
  generalize w10.drew = w11 at BK678 BK679 HB hHeld ⊢
  refine pA 0 13 (mL 9 1) HT_ rfl rfl ?_
  refine pA 3 16 (mL 9 9) HT_ rfl rfl ?_
  refine tA 1 14 (mL 9 11) HT_ HW_ hHeld rfl rfl (by rintro w' ⟨s0, s1⟩; go_simp; with_reducible rfl) ?_
  refine tA 4 17 (mL 9 27) HT_ HW_ hHeld rfl rfl (by rintro w' ⟨s0, s1⟩; go_simp; with_reducible rfl) ?_
  refine join_ (σ := Value × Value × Nat) 1 #[true, true, true, true, true, true, true, true, false] (fun s_ => [(15, s_.1), (18, s_.2.1), (5, .pointer (some ⟨s_.2.2, 0, none⟩)), (19, .agg #[s_.1, s_.2.1])]) (fun s_ w' => (w'.cell? ⟨gb678, 0, none⟩ = some (.slice A0_0 l0_0.length c0_0) ∧ w'.cell? ⟨gb678, 1, none⟩ = some (.slice A0_1 l0_1.length c0_1)) ∧ (Kd.R (Kd.int .i64) 3 w' w.heap.size (fun k_ => some k_ ≠ (s_.2.1 : Value).ownBlock) s_.1 t681) ∧ (Kd.R (Kd.int .i64) 3 w' w.heap.size (fun k_ => some k_ ≠ (s_.1 : Value).ownBlock) s_.2.1 t684) ∧ (w'.heap[gb678]? = some (.cells #[.slice A0_0 l0_0.length c0_0, .slice A0_1 l0_1.length c0_1] 40 (0, 0))) ∧ (w'.heap[gb679]? = some (.cells #[.slice none 0 0, .slice none 0 0] 40 (0, 0))) ∧ (w'.heap[s_.2.2]? = some (.cells #[.slice none 0 0, .slice none 0 0] 40 (0, 0))) ∧ (w.heap.size ≤ s_.2.2) ∧ (w.heap.size ≤ s_.2.2) ∧ (gb678 ≠ s_.2.2) ∧ (s_.2.2 ≠ gb678) ∧ (gb679 ≠ s_.2.2) ∧ (s_.2.2 ≠ gb679) ∧ (Below w.heap.size w w')) ?_ ?_
  rotate_left
  ·intro hCont
   refine two_ (i := 2) (j := 7) (Ni := some 15) (Nj := some 5) #[true, true, true, true, true, false, false, false, false] #[true, true, false, true, true, false, false, true, false] rfl rfl rfl rfl (two_of HT_.out KR) (by decide) (by decide) (fun K hK => ?_) (fun K hK => ?_)
   ·skip
    refine goes_ Try.func72 KR rfl #[.slice A0_0 l0_0.length c0_0] (by rfl) rfl rfl TA ?_
    with_reducible refine (slices_Clone_int_int.calls _ _ l0_0 t681 _ ?side1 ?side2 A4.out).mono ?_
    (case side1 => exact CW ((Kd.C_below HR0_0.out HB.out)))
    (case side2 => exact HC0_0.out)
    rintro e w12 ⟨v682, rfl, ho0, hb⟩
    refine ⟨_, rfl, ?_⟩
    have HO683 := RL ho0
    replace BK678 := KB BK678 hb
    replace BK679 := KB BK679 hb
    replace HB := BS hb
    (try clear hb)
    (try clear hb2)
    (try clear hk)
    (try clear hi)
    (try clear ho0)
    refine hK.out _ _ ⟨bc 0 BK678, bc 1 BK678⟩ (fun hHeld => ?_)
    clear hK K
    refine nA ?_
    refine two_ (i := 5) (j := 7) (Ni := some 18) (Nj := some 5) #[true, true, true, true, true, true, false, false, false] #[true, true, true, true, true, false, false, true, false] rfl rfl rfl rfl (two_of HT_.out KR) (by decide) (by decide) (fun K hK => ?_) (fun K hK => ?_)
    ·skip
     refine goes_ Try.func72 KR rfl #[.slice A0_1 l0_1.length c0_1] (by rfl) rfl rfl TA ?_
     with_reducible refine (slices_Clone_int_int.calls _ _ l0_1 t684 _ ?side1 ?side2 A5.out).mono ?_
     (case side1 => exact CW ((Kd.C_below HR0_1.out HB.out)))
     (case side2 => exact HC0_1.out)
     rintro e w13 ⟨v685, rfl, ho0, hb⟩
     refine ⟨_, rfl, ?_⟩
     have HO686 := RL (NW ho0 HO683)
     replace HO683 := EL HO683 ho0 hb
     replace BK678 := KB BK678 hb
     replace BK679 := KB BK679 hb
     replace HB := BS hb
     (try clear hb)
     (try clear hb2)
     (try clear hk)
     (try clear hi)
     (try clear ho0)
     obtain ⟨Ao14, co14, eo14⟩ := Kd.R_slice HO686.out
     (first | subst eo14 | (injection eo14 with f1_ f2_ f3_; have f4_ := f1_.symm; have f5_ := f3_.symm; clear f1_ f2_ f3_; subst f4_; subst f5_))
     obtain ⟨Ao15, co15, eo15⟩ := Kd.R_slice HO683.out
     (first | subst eo15 | (injection eo15 with f1_ f2_ f3_; have f4_ := f1_.symm; have f5_ := f3_.symm; clear f1_ f2_ f3_; subst f4_; subst f5_))
     refine hK.out _ _ ⟨bc 0 BK678, bc 1 BK678⟩ (fun hHeld => ?_)
     clear hK K
     refine nA ?_
     refine pA 6 19 (mL 9 127) HT_ rfl rfl ?_
     refine one_ (i := 7) (N := some 5) (mL 9 255) rfl rfl (one_of HT_.out KR) (by decide) (fun K hK => ?_)
     refine box_step ?hg (N := 5) ?hd (cs := #[.slice none 0 0, .slice none 0 0]) (t := 40) ?hr ?_; (case hd => rfl); (case hg => rfl); (case hr => first | (go_simp; done) | (go_simp; rfl))
     intro gb687 hg w16 hbox hb
     replace HO683 := RB HO683 hb
     replace HO686 := RB HO686 hb
     have BK687 := Aside0.mk (hbox)
     have GW687 := bG hg
     have GE687 := bG hg
     replace HB := BS hb
     have NB678_687 := bN BK678 hg
     have NB687_678 := bM BK678 hg
     replace BK678 := KB BK678 hb
     have NB679_687 := bN BK679 hg
     have NB687_679 := bM BK679 hg
     replace BK679 := KB BK679 hb
     clear hb hbox hg
     refine hK.out _ _ ⟨bc 0 BK678, bc 1 BK678⟩ (fun hHeld => ?_)
     clear hK K
     refine nA ?_
     exact norm_ (by simp only [putAll, Act.put, List.setIfInBounds_toArray, List.set_cons_zero, List.set_cons_succ]) (hCont (.slice Ao15 t681.length co15, .slice Ao14 t684.length co14, gb687) _ ⟨hHeld, (MO HO683).out, (MO HO686).out, (KW BK678).out, (KW BK679).out, (KW BK687).out, GW687.out, GE687.out, NB678_687.out, NB687_678.out, NB679_687.out, NB687_679.out, TB⟩)
    ·skip
     refine box_step ?hg (N := 5) ?hd (cs := #[.slice none 0 0, .slice none 0 0]) (t := 40) ?hr ?_; (case hd => rfl); (case hg => rfl); (case hr => first | (go_simp; done) | (go_simp; rfl))
     intro gb687 hg w13 hbox hb
     replace HO683 := RB HO683 hb
     have BK687 := Aside0.mk (hbox)
     have GW687 := bG hg
     have GE687 := bG hg
     replace HB := BS hb
     have NB678_687 := bN BK678 hg
     have NB687_678 := bM BK678 hg
     replace BK678 := KB BK678 hb
     have NB679_687 := bN BK679 hg
     have NB687_679 := bM BK679 hg
     replace BK679 := KB BK679 hb
     clear hb hbox hg
     refine hK.out _ _ ⟨bc 0 BK678, bc 1 BK678⟩ (fun hHeld => ?_)
     clear hK K
     refine nA ?_
     refine one_ (i := 5) (N := some 18) (mL 9 191) rfl rfl (one_of HT_.out KR) (by decide) (fun K hK => ?_)
     refine goes_ Try.func72 KR rfl #[.slice A0_1 l0_1.length c0_1] (by rfl) rfl rfl TA ?_
     with_reducible refine (slices_Clone_int_int.calls _ _ l0_1 t684 _ ?side1 ?side2 A5.out).mono ?_
     (case side1 => exact CW ((Kd.C_below HR0_1.out HB.out)))
     (case side2 => exact HC0_1.out)
     rintro e w14 ⟨v685, rfl, ho0, hb⟩
     refine ⟨_, rfl, ?_⟩
     have HO686 := RL (NW ho0 HO683)
     replace HO683 := EL HO683 ho0 hb
     replace BK678 := KB BK678 hb
     replace BK679 := KB BK679 hb
     replace BK687 := KB BK687 hb
     replace HB := BS hb
     (try clear hb)
     (try clear hb2)
     (try clear hk)
     (try clear hi)
     (try clear ho0)
     obtain ⟨Ao15, co15, eo15⟩ := Kd.R_slice HO686.out
     (first | subst eo15 | (injection eo15 with f1_ f2_ f3_; have f4_ := f1_.symm; have f5_ := f3_.symm; clear f1_ f2_ f3_; subst f4_; subst f5_))
     obtain ⟨Ao16, co16, eo16⟩ := Kd.R_slice HO683.out
     (first | subst eo16 | (injection eo16 with f1_ f2_ f3_; have f4_ := f1_.symm; have f5_ := f3_.symm; clear f1_ f2_ f3_; subst f4_; subst f5_))
     refine hK.out _ _ ⟨bc 0 BK678, bc 1 BK678⟩ (fun hHeld => ?_)
     clear hK K
     refine nA ?_
     refine pA 6 19 (mL 9 255) HT_ rfl rfl ?_
     exact norm_ (by simp only [putAll, Act.put, List.setIfInBounds_toArray, List.set_cons_zero, List.set_cons_succ]) (hCont (.slice Ao16 t681.length co16, .slice Ao15 t684.length co15, gb687) _ ⟨hHeld, (MO HO683).out, (MO HO686).out, (KW BK678).out, (KW BK679).out, (KW BK687).out, GW687.out, GE687.out, NB678_687.out, NB687_678.out, NB679_687.out, NB687_679.out, TB⟩)
   ·skip
    refine box_step ?hg (N := 5) ?hd (cs := #[.slice none 0 0, .slice none 0 0]) (t := 40) ?hr ?_; (case hd => rfl); (case hg => rfl); (case hr => first | (go_simp; done) | (go_simp; rfl))
    intro gb687 hg w12 hbox hb
    have BK687 := Aside0.mk (hbox)
    have GW687 := bG hg
    have GE687 := bG hg
    replace HB := BS hb
    have NB678_687 := bN BK678 hg
    have NB687_678 := bM BK678 hg
    replace BK678 := KB BK678 hb
    have NB679_687 := bN BK679 hg
    have NB687_679 := bM BK679 hg
    replace BK679 := KB BK679 hb
    clear hb hbox hg
    refine hK.out _ _ ⟨bc 0 BK678, bc 1 BK678⟩ (fun hHeld => ?_)
    clear hK K
    refine nA ?_
    refine one_ (i := 2) (N := some 15) (mL 9 159) rfl rfl (one_of HT_.out KR) (by decide) (fun K hK => ?_)
    refine goes_ Try.func72 KR rfl #[.slice A0_0 l0_0.length c0_0] (by rfl) rfl rfl TA ?_
    with_reducible refine (slices_Clone_int_int.calls _ _ l0_0 t681 _ ?side1 ?side2 A4.out).mono ?_
    (case side1 => exact CW ((Kd.C_below HR0_0.out HB.out)))
    (case side2 => exact HC0_0.out)
    rintro e w13 ⟨v682, rfl, ho0, hb⟩
    refine ⟨_, rfl, ?_⟩
    have HO683 := RL ho0
    replace BK678 := KB BK678 hb
    replace BK679 := KB BK679 hb
    replace BK687 := KB BK687 hb
    replace HB := BS hb
    (try clear hb)
    (try clear hb2)
    (try clear hk)
    (try clear hi)
    (try clear ho0)
    refine hK.out _ _ ⟨bc 0 BK678, bc 1 BK678⟩ (fun hHeld => ?_)
    clear hK K
    refine nA ?_
    refine one_ (i := 5) (N := some 18) (mL 9 191) rfl rfl (one_of HT_.out KR) (by decide) (fun K hK => ?_)
    refine goes_ Try.func72 KR rfl #[.slice A0_1 l0_1.length c0_1] (by rfl) rfl rfl TA ?_
    with_reducible refine (slices_Clone_int_int.calls _ _ l0_1 t684 _ ?side1 ?side2 A5.out).mono ?_
    (case side1 => exact CW ((Kd.C_below HR0_1.out HB.out)))
    (case side2 => exact HC0_1.out)
    rintro e w14 ⟨v685, rfl, ho0, hb⟩
    refine ⟨_, rfl, ?_⟩
    have HO686 := RL (NW ho0 HO683)
    replace HO683 := EL HO683 ho0 hb
    replace BK678 := KB BK678 hb
    replace BK679 := KB BK679 hb
    replace BK687 := KB BK687 hb
    replace HB := BS hb
    (try clear hb)
    (try clear hb2)
    (try clear hk)
    (try clear hi)
    (try clear ho0)
    obtain ⟨Ao15, co15, eo15⟩ := Kd.R_slice HO686.out
    (first | subst eo15 | (injection eo15 with f1_ f2_ f3_; have f4_ := f1_.symm; have f5_ := f3_.symm; clear f1_ f2_ f3_; subst f4_; subst f5_))
    obtain ⟨Ao16, co16, eo16⟩ := Kd.R_slice HO683.out
    (first | subst eo16 | (injection eo16 with f1_ f2_ f3_; have f4_ := f1_.symm; have f5_ := f3_.symm; clear f1_ f2_ f3_; subst f4_; subst f5_))
    refine hK.out _ _ ⟨bc 0 BK678, bc 1 BK678⟩ (fun hHeld => ?_)
    clear hK K
    refine nA ?_
    refine pA 6 19 (mL 9 255) HT_ rfl rfl ?_
    exact norm_ (by simp only [putAll, Act.put, List.setIfInBounds_toArray, List.set_cons_zero, List.set_cons_succ]) (hCont (.slice Ao16 t681.length co16, .slice Ao15 t684.length co15, gb687) _ ⟨hHeld, (MO HO683).out, (MO HO686).out, (KW BK678).out, (KW BK679).out, (KW BK687).out, GW687.out, GE687.out, NB678_687.out, NB687_678.out, NB679_687.out, NB687_679.out, TB⟩)
  rintro ⟨v682, v685, gb687⟩ w17 ⟨hS_, h0_, h1_, h2_, h3_, h4_, h5_, h6_, h7_, h8_, h9_, h10_, h11_⟩
  have n0_ : Aside0 (Kd.R (Kd.int .i64) 3 w17 w.heap.size (fun k_ => some k_ ≠ (v685 : Value).ownBlock) v682 t681) := ⟨h0_⟩
  have n1_ : Aside0 (Kd.R (Kd.int .i64) 3 w17 w.heap.size (fun k_ => some k_ ≠ (v682 : Value).ownBlock) v685 t684) := ⟨h1_⟩
  have n2_ : Aside0 (w17.heap[gb678]? = some (.cells #[.slice A0_0 l0_0.length c0_0, .slice A0_1 l0_1.length c0_1] 40 (0, 0))) := ⟨h2_⟩
  have n3_ : Aside0 (w17.heap[gb679]? = some (.cells #[.slice none 0 0, .slice none 0 0] 40 (0, 0))) := ⟨h3_⟩
  have n4_ : Aside0 (w17.heap[gb687]? = some (.cells #[.slice none 0 0, .slice none 0 0] 40 (0, 0))) := ⟨h4_⟩
  have n5_ : Aside0 (w.heap.size ≤ gb687) := ⟨h5_⟩
  have n6_ : Aside0 (w.heap.size ≤ gb687) := ⟨h6_⟩
  have n7_ : Aside0 (gb678 ≠ gb687) := ⟨h7_⟩
  have n8_ : Aside0 (gb687 ≠ gb678) := ⟨h8_⟩
  have n9_ : Aside0 (gb679 ≠ gb687) := ⟨h9_⟩
  have n10_ : Aside0 (gb687 ≠ gb679) := ⟨h10_⟩
  have n11_ : Aside0 (Below w.heap.size w w17) := ⟨h11_⟩
  clear BK678
  clear BK679
  clear HB
  clear h0_ h1_ h2_ h3_ h4_ h5_ h6_ h7_ h8_ h9_ h10_ h11_
  have HO683 := n0_
  have HO686 := n1_
  have BK678 := n2_
  have BK679 := n3_
  have BK687 := n4_
  have GW687 := n5_
  have GE687 := n6_
  have NB678_687 := n7_
  have NB687_678 := n8_
  have NB679_687 := n9_
  have NB687_679 := n10_
  have HB := n11_
  clear n0_ n1_ n2_ n3_ n4_ n5_ n6_ n7_ n8_ n9_ n10_ n11_
  have hHeld : w17.cell? ⟨gb678, 0, none⟩ = some (.slice A0_0 l0_0.length c0_0) ∧ w17.cell? ⟨gb678, 1, none⟩ = some (.slice A0_1 l0_1.length c0_1) := hS_
  obtain ⟨Ao18, co18, eo18⟩ := Kd.R_slice HO686.out
  (first | subst eo18 | (injection eo18 with f1_ f2_ f3_; have f4_ := f1_.symm; have f5_ := f3_.symm; clear f1_ f2_ f3_; subst f4_; subst f5_))
  obtain ⟨Ao19, co19, eo19⟩ := Kd.R_slice HO683.out
  (first | subst eo19 | (injection eo19 with f1_ f2_ f3_; have f4_ := f1_.symm; have f5_ := f3_.symm; clear f1_ f2_ f3_; subst f4_; subst f5_))
  refine norm_ (a' := ?_) ?_ ?_
  rotate_left
  ·simp only [putAll, Act.put, List.setIfInBounds_toArray, List.set_cons_zero, List.set_cons_succ]
   rfl
  refine one_ (i := 8) (N := none) (mL 9 511) rfl rfl (one_of HT_.out KR) (by decide) (fun K hK => ?_)
  have hs20 := bc 0 BK687
  have hfs20 := blk_frozen BK687.out 0
  have hns20_0 := NB678_687.out
  have hns20_1 := NB679_687.out
  have hms20_0 := NB687_678.out
  have hms20_1 := NB687_679.out
  have hs21 := bc 1 BK687
  have hfs21 := blk_frozen BK687.out 1
  have hns21_0 := NB678_687.out
  have hns21_1 := NB679_687.out
  have hms21_0 := NB687_678.out
  have hms21_1 := NB687_679.out
  refine skip_ (w1 := ?_) (by rfl) rfl ?_ ?_
  rotate_left
  ·go_simp
   rfl
  refine hK.out _ _ ⟨((cell_far (p := ⟨gb687, _, none⟩) NB678_687.out _).trans (((cell_far (p := ⟨gb687, _, none⟩) NB678_687.out _).trans (hHeld.1)))), ((cell_far (p := ⟨gb687, _, none⟩) NB678_687.out _).trans (((cell_far (p := ⟨gb687, _, none⟩) NB678_687.out _).trans (hHeld.2))))⟩ (fun hHeld => ?_)
  clear hK K
  refine done_ (done_of HT_.out KR) ?_
  have hnb22 := NB687_678.out
  have hnc22 := NB678_687.out
  have hnb23 := NB687_679.out
  have hnc23 := NB679_687.out
  have hcz24 := cz2 BK687
  try go_wp2
  go_loopg [6, 23] k (fun kq v6 v23 w' => ∃ (x6_1 : Int) (x21_1 : List Int) (x23_1 : Int) (x688000_1 : List Int) (x688001_1 : List Int) (u688000 : Value) (u688001 : Value), v6 = .int .i64 x6_1 ∧ v23 = .int .i64 x23_1 ∧ Aside0 (impl_NextTurn.l0 kq x6_1 x21_1 (t681.length : Int) x23_1 x688000_1 x688001_1 = some (r1, r2, r3, r4)) ∧ Aside0 (kq ≤ k) ∧ Aside0 (Kd.R (Kd.int .i64) 3 w' w.heap.size (fun k_ => some k_ ≠ (u688001 : Value).ownBlock) (.slice Ao19 t681.length co19) x21_1) ∧ Aside0 (Kd.R (Kd.int .i64) 3 w' w.heap.size (fun k_ => some k_ ≠ (u688001 : Value).ownBlock) u688000 x688000_1) ∧ Aside0 (Kd.R (Kd.int .i64) 3 w' w.heap.size (fun k_ => some k_ ≠ ((.slice Ao19 t681.length co19) : Value).ownBlock ∧ some k_ ≠ (u688000 : Value).ownBlock) u688001 x688001_1) ∧ Aside0 (w'.heap[gb678]? = some (.cells #[(.slice A0_0 l0_0.length c0_0), (.slice A0_1 l0_1.length c0_1)] 40 (0, 0))) ∧ Aside0 (w'.heap[gb679]? = some (.cells #[(.slice none 0 0), (.slice none 0 0)] 40 (0, 0))) ∧ Aside0 (w'.heap[gb687]? = some (.cells #[u688000, u688001] 40 (0, 0))) ∧ Aside0 (Below w.heap.size w w'))
  case atStart => exact ⟨(0), (t681), (0), (t681), (t684), (.slice Ao19 t681.length co19), (.slice Ao18 t684.length co18), TF, TF, H', ⟨Nat.le_refl _⟩, ⟨by (with_reducible repeat (first | apply Kd.R_alloc | apply Kd.R_drewN | apply Kd.R_drew)); exact Kd.R_mono (Kd.R_far (p := ⟨gb687, 1, none⟩) (Kd.R_far (p := ⟨gb687, 0, none⟩) (Kd.R_types HO683.out BK687.out (by decide)) (fun _ hk => hk.2) (.slice Ao19 t681.length co19)) (fun _ hk => hk.2) (.slice Ao18 t684.length co18)) (fun _ hk => hk.1)⟩, ⟨by (with_reducible repeat (first | apply Kd.R_alloc | apply Kd.R_drewN | apply Kd.R_drew)); exact Kd.R_mono (Kd.R_far (p := ⟨gb687, 1, none⟩) (Kd.R_far (p := ⟨gb687, 0, none⟩) (Kd.R_types HO683.out BK687.out (by decide)) (fun _ hk => hk.2) (.slice Ao19 t681.length co19)) (fun _ hk => hk.2) (.slice Ao18 t684.length co18)) (fun _ hk => hk.1)⟩, ⟨by (with_reducible repeat (first | apply Kd.R_alloc | apply Kd.R_drewN | apply Kd.R_drew)); exact Kd.R_mono (Kd.R_far (p := ⟨gb687, 1, none⟩) (Kd.R_far (p := ⟨gb687, 0, none⟩) (Kd.R_types HO686.out BK687.out (by decide)) (fun _ hk => hk.2) (.slice Ao19 t681.length co19)) (fun _ hk => hk.2) (.slice Ao18 t684.length co18)) (fun _ hk => ⟨hk.1, hk.1⟩)⟩, ⟨TS⟩, ⟨TS⟩, ⟨TS⟩, ⟨TB⟩⟩
  case round =>
   clear H'
   obtain ⟨x6_1, x21_1, x23_1, x688000_1, x688001_1, u688000, u688001, rfl, rfl, HA, HK1, HO_21, HO_688000, HO_688001, BK678, BK679, BK687, HB⟩ := hrel
   have hl21_1 := (Kd.R_reads' HO_21.out).1
   rw [hl21_1] at HO_21
   (try simp only [hl21_1])
   (try simp only [hl21_1] at BK678)
   (try simp only [hl21_1] at BK679)
   (try simp only [hl21_1] at BK687)
   (try simp only [hl21_1] at HO_688000)
   (try simp only [hl21_1] at HO_688001)
   cases gk with
   | zero => exact absurd HA.out (by simp [impl_NextTurn.l0])
   | succ k1 =>
    have H := HA.out
    clear HA
    simp only [impl_NextTurn.l0] at H
    by_cases c25 : x23_1 < (t681.length : Int)
    ·rw [if_pos c25] at H
     have c25b0 : decide (x23_1 < (t681.length : Int)) = true := decide_eq_true c25
     (try simp only [hl21_1] at c25b0)
     clear c25
     obtain ⟨c26, H⟩ := ifn H
     have c26b0 : decide (0 ≤ x23_1) = true := decide_eq_true c26
     clear c26
     obtain ⟨c27, H⟩ := ifn H
     have c27b0 : decide (x23_1 < (x21_1.length : Int)) = true := decide_eq_true c27
     (try simp only [hl21_1] at c27b0)
     clear c27
     obtain ⟨c28, H⟩ := ifn H
     have c28b0 : decide (x23_1 < (x688001_1.length : Int)) = true := decide_eq_true c28
     (try simp only [hl21_1] at c28b0)
     clear c28
     obtain ⟨y690, hy690⟩ : ∃ y_ : List Int, y_ = (x688001_1.set (x23_1 : Int).toNat (wrap64 ((rd x688001_1 x23_1) + (rd x21_1 x23_1)))) := ⟨_, rfl⟩
     replace H : (if 0 ≤ x6_1 then (if x6_1 < (x688001_1.length : Int) then (if (rd y690 x23_1) > (rd y690 x6_1) then (impl_NextTurn.l0 k1 x23_1 x21_1 (t681.length : Int) (wrap64 (x23_1 + 1)) x688000_1 y690) else (impl_NextTurn.l0 k1 x6_1 x21_1 (t681.length : Int) (wrap64 (x23_1 + 1)) x688000_1 y690)) else (none)) else (none)) = some (r1, r2, r3, r4) := by first | (rw [hy690]; with_reducible exact H) | (have H2_ := (Option.bind_some _ _).symm.trans H; rw [hy690]; with_reducible exact H2_) | (have H2_ := (Option.bind_some _ _).symm.trans H; with_reducible exact H2_) | with_reducible exact H | (rw [hy690]; exact H) | exact H
     have Ny690 := Aside0.mk hy690
     clear hy690
     obtain ⟨c30, H⟩ := ifn H
     have c30b0 : decide (0 ≤ x6_1) = true := decide_eq_true c30
     clear c30
     obtain ⟨c31, H⟩ := ifn H
     have c31b0 : decide (x6_1 < (x688001_1.length : Int)) = true := decide_eq_true c31
     (try simp only [hl21_1] at c31b0)
     clear c31
     by_cases c32 : (rd y690 x23_1) > (rd y690 x6_1)
     ·rw [if_pos c32] at H
      have c32b0 : decide ((rd y690 x6_1) < (rd y690 x23_1)) = true := decide_eq_true c32
      clear c32
      have H' := Aside0.mk H
      clear H
      have p688 : 0 ≤ (x23_1 : Int) := TD
      have q688 : x23_1 < (x21_1.length : Int) := TD
      obtain ⟨ad688, e688, hx688_0⟩ := Kd.at_int (Kd.R_reads' HO_21.out).2.2 x23_1 p688 q688
      cases e688
      replace p688 := eq_true p688
      replace q688 := eq_true q688
      have hnb33 := NB687_678.out
      have hnc33 := NB678_687.out
      have hnb34 := NB687_679.out
      have hnc34 := NB679_687.out
      have hcz35 := cz2 BK687
      obtain ⟨Ao36, co36, eo36⟩ := Kd.R_slice HO_688001.out
      subst eo36
      have p689 : 0 ≤ (x23_1 : Int) := TD
      have q689 : x23_1 < (x688001_1.length : Int) := TD
      obtain ⟨ad689, e689, hx689_0⟩ := Kd.at_int (Kd.R_reads' HO_688001.out).2.2 x23_1 p689 q689
      cases e689
      replace p689 := eq_true p689
      replace q689 := eq_true q689
      have p29 : 0 ≤ (x23_1 : Int) := TD
      have q29 : (x23_1 : Int) < ((x688001_1.length : Int) : Int) := TD
      obtain ⟨go29, co29, eo29, gb29, gl29, cl29, HG29⟩ := Kd.R_form HO_688001.out (by omega)
      (first | cases eo29 | (injection eo29 with ea_ en_ ec_; (first | subst ea_ | (injection ea_ with ea_; subst ea_)); subst ec_; clear en_))
      have GB29 := Aside0.mk gb29
      have GG29 := Aside0.mk HG29
      clear gb29 gl29 HG29
      (first | simp only [add_plain] at hx689_0 | skip)
      obtain ⟨hx29_0, hf29_0⟩ := Kd.R_celln 0 HO_688001.out (x23_1 : Int) p29 q29
      replace p29 := eq_true p29
      replace q29 := eq_true q29
      have HP37 := Kd.R_putg HO_688001.out (x23_1 : Int) (wrap64 ((rd x688001_1 x23_1) + (rd x21_1 x23_1)))
      try go_wp2_with (first | ((with_reducible refine gate_store (t := 3) (p := 35) rfl ?_); refine store_event (t := 3) (p := 35) (v := ?vo_w38) (w1 := (wr.setCell ⟨go29, (x23_1 : Int).toNat, none⟩ (.int .i64 (wrap64 ((rd x688001_1 x23_1) + (rd x21_1 x23_1)))))) ?hg ?ho ?hn ?hr ?_; (case ho => rfl); (case hg => rfl); (case hn => rfl); (case hr => first | (go_simp; done) | (go_simp; rfl)); intro w38 hw; have hg : wr.grownBy w38 (some go29) := (by rw [hw]; exact HP37.2); have hp_ : Kd.R (Kd.int .i64) 3 w38 w.heap.size (fun k_ => some k_ ≠ (.slice (some ad688) x21_1.length co19 : Value).ownBlock ∧ some k_ ≠ (u688000 : Value).ownBlock) (.slice (some ⟨go29, 0, none⟩) x688001_1.length co36) y690 := (by rw [hw, Ny690.out]; exact HP37.1); clear HP37; replace HO_21 := Aside0.mk (Kd.R_after (v := (.slice (some ⟨go29, 0, none⟩) x688001_1.length co36)) (v1 := (.slice (some ⟨go29, 0, none⟩) x688001_1.length co36)) (ok := (fun _ => True)) (by (with_reducible repeat (first | apply Kd.R_alloc | apply Kd.R_drewN | apply Kd.R_drew)); exact Kd.R_mono HO_21.out (fun _ hk => ⟨trivial, hk⟩)) hg (.inl rfl)); replace HO_688000 := Aside0.mk (Kd.R_after (v := (.slice (some ⟨go29, 0, none⟩) x688001_1.length co36)) (v1 := (.slice (some ⟨go29, 0, none⟩) x688001_1.length co36)) (ok := (fun _ => True)) (by (with_reducible repeat (first | apply Kd.R_alloc | apply Kd.R_drewN | apply Kd.R_drew)); exact Kd.R_mono HO_688000.out (fun _ hk => ⟨trivial, hk⟩)) hg (.inl rfl)); replace BK678 := Aside0.mk (blk_grown (g := gb678) (o := .cells #[.slice A0_0 l0_0.length c0_0, .slice A0_1 l0_1.length c0_1] 40 (0, 0)) (KW BK678).out hg (Kd.R_ne HO_688001.out BK678.out (by decide))); replace BK679 := Aside0.mk (blk_grown (g := gb679) (o := .cells #[.slice none 0 0, .slice none 0 0] 40 (0, 0)) (KW BK679).out hg (Kd.R_ne HO_688001.out BK679.out (by decide))); replace BK687 := Aside0.mk (blk_grown (g := gb687) (o := .cells #[u688000, .slice (some ⟨go29, 0, none⟩) x688001_1.length co36] 40 (0, 0)) (KW BK687).out hg (Kd.R_ne HO_688001.out BK687.out (by decide))); replace HO_688001 := Aside0.mk (hp_); replace HB := Aside0.mk ((by rw [hw]; exact below_set (HB.out) GB29.out : Below w.heap.size w w38)); clear hg hw hp_))
      replace HO_21 := Aside0.mk (Kd.R_drew HO_21.out)
      replace HO_688000 := Aside0.mk (Kd.R_drew HO_688000.out)
      replace HO_688001 := Aside0.mk (Kd.R_drew HO_688001.out)
      replace BK678 := Aside0.mk (blk_drew BK678.out)
      replace BK679 := Aside0.mk (blk_drew BK679.out)
      replace BK687 := Aside0.mk (blk_drew BK687.out)
      replace HB := Aside0.mk (below_drew1 HB.out)
      have p691 : 0 ≤ (x23_1 : Int) := TD
      have q691 : x23_1 < (y690.length : Int) := (by have h_ : (x23_1 : Int) < ((x688001_1.length : Int) : Int) := TD; first | (have e_ := (Kd.R_reads' HO_688001.out).1; omega) | simpa only [Ny690.out, List.length_set] using h_)
      have ql691 : ((x23_1 : Int) < ((x688001_1.length : Int) : Int)) = True := eq_true TD
      obtain ⟨ad691, e691, hx691_0⟩ := Kd.at_int (Kd.R_reads' HO_688001.out).2.2 x23_1 p691 q691
      obtain rfl : (⟨go29, 0, none⟩ : Addr) = ad691 := (by injection e691)
      (first | simp only [add_plain] at hx691_0 | simp only [add_at] at hx691_0 | simp only [Addr.add, Nat.zero_add] at hx691_0 | skip)
      replace p691 := eq_true p691
      replace q691 := eq_true q691
      have p692 : 0 ≤ (x6_1 : Int) := TD
      have q692 : x6_1 < (y690.length : Int) := (by have h_ : (x6_1 : Int) < ((x688001_1.length : Int) : Int) := TD; first | (have e_ := (Kd.R_reads' HO_688001.out).1; omega) | simpa only [Ny690.out, List.length_set] using h_)
      have ql692 : ((x6_1 : Int) < ((x688001_1.length : Int) : Int)) = True := eq_true TD
      obtain ⟨ad692, e692, hx692_0⟩ := Kd.at_int (Kd.R_reads' HO_688001.out).2.2 x6_1 p692 q692
      obtain rfl : (⟨go29, 0, none⟩ : Addr) = ad692 := (by injection e692)
      (first | simp only [add_plain] at hx692_0 | simp only [add_at] at hx692_0 | simp only [Addr.add, Nat.zero_add] at hx692_0 | skip)
      replace p692 := eq_true p692
      replace q692 := eq_true q692
      refine start_ (n := 11) (S := fun w' => w'.cell? ⟨gb687, 0, none⟩ = some (u688000) ∧ w'.cell? ⟨gb687, 1, none⟩ = some (.slice (some ⟨go29, 0, none⟩) x688001_1.length co36) ∧ w'.cell? ⟨go29, (x23_1).toNat, none⟩ = some (.int .i64 (rd y690 x23_1)) ∧ w'.cell? ⟨go29, (x6_1).toNat, none⟩ = some (.int .i64 (rd y690 x6_1))) (ds := []) #[false, false, false, false, false, false, false, false, false, false, false] KR rfl rfl ⟨bc 0 BK687, bc 1 BK687, hx691_0, hx692_0⟩ (fun hHeld => ?_); refine with_tabW impl_NextTurn.tab9 impl_NextTurn.bits9 (fun HT_ HW_ => ?_)
      generalize w38.drew = w39 at HO_21 HO_688000 HO_688001 BK678 BK679 BK687 HB hx691_0 hx692_0 hHeld ⊢
      refine pA 0 36 (mL 11 1) HT_ rfl rfl ?_
      refine pA 2 38 (mL 11 5) HT_ rfl rfl ?_
      refine pA 5 41 (mL 11 37) HT_ rfl rfl ?_
      refine pA 7 43 (mL 11 165) HT_ rfl rfl ?_
      refine tA 1 37 (mL 11 167) HT_ HW_ hHeld rfl rfl (by rintro w' ⟨s0, s1, s2, s3⟩; go_simp; with_reducible rfl) ?_
      refine pA 3 39 (mL 11 175) HT_ rfl rfl ?_
      refine tA 4 40 (mL 11 191) HT_ HW_ hHeld rfl rfl (by rintro w' ⟨s0, s1, s2, s3⟩; go_simp; with_reducible rfl) ?_
      refine tA 6 42 (mL 11 255) HT_ HW_ hHeld rfl rfl (by rintro w' ⟨s0, s1, s2, s3⟩; go_simp; with_reducible rfl) ?_
      refine pA 8 44 (mL 11 511) HT_ rfl rfl ?_
      refine tA 9 45 (mL 11 1023) HT_ HW_ hHeld rfl rfl (by rintro w' ⟨s0, s1, s2, s3⟩; go_simp; with_reducible rfl) ?_
      refine pA 10 46 (mL 11 2047) HT_ rfl rfl ?_
      refine done_ (done_of HT_.out KR) ?_
      try go_wp2
      (try simp only [← hl21_1])
      go_roundg k1
      case measure => have := HK1.out; omega
      case rel => exact ⟨(x23_1), (x21_1), (wrap64 (x23_1 + 1)), (x688000_1), (y690), (u688000), (.slice (some ⟨go29, 0, none⟩) x688001_1.length co36), TF, TF, H', ⟨TM⟩, ⟨by (try simp only [hl21_1]); (with_reducible repeat (first | apply Kd.R_alloc | apply Kd.R_drewN | apply Kd.R_drew)); exact Kd.R_mono HO_21.out (fun _ hk => hk.2)⟩, ⟨by (try simp only [hl21_1]); (with_reducible repeat (first | apply Kd.R_alloc | apply Kd.R_drewN | apply Kd.R_drew)); exact Kd.R_mono HO_688000.out (fun _ hk => hk.2)⟩, ⟨by (try simp only [hl21_1]); (with_reducible repeat (first | apply Kd.R_alloc | apply Kd.R_drewN | apply Kd.R_drew)); exact HO_688001.out⟩, ⟨by (try simp only [hl21_1]); (with_reducible repeat (first | refine blk_drewN ?_ _ | refine blk_drew ?_ | refine blk_alloc ?_ _)); exact BK678.out⟩, ⟨by (try simp only [hl21_1]); (with_reducible repeat (first | refine blk_drewN ?_ _ | refine blk_drew ?_ | refine blk_alloc ?_ _)); exact BK679.out⟩, ⟨by (try simp only [hl21_1]); (with_reducible repeat (first | refine blk_drewN ?_ _ | refine blk_drew ?_ | refine blk_alloc ?_ _)); exact BK687.out⟩, ⟨TB⟩⟩
     ·rw [if_neg c32] at H
      have c32b0 : decide ((rd y690 x6_1) < (rd y690 x23_1)) = false := decide_eq_false c32
      clear c32
      have H' := Aside0.mk H
      clear H
      have p688 : 0 ≤ (x23_1 : Int) := TD
      have q688 : x23_1 < (x21_1.length : Int) := TD
      obtain ⟨ad688, e688, hx688_0⟩ := Kd.at_int (Kd.R_reads' HO_21.out).2.2 x23_1 p688 q688
      cases e688
      replace p688 := eq_true p688
      replace q688 := eq_true q688
      have hnb40 := NB687_678.out
      have hnc40 := NB678_687.out
      have hnb41 := NB687_679.out
      have hnc41 := NB679_687.out
      have hcz42 := cz2 BK687
      obtain ⟨Ao43, co43, eo43⟩ := Kd.R_slice HO_688001.out
      subst eo43
      have p689 : 0 ≤ (x23_1 : Int) := TD
      have q689 : x23_1 < (x688001_1.length : Int) := TD
      obtain ⟨ad689, e689, hx689_0⟩ := Kd.at_int (Kd.R_reads' HO_688001.out).2.2 x23_1 p689 q689
      cases e689
      replace p689 := eq_true p689
      replace q689 := eq_true q689
      have p29 : 0 ≤ (x23_1 : Int) := TD
      have q29 : (x23_1 : Int) < ((x688001_1.length : Int) : Int) := TD
      obtain ⟨go29, co29, eo29, gb29, gl29, cl29, HG29⟩ := Kd.R_form HO_688001.out (by omega)
      (first | cases eo29 | (injection eo29 with ea_ en_ ec_; (first | subst ea_ | (injection ea_ with ea_; subst ea_)); subst ec_; clear en_))
      have GB29 := Aside0.mk gb29
      have GG29 := Aside0.mk HG29
      clear gb29 gl29 HG29
      (first | simp only [add_plain] at hx689_0 | skip)
      obtain ⟨hx29_0, hf29_0⟩ := Kd.R_celln 0 HO_688001.out (x23_1 : Int) p29 q29
      replace p29 := eq_true p29
      replace q29 := eq_true q29
      have HP44 := Kd.R_putg HO_688001.out (x23_1 : Int) (wrap64 ((rd x688001_1 x23_1) + (rd x21_1 x23_1)))
      try go_wp2_with (first | ((with_reducible refine gate_store (t := 3) (p := 35) rfl ?_); refine store_event (t := 3) (p := 35) (v := ?vo_w45) (w1 := (wr.setCell ⟨go29, (x23_1 : Int).toNat, none⟩ (.int .i64 (wrap64 ((rd x688001_1 x23_1) + (rd x21_1 x23_1)))))) ?hg ?ho ?hn ?hr ?_; (case ho => rfl); (case hg => rfl); (case hn => rfl); (case hr => first | (go_simp; done) | (go_simp; rfl)); intro w45 hw; have hg : wr.grownBy w45 (some go29) := (by rw [hw]; exact HP44.2); have hp_ : Kd.R (Kd.int .i64) 3 w45 w.heap.size (fun k_ => some k_ ≠ (.slice (some ad688) x21_1.length co19 : Value).ownBlock ∧ some k_ ≠ (u688000 : Value).ownBlock) (.slice (some ⟨go29, 0, none⟩) x688001_1.length co43) y690 := (by rw [hw, Ny690.out]; exact HP44.1); clear HP44; replace HO_21 := Aside0.mk (Kd.R_after (v := (.slice (some ⟨go29, 0, none⟩) x688001_1.length co43)) (v1 := (.slice (some ⟨go29, 0, none⟩) x688001_1.length co43)) (ok := (fun _ => True)) (by (with_reducible repeat (first | apply Kd.R_alloc | apply Kd.R_drewN | apply Kd.R_drew)); exact Kd.R_mono HO_21.out (fun _ hk => ⟨trivial, hk⟩)) hg (.inl rfl)); replace HO_688000 := Aside0.mk (Kd.R_after (v := (.slice (some ⟨go29, 0, none⟩) x688001_1.length co43)) (v1 := (.slice (some ⟨go29, 0, none⟩) x688001_1.length co43)) (ok := (fun _ => True)) (by (with_reducible repeat (first | apply Kd.R_alloc | apply Kd.R_drewN | apply Kd.R_drew)); exact Kd.R_mono HO_688000.out (fun _ hk => ⟨trivial, hk⟩)) hg (.inl rfl)); replace BK678 := Aside0.mk (blk_grown (g := gb678) (o := .cells #[.slice A0_0 l0_0.length c0_0, .slice A0_1 l0_1.length c0_1] 40 (0, 0)) (KW BK678).out hg (Kd.R_ne HO_688001.out BK678.out (by decide))); replace BK679 := Aside0.mk (blk_grown (g := gb679) (o := .cells #[.slice none 0 0, .slice none 0 0] 40 (0, 0)) (KW BK679).out hg (Kd.R_ne HO_688001.out BK679.out (by decide))); replace BK687 := Aside0.mk (blk_grown (g := gb687) (o := .cells #[u688000, .slice (some ⟨go29, 0, none⟩) x688001_1.length co43] 40 (0, 0)) (KW BK687).out hg (Kd.R_ne HO_688001.out BK687.out (by decide))); replace HO_688001 := Aside0.mk (hp_); replace HB := Aside0.mk ((by rw [hw]; exact below_set (HB.out) GB29.out : Below w.heap.size w w45)); clear hg hw hp_))
      replace HO_21 := Aside0.mk (Kd.R_drew HO_21.out)
      replace HO_688000 := Aside0.mk (Kd.R_drew HO_688000.out)
      replace HO_688001 := Aside0.mk (Kd.R_drew HO_688001.out)
      replace BK678 := Aside0.mk (blk_drew BK678.out)
      replace BK679 := Aside0.mk (blk_drew BK679.out)
      replace BK687 := Aside0.mk (blk_drew BK687.out)
      replace HB := Aside0.mk (below_drew1 HB.out)
      have p691 : 0 ≤ (x23_1 : Int) := TD
      have q691 : x23_1 < (y690.length : Int) := (by have h_ : (x23_1 : Int) < ((x688001_1.length : Int) : Int) := TD; first | (have e_ := (Kd.R_reads' HO_688001.out).1; omega) | simpa only [Ny690.out, List.length_set] using h_)
      have ql691 : ((x23_1 : Int) < ((x688001_1.length : Int) : Int)) = True := eq_true TD
      obtain ⟨ad691, e691, hx691_0⟩ := Kd.at_int (Kd.R_reads' HO_688001.out).2.2 x23_1 p691 q691
      obtain rfl : (⟨go29, 0, none⟩ : Addr) = ad691 := (by injection e691)
      (first | simp only [add_plain] at hx691_0 | simp only [add_at] at hx691_0 | simp only [Addr.add, Nat.zero_add] at hx691_0 | skip)
      replace p691 := eq_true p691
      replace q691 := eq_true q691
      have p692 : 0 ≤ (x6_1 : Int) := TD
      have q692 : x6_1 < (y690.length : Int) := (by have h_ : (x6_1 : Int) < ((x688001_1.length : Int) : Int) := TD; first | (have e_ := (Kd.R_reads' HO_688001.out).1; omega) | simpa only [Ny690.out, List.length_set] using h_)
      have ql692 : ((x6_1 : Int) < ((x688001_1.length : Int) : Int)) = True := eq_true TD
      obtain ⟨ad692, e692, hx692_0⟩ := Kd.at_int (Kd.R_reads' HO_688001.out).2.2 x6_1 p692 q692
      obtain rfl : (⟨go29, 0, none⟩ : Addr) = ad692 := (by injection e692)
      (first | simp only [add_plain] at hx692_0 | simp only [add_at] at hx692_0 | simp only [Addr.add, Nat.zero_add] at hx692_0 | skip)
      replace p692 := eq_true p692
      replace q692 := eq_true q692
      refine start_ (n := 11) (S := fun w' => w'.cell? ⟨gb687, 0, none⟩ = some (u688000) ∧ w'.cell? ⟨gb687, 1, none⟩ = some (.slice (some ⟨go29, 0, none⟩) x688001_1.length co43) ∧ w'.cell? ⟨go29, (x23_1).toNat, none⟩ = some (.int .i64 (rd y690 x23_1)) ∧ w'.cell? ⟨go29, (x6_1).toNat, none⟩ = some (.int .i64 (rd y690 x6_1))) (ds := []) #[false, false, false, false, false, false, false, false, false, false, false] KR rfl rfl ⟨bc 0 BK687, bc 1 BK687, hx691_0, hx692_0⟩ (fun hHeld => ?_); refine with_tabW impl_NextTurn.tab9 impl_NextTurn.bits9 (fun HT_ HW_ => ?_)
      generalize w45.drew = w46 at HO_21 HO_688000 HO_688001 BK678 BK679 BK687 HB hx691_0 hx692_0 hHeld ⊢
      refine pA 0 36 (mL 11 1) HT_ rfl rfl ?_
      refine pA 2 38 (mL 11 5) HT_ rfl rfl ?_
      refine pA 5 41 (mL 11 37) HT_ rfl rfl ?_
      refine pA 7 43 (mL 11 165) HT_ rfl rfl ?_
      refine tA 1 37 (mL 11 167) HT_ HW_ hHeld rfl rfl (by rintro w' ⟨s0, s1, s2, s3⟩; go_simp; with_reducible rfl) ?_
      refine pA 3 39 (mL 11 175) HT_ rfl rfl ?_
      refine tA 4 40 (mL 11 191) HT_ HW_ hHeld rfl rfl (by rintro w' ⟨s0, s1, s2, s3⟩; go_simp; with_reducible rfl) ?_
      refine tA 6 42 (mL 11 255) HT_ HW_ hHeld rfl rfl (by rintro w' ⟨s0, s1, s2, s3⟩; go_simp; with_reducible rfl) ?_
      refine pA 8 44 (mL 11 511) HT_ rfl rfl ?_
      refine tA 9 45 (mL 11 1023) HT_ HW_ hHeld rfl rfl (by rintro w' ⟨s0, s1, s2, s3⟩; go_simp; with_reducible rfl) ?_
      refine pA 10 46 (mL 11 2047) HT_ rfl rfl ?_
      refine done_ (done_of HT_.out KR) ?_
      try go_wp2
      (try simp only [← hl21_1])
      go_roundg k1
      case measure => have := HK1.out; omega
      case rel => exact ⟨(x6_1), (x21_1), (wrap64 (x23_1 + 1)), (x688000_1), (y690), (u688000), (.slice (some ⟨go29, 0, none⟩) x688001_1.length co43), TF, TF, H', ⟨TM⟩, ⟨by (try simp only [hl21_1]); (with_reducible repeat (first | apply Kd.R_alloc | apply Kd.R_drewN | apply Kd.R_drew)); exact Kd.R_mono HO_21.out (fun _ hk => hk.2)⟩, ⟨by (try simp only [hl21_1]); (with_reducible repeat (first | apply Kd.R_alloc | apply Kd.R_drewN | apply Kd.R_drew)); exact Kd.R_mono HO_688000.out (fun _ hk => hk.2)⟩, ⟨by (try simp only [hl21_1]); (with_reducible repeat (first | apply Kd.R_alloc | apply Kd.R_drewN | apply Kd.R_drew)); exact HO_688001.out⟩, ⟨by (try simp only [hl21_1]); (with_reducible repeat (first | refine blk_drewN ?_ _ | refine blk_drew ?_ | refine blk_alloc ?_ _)); exact BK678.out⟩, ⟨by (try simp only [hl21_1]); (with_reducible repeat (first | refine blk_drewN ?_ _ | refine blk_drew ?_ | refine blk_alloc ?_ _)); exact BK679.out⟩, ⟨by (try simp only [hl21_1]); (with_reducible repeat (first | refine blk_drewN ?_ _ | refine blk_drew ?_ | refine blk_alloc ?_ _)); exact BK687.out⟩, ⟨TB⟩⟩
    ·rw [if_neg c25] at H
     have c25b0 : decide (x23_1 < (t681.length : Int)) = false := decide_eq_false c25
     (try simp only [hl21_1] at c25b0)
     clear c25
     obtain ⟨c47, H⟩ := ifn H
     have c47b0 : decide (0 ≤ x6_1) = true := decide_eq_true c47
     clear c47
     obtain ⟨c48, H⟩ := ifn H
     have c48b0 : decide (x6_1 < (x688001_1.length : Int)) = true := decide_eq_true c48
     (try simp only [hl21_1] at c48b0)
     clear c48
     obtain ⟨t694, A49, H⟩ := bnd H
     obtain ⟨y695, hy695⟩ : ∃ y_ : List Int, y_ = (x688001_1.set (x6_1 : Int).toNat (wrap64 ((rd x688001_1 x6_1) - t694))) := ⟨_, rfl⟩
     replace H : ((impl_GoodTurn.f k1 x688000_1 y695).bind fun t696 => (if t696 = true then (some (x688000_1, y695, x6_1, true)) else (some (([] : List Int), ([] : List Int), 0, false)))) = some (r1, r2, r3, r4) := by first | (rw [hy695]; with_reducible exact H) | (have H2_ := (Option.bind_some _ _).symm.trans H; rw [hy695]; with_reducible exact H2_) | (have H2_ := (Option.bind_some _ _).symm.trans H; with_reducible exact H2_) | with_reducible exact H | (rw [hy695]; exact H) | exact H
     have Ny695 := Aside0.mk hy695
     clear hy695
     obtain ⟨t696, A51, H⟩ := bnd H
     by_cases c52 : t696 = true
     ·subst c52
      replace H := ift H
      simp only [Option.some.injEq, Prod.mk.injEq] at H
      obtain ⟨rfl, rfl, rfl, rfl⟩ := H
      try go_wp2
      replace HO_21 := Aside0.mk (Kd.R_drew HO_21.out)
      replace HO_688000 := Aside0.mk (Kd.R_drew HO_688000.out)
      replace HO_688001 := Aside0.mk (Kd.R_drew HO_688001.out)
      replace BK678 := Aside0.mk (blk_drew BK678.out)
      replace BK679 := Aside0.mk (blk_drew BK679.out)
      replace BK687 := Aside0.mk (blk_drew BK687.out)
      replace HB := Aside0.mk (below_drew1 HB.out)
      obtain ⟨Ao54, co54, eo54⟩ := Kd.R_slice HO_688001.out
      (first | subst eo54 | (injection eo54 with f1_ f2_ f3_; have f4_ := f1_.symm; have f5_ := f3_.symm; clear f1_ f2_ f3_; subst f4_; subst f5_))
      have p693 : 0 ≤ (x6_1 : Int) := TD
      have q693 : x6_1 < (x688001_1.length : Int) := TD
      obtain ⟨ad693, e693, hx693_0⟩ := Kd.at_int (Kd.R_reads' HO_688001.out).2.2 x6_1 p693 q693
      cases e693
      replace p693 := eq_true p693
      replace q693 := eq_true q693
      obtain ⟨Ao55, co55, eo55⟩ := Kd.R_slice HO_688000.out
      (first | subst eo55 | (injection eo55 with f1_ f2_ f3_; have f4_ := f1_.symm; have f5_ := f3_.symm; clear f1_ f2_ f3_; subst f4_; subst f5_))
      refine start_ (n := 11) (S := fun w' => w'.cell? ⟨gb687, 0, none⟩ = some (.slice Ao55 x688000_1.length co55) ∧ w'.cell? ⟨gb687, 1, none⟩ = some (.slice (some ad693) x688001_1.length co54) ∧ w'.cell? (ad693.add (x6_1).toNat) = some (.int .i64 (rd x688001_1 x6_1))) (ds := [10]) #[false, false, false, false, false, false, false, false, false, false, false] KR rfl rfl ⟨bc 0 BK687, bc 1 BK687, hx693_0⟩ (fun hHeld => ?_); refine with_tabW impl_NextTurn.tab12 impl_NextTurn.bits12 (fun HT_ HW_ => ?_)
      generalize wr.drew = w53 at HO_21 HO_688000 HO_688001 BK678 BK679 BK687 HB hx693_0 hHeld ⊢
      refine pA 0 49 (mL 11 1) HT_ rfl rfl ?_
      refine pA 2 51 (mL 11 5) HT_ rfl rfl ?_
      refine pA 5 54 (mL 11 37) HT_ rfl rfl ?_
      refine tA 1 50 (mL 11 39) HT_ HW_ hHeld rfl rfl (by rintro w' ⟨s0, s1, s2⟩; go_simp; with_reducible rfl) ?_
      refine pA 3 52 (mL 11 47) HT_ rfl rfl ?_
      refine tA 4 53 (mL 11 63) HT_ HW_ hHeld rfl rfl (by rintro w' ⟨s0, s1, s2⟩; go_simp; with_reducible rfl) ?_
      refine tA 6 55 (mL 11 127) HT_ HW_ hHeld rfl rfl (by rintro w' ⟨s0, s1, s2⟩; go_simp; with_reducible rfl) ?_
      refine one_ (i := 7) (N := some 56) (mL 11 255) rfl rfl (one_of HT_.out KR) (by decide) (fun K hK => ?_)
      refine goes_ Try.func62 KR rfl #[.slice Ao55 x688000_1.length co55] (by rfl) rfl rfl TA ?_
      with_reducible refine (impl_totalOf.calls k1 _ _ x688000_1 t694 _ ?side1 ?side2 A49.out).mono ?_
      (case side1 => exact CW ((Kd.R_reads' HO_688000.out).2.2))
      (case side2 => exact RI HO_688000)
      rintro e w53q ⟨rfl, ⟨nd, hq_⟩⟩
      replace hq_ := hq_.symm
      replace HO_21 := Aside0.mk (Kd.R_at hq_ HO_21.out)
      replace HO_688000 := Aside0.mk (Kd.R_at hq_ HO_688000.out)
      replace HO_688001 := Aside0.mk (Kd.R_at hq_ HO_688001.out)
      replace BK678 := Aside0.mk (blk_at hq_ BK678.out)
      replace BK679 := Aside0.mk (blk_at hq_ BK679.out)
      replace BK687 := Aside0.mk (blk_at hq_ BK687.out)
      replace HB := Aside0.mk (below_at hq_ HB.out)
      replace hx693_0 := cell_at hq_ hx693_0
      clear hq_
      refine ⟨_, rfl, ?_⟩
      have p50 : 0 ≤ (x6_1 : Int) := TD
      have q50 : (x6_1 : Int) < ((x688001_1.length : Int) : Int) := TD
      obtain ⟨go50, co50, eo50, gb50, gl50, cl50, HG50⟩ := Kd.R_form HO_688001.out (by omega)
      (first | cases eo50 | (injection eo50 with ea_ en_ ec_; (first | subst ea_ | (injection ea_ with ea_; subst ea_)); subst ec_; clear en_))
      have GB50 := Aside0.mk gb50
      have GG50 := Aside0.mk HG50
      clear gb50 gl50 HG50
      (first | simp only [add_plain] at hx693_0 | skip)
      obtain ⟨hx50_0, hf50_0⟩ := Kd.R_celln 0 HO_688001.out (x6_1 : Int) p50 q50
      replace p50 := eq_true p50
      replace q50 := eq_true q50
      have HP56 := Kd.R_putn HO_688001.out (x6_1 : Int) (wrap64 ((rd x688001_1 x6_1) - t694))
      rw [← Ny695.out] at HP56
      have HQ56 := Aside0.mk HP56
      clear HP56
      refine hK.out _ _ ⟨bc 0 BK687, bc 1 BK687, (by first | exact hx693_0 | (simp only [add_plain]; exact hx693_0))⟩ (fun hHeld => ?_)
      clear hK K
      refine nA ?_
      refine pA 8 57 (mL 11 511) HT_ rfl rfl ?_
      refine pA 9 58 (mL 11 1023) HT_ rfl rfl ?_
      refine last_ (i := 10) (N := none) (mL 11 2047) rfl rfl (one_of HT_.out KR) (by decide) (fun K hK => ?_)
      refine skip_ (w1 := ?_) (by rfl) rfl ?_ ?_
      rotate_left
      ·go_simp
       rfl
      refine hK.out _ _ ?_
      clear hK K
      refine done_ (done_of HT_.out KR) ?_
      have n0_ : Aside0 (Kd.R (Kd.int .i64) 3 (w53q.setCell ⟨go50, (x6_1 : Int).toNat, none⟩ (.int .i64 (wrap64 ((rd x688001_1 x6_1) - t694)))) w.heap.size (fun k_ => some k_ ≠ (.slice (some ⟨go50, 0, none⟩) x688001_1.length co54 : Value).ownBlock) (.slice Ao19 x21_1.length co19) x21_1) := ⟨by (with_reducible repeat (first | apply Kd.R_alloc | apply Kd.R_drewN | apply Kd.R_drew)); exact Kd.R_mono (Kd.R_far (p := ⟨go50, (x6_1 : Int).toNat, none⟩) (Kd.R_mono HO_21.out (fun k_ hk => (⟨hk, fun e_ => hk (by rw [e_]; rfl)⟩ : _ ∧ k_ ≠ go50))) (fun _ hk => hk.2) (.int .i64 (wrap64 ((rd x688001_1 x6_1) - t694)))) (fun _ hk => hk.1)⟩
      have n1_ : Aside0 (Kd.R (Kd.int .i64) 3 (w53q.setCell ⟨go50, (x6_1 : Int).toNat, none⟩ (.int .i64 (wrap64 ((rd x688001_1 x6_1) - t694)))) w.heap.size (fun k_ => some k_ ≠ (.slice (some ⟨go50, 0, none⟩) x688001_1.length co54 : Value).ownBlock) (.slice Ao55 x688000_1.length co55) x688000_1) := ⟨by (with_reducible repeat (first | apply Kd.R_alloc | apply Kd.R_drewN | apply Kd.R_drew)); exact Kd.R_mono (Kd.R_far (p := ⟨go50, (x6_1 : Int).toNat, none⟩) (Kd.R_mono HO_688000.out (fun k_ hk => (⟨hk, fun e_ => hk (by rw [e_]; rfl)⟩ : _ ∧ k_ ≠ go50))) (fun _ hk => hk.2) (.int .i64 (wrap64 ((rd x688001_1 x6_1) - t694)))) (fun _ hk => hk.1)⟩
      have n2_ : Aside0 (Kd.R (Kd.int .i64) 3 (w53q.setCell ⟨go50, (x6_1 : Int).toNat, none⟩ (.int .i64 (wrap64 ((rd x688001_1 x6_1) - t694)))) w.heap.size (fun k_ => some k_ ≠ (.slice Ao19 x21_1.length co19 : Value).ownBlock ∧ some k_ ≠ (.slice Ao55 x688000_1.length co55 : Value).ownBlock) (.slice (some ⟨go50, 0, none⟩) x688001_1.length co54) y695) := RW HQ56
      have n3_ : Aside0 ((w53q.setCell ⟨go50, (x6_1 : Int).toNat, none⟩ (.int .i64 (wrap64 ((rd x688001_1 x6_1) - t694)))).heap[gb678]? = some (.cells #[.slice A0_0 l0_0.length c0_0, .slice A0_1 l0_1.length c0_1] 40 (0, 0))) := ⟨by (with_reducible repeat (first | refine blk_drewN ?_ _ | refine blk_drew ?_ | refine blk_alloc ?_ _)); refine blk_far ?_ (by have h_ := Kd.R_ne HO_688001.out BK678.out (by decide); intro e_; exact h_ (by rw [e_]; rfl)) _; (with_reducible repeat (first | refine blk_drewN ?_ _ | refine blk_drew ?_ | refine blk_alloc ?_ _)); exact BK678.out⟩
      have n4_ : Aside0 ((w53q.setCell ⟨go50, (x6_1 : Int).toNat, none⟩ (.int .i64 (wrap64 ((rd x688001_1 x6_1) - t694)))).heap[gb679]? = some (.cells #[.slice none 0 0, .slice none 0 0] 40 (0, 0))) := ⟨by (with_reducible repeat (first | refine blk_drewN ?_ _ | refine blk_drew ?_ | refine blk_alloc ?_ _)); refine blk_far ?_ (by have h_ := Kd.R_ne HO_688001.out BK679.out (by decide); intro e_; exact h_ (by rw [e_]; rfl)) _; (with_reducible repeat (first | refine blk_drewN ?_ _ | refine blk_drew ?_ | refine blk_alloc ?_ _)); exact BK679.out⟩
      have n5_ : Aside0 ((w53q.setCell ⟨go50, (x6_1 : Int).toNat, none⟩ (.int .i64 (wrap64 ((rd x688001_1 x6_1) - t694)))).heap[gb687]? = some (.cells #[.slice Ao55 x688000_1.length co55, .slice (some ⟨go50, 0, none⟩) x688001_1.length co54] 40 (0, 0))) := ⟨by (with_reducible repeat (first | refine blk_drewN ?_ _ | refine blk_drew ?_ | refine blk_alloc ?_ _)); refine blk_far ?_ (by have h_ := Kd.R_ne HO_688001.out BK687.out (by decide); intro e_; exact h_ (by rw [e_]; rfl)) _; (with_reducible repeat (first | refine blk_drewN ?_ _ | refine blk_drew ?_ | refine blk_alloc ?_ _)); exact BK687.out⟩
      have n6_ : Aside0 (Below w.heap.size w (w53q.setCell ⟨go50, (x6_1 : Int).toNat, none⟩ (.int .i64 (wrap64 ((rd x688001_1 x6_1) - t694))))) := ⟨TB⟩
      (try clear HO_21)
      (try clear HO_688000)
      (try clear HO_688001)
      (try clear BK678)
      (try clear BK679)
      (try clear BK687)
      (try clear HB)
      generalize (w53q.setCell ⟨go50, (x6_1 : Int).toNat, none⟩ (.int .i64 (wrap64 ((rd x688001_1 x6_1) - t694)))) = w57 at n0_ n1_ n2_ n3_ n4_ n5_ n6_ ⊢
      have HO_21 := n0_
      have HO_688000 := n1_
      have HO_688001 := n2_
      have BK678 := n3_
      have BK679 := n4_
      have BK687 := n5_
      have HB := n6_
      clear n0_ n1_ n2_ n3_ n4_ n5_ n6_
      have hnb58 := NB687_678.out
      have hnc58 := NB678_687.out
      have hnb59 := NB687_679.out
      have hnc59 := NB679_687.out
      have hcz60 := cz2 BK687
      try go_wp2_with (first | ((with_reducible refine gate_callee (f := 29) rfl ?_); refine goesL_ (some 60) rfl rfl Try.func29 KR rfl #[.agg #[.slice Ao55 x688000_1.length co55, .slice (some ⟨go50, 0, none⟩) y695.length co54]] rfl (by (try simp only [List.map_toArray, List.map_cons, List.map_nil]); first | done | (rw [show y695.length = x688001_1.length from (Kd.R_reads' HO_688001.out).1.symm] <;> rfl) | rfl | (simp only [List.length_drop, List.length_take]; rfl)) ?_; (with_reducible refine (impl_GoodTurn.calls k1 _ _ x688000_1 _ _ y695 true _ ?side1 ?side2 ?side3 ?side4 A51.out).mono ?_); (case side1 => exact CW ((Kd.R_reads' HO_688000.out).2.2)); (case side2 => exact RI HO_688000); (case side3 => exact CW ((Kd.R_reads' HO_688001.out).2.2)); (case side4 => rw [show y695.length = x688001_1.length from (Kd.R_reads' HO_688001.out).1.symm]; exact RI HO_688001); rintro e w61 ⟨rfl, hb⟩; refine ⟨_, rfl, ?_⟩; replace HO_21 := RB HO_21 hb; replace HO_688000 := RB HO_688000 hb; replace HO_688001 := RB HO_688001 hb; replace BK678 := KB BK678 hb; replace BK679 := KB BK679 hb; replace BK687 := KB BK687 hb; replace HB := BS hb; clear hb; have hcz62 := cz2 BK687; obtain ⟨hnb63, hnc63⟩ := nn NB679_678; have hcz64 := cz2 BK679))
      refine bodyPost_ret (results_ctt rfl _ _ gb679 40 #[.slice Ao55 x688000_1.length co55, .slice (some ⟨go50, 0, none⟩) x688001_1.length co54] (0, 0) _ rfl (by (with_reducible repeat (first | refine blk_drewN ?_ _ | refine blk_drew ?_ | refine blk_alloc ?_ _)); refine blk_put (cs := #[.slice Ao55 x688000_1.length co55, .slice none 0 0]) ?_ 1 _ rfl; (with_reducible repeat (first | refine blk_drewN ?_ _ | refine blk_drew ?_ | refine blk_alloc ?_ _)); refine blk_put (cs := #[.slice none 0 0, .slice none 0 0]) ?_ 0 _ rfl; (with_reducible repeat (first | refine blk_drewN ?_ _ | refine blk_drew ?_ | refine blk_alloc ?_ _)); exact BK679.out) Try.underlying40 rfl KR) rfl ?_
      exact ⟨_, _, TE, by (with_reducible repeat (first | apply Kd.R_alloc | apply Kd.R_drewN | apply Kd.R_drew)); exact Kd.R_mono (Kd.R_far (p := ⟨gb679, 1, none⟩) (Kd.R_far (p := ⟨gb679, 0, none⟩) (Kd.R_types HO_688000.out BK679.out (by decide)) (fun _ hk => hk.2) (.slice Ao55 x688000_1.length co55)) (fun _ hk => hk.2) (.slice (some ⟨go50, 0, none⟩) x688001_1.length co54)) (fun _ hk => hk.1), by (with_reducible repeat (first | apply Kd.R_alloc | apply Kd.R_drewN | apply Kd.R_drew)); exact Kd.R_mono (Kd.R_far (p := ⟨gb679, 1, none⟩) (Kd.R_far (p := ⟨gb679, 0, none⟩) (Kd.R_types HO_688001.out BK679.out (by decide)) (fun _ hk => hk.2) (.slice Ao55 x688000_1.length co55)) (fun _ hk => hk.2) (.slice (some ⟨go50, 0, none⟩) x688001_1.length co54)) (fun _ hk => hk.1.2), TB⟩
     ·replace c52 := Bool.eq_false_iff.mpr c52
      subst c52
      replace H := iff' H
      simp only [Option.some.injEq, Prod.mk.injEq] at H
      obtain ⟨rfl, rfl, rfl, rfl⟩ := H
      try go_wp2
      replace HO_21 := Aside0.mk (Kd.R_drew HO_21.out)
      replace HO_688000 := Aside0.mk (Kd.R_drew HO_688000.out)
      replace HO_688001 := Aside0.mk (Kd.R_drew HO_688001.out)
      replace BK678 := Aside0.mk (blk_drew BK678.out)
      replace BK679 := Aside0.mk (blk_drew BK679.out)
      replace BK687 := Aside0.mk (blk_drew BK687.out)
      replace HB := Aside0.mk (below_drew1 HB.out)
      obtain ⟨Ao66, co66, eo66⟩ := Kd.R_slice HO_688001.out
      (first | subst eo66 | (injection eo66 with f1_ f2_ f3_; have f4_ := f1_.symm; have f5_ := f3_.symm; clear f1_ f2_ f3_; subst f4_; subst f5_))
      have p693 : 0 ≤ (x6_1 : Int) := TD
      have q693 : x6_1 < (x688001_1.length : Int) := TD
      obtain ⟨ad693, e693, hx693_0⟩ := Kd.at_int (Kd.R_reads' HO_688001.out).2.2 x6_1 p693 q693
      cases e693
      replace p693 := eq_true p693
      replace q693 := eq_true q693
      obtain ⟨Ao67, co67, eo67⟩ := Kd.R_slice HO_688000.out
      (first | subst eo67 | (injection eo67 with f1_ f2_ f3_; have f4_ := f1_.symm; have f5_ := f3_.symm; clear f1_ f2_ f3_; subst f4_; subst f5_))
      refine start_ (n := 11) (S := fun w' => w'.cell? ⟨gb687, 0, none⟩ = some (.slice Ao67 x688000_1.length co67) ∧ w'.cell? ⟨gb687, 1, none⟩ = some (.slice (some ad693) x688001_1.length co66) ∧ w'.cell? (ad693.add (x6_1).toNat) = some (.int .i64 (rd x688001_1 x6_1))) (ds := [10]) #[false, false, false, false, false, false, false, false, false, false, false] KR rfl rfl ⟨bc 0 BK687, bc 1 BK687, hx693_0⟩ (fun hHeld => ?_); refine with_tabW impl_NextTurn.tab12 impl_NextTurn.bits12 (fun HT_ HW_ => ?_)
      generalize wr.drew = w65 at HO_21 HO_688000 HO_688001 BK678 BK679 BK687 HB hx693_0 hHeld ⊢
      refine pA 0 49 (mL 11 1) HT_ rfl rfl ?_
      refine pA 2 51 (mL 11 5) HT_ rfl rfl ?_
      refine pA 5 54 (mL 11 37) HT_ rfl rfl ?_
      refine tA 1 50 (mL 11 39) HT_ HW_ hHeld rfl rfl (by rintro w' ⟨s0, s1, s2⟩; go_simp; with_reducible rfl) ?_
      refine pA 3 52 (mL 11 47) HT_ rfl rfl ?_
      refine tA 4 53 (mL 11 63) HT_ HW_ hHeld rfl rfl (by rintro w' ⟨s0, s1, s2⟩; go_simp; with_reducible rfl) ?_
      refine tA 6 55 (mL 11 127) HT_ HW_ hHeld rfl rfl (by rintro w' ⟨s0, s1, s2⟩; go_simp; with_reducible rfl) ?_
      refine one_ (i := 7) (N := some 56) (mL 11 255) rfl rfl (one_of HT_.out KR) (by decide) (fun K hK => ?_)
      refine goes_ Try.func62 KR rfl #[.slice Ao67 x688000_1.length co67] (by rfl) rfl rfl TA ?_
      with_reducible refine (impl_totalOf.calls k1 _ _ x688000_1 t694 _ ?side1 ?side2 A49.out).mono ?_
      (case side1 => exact CW ((Kd.R_reads' HO_688000.out).2.2))
      (case side2 => exact RI HO_688000)
      rintro e w65q ⟨rfl, ⟨nd, hq_⟩⟩
      replace hq_ := hq_.symm
      replace HO_21 := Aside0.mk (Kd.R_at hq_ HO_21.out)
      replace HO_688000 := Aside0.mk (Kd.R_at hq_ HO_688000.out)
      replace HO_688001 := Aside0.mk (Kd.R_at hq_ HO_688001.out)
      replace BK678 := Aside0.mk (blk_at hq_ BK678.out)
      replace BK679 := Aside0.mk (blk_at hq_ BK679.out)
      replace BK687 := Aside0.mk (blk_at hq_ BK687.out)
      replace HB := Aside0.mk (below_at hq_ HB.out)
      replace hx693_0 := cell_at hq_ hx693_0
      clear hq_
      refine ⟨_, rfl, ?_⟩
      have p50 : 0 ≤ (x6_1 : Int) := TD
      have q50 : (x6_1 : Int) < ((x688001_1.length : Int) : Int) := TD
      obtain ⟨go50, co50, eo50, gb50, gl50, cl50, HG50⟩ := Kd.R_form HO_688001.out (by omega)
      (first | cases eo50 | (injection eo50 with ea_ en_ ec_; (first | subst ea_ | (injection ea_ with ea_; subst ea_)); subst ec_; clear en_))
      have GB50 := Aside0.mk gb50
      have GG50 := Aside0.mk HG50
      clear gb50 gl50 HG50
      (first | simp only [add_plain] at hx693_0 | skip)
      obtain ⟨hx50_0, hf50_0⟩ := Kd.R_celln 0 HO_688001.out (x6_1 : Int) p50 q50
      replace p50 := eq_true p50
      replace q50 := eq_true q50
      have HP68 := Kd.R_putn HO_688001.out (x6_1 : Int) (wrap64 ((rd x688001_1 x6_1) - t694))
      rw [← Ny695.out] at HP68
      have HQ68 := Aside0.mk HP68
      clear HP68
      refine hK.out _ _ ⟨bc 0 BK687, bc 1 BK687, (by first | exact hx693_0 | (simp only [add_plain]; exact hx693_0))⟩ (fun hHeld => ?_)
      clear hK K
      refine nA ?_
      refine pA 8 57 (mL 11 511) HT_ rfl rfl ?_
      refine pA 9 58 (mL 11 1023) HT_ rfl rfl ?_
      refine last_ (i := 10) (N := none) (mL 11 2047) rfl rfl (one_of HT_.out KR) (by decide) (fun K hK => ?_)
      refine skip_ (w1 := ?_) (by rfl) rfl ?_ ?_
      rotate_left
      ·go_simp
       rfl
      refine hK.out _ _ ?_
      clear hK K
      refine done_ (done_of HT_.out KR) ?_
      have n0_ : Aside0 (Kd.R (Kd.int .i64) 3 (w65q.setCell ⟨go50, (x6_1 : Int).toNat, none⟩ (.int .i64 (wrap64 ((rd x688001_1 x6_1) - t694)))) w.heap.size (fun k_ => some k_ ≠ (.slice (some ⟨go50, 0, none⟩) x688001_1.length co66 : Value).ownBlock) (.slice Ao19 x21_1.length co19) x21_1) := ⟨by (with_reducible repeat (first | apply Kd.R_alloc | apply Kd.R_drewN | apply Kd.R_drew)); exact Kd.R_mono (Kd.R_far (p := ⟨go50, (x6_1 : Int).toNat, none⟩) (Kd.R_mono HO_21.out (fun k_ hk => (⟨hk, fun e_ => hk (by rw [e_]; rfl)⟩ : _ ∧ k_ ≠ go50))) (fun _ hk => hk.2) (.int .i64 (wrap64 ((rd x688001_1 x6_1) - t694)))) (fun _ hk => hk.1)⟩
      have n1_ : Aside0 (Kd.R (Kd.int .i64) 3 (w65q.setCell ⟨go50, (x6_1 : Int).toNat, none⟩ (.int .i64 (wrap64 ((rd x688001_1 x6_1) - t694)))) w.heap.size (fun k_ => some k_ ≠ (.slice (some ⟨go50, 0, none⟩) x688001_1.length co66 : Value).ownBlock) (.slice Ao67 x688000_1.length co67) x688000_1) := ⟨by (with_reducible repeat (first | apply Kd.R_alloc | apply Kd.R_drewN | apply Kd.R_drew)); exact Kd.R_mono (Kd.R_far (p := ⟨go50, (x6_1 : Int).toNat, none⟩) (Kd.R_mono HO_688000.out (fun k_ hk => (⟨hk, fun e_ => hk (by rw [e_]; rfl)⟩ : _ ∧ k_ ≠ go50))) (fun _ hk => hk.2) (.int .i64 (wrap64 ((rd x688001_1 x6_1) - t694)))) (fun _ hk => hk.1)⟩
      have n2_ : Aside0 (Kd.R (Kd.int .i64) 3 (w65q.setCell ⟨go50, (x6_1 : Int).toNat, none⟩ (.int .i64 (wrap64 ((rd x688001_1 x6_1) - t694)))) w.heap.size (fun k_ => some k_ ≠ (.slice Ao19 x21_1.length co19 : Value).ownBlock ∧ some k_ ≠ (.slice Ao67 x688000_1.length co67 : Value).ownBlock) (.slice (some ⟨go50, 0, none⟩) x688001_1.length co66) y695) := RW HQ68
      have n3_ : Aside0 ((w65q.setCell ⟨go50, (x6_1 : Int).toNat, none⟩ (.int .i64 (wrap64 ((rd x688001_1 x6_1) - t694)))).heap[gb678]? = some (.cells #[.slice A0_0 l0_0.length c0_0, .slice A0_1 l0_1.length c0_1] 40 (0, 0))) := ⟨by (with_reducible repeat (first | refine blk_drewN ?_ _ | refine blk_drew ?_ | refine blk_alloc ?_ _)); refine blk_far ?_ (by have h_ := Kd.R_ne HO_688001.out BK678.out (by decide); intro e_; exact h_ (by rw [e_]; rfl)) _; (with_reducible repeat (first | refine blk_drewN ?_ _ | refine blk_drew ?_ | refine blk_alloc ?_ _)); exact BK678.out⟩
      have n4_ : Aside0 ((w65q.setCell ⟨go50, (x6_1 : Int).toNat, none⟩ (.int .i64 (wrap64 ((rd x688001_1 x6_1) - t694)))).heap[gb679]? = some (.cells #[.slice none 0 0, .slice none 0 0] 40 (0, 0))) := ⟨by (with_reducible repeat (first | refine blk_drewN ?_ _ | refine blk_drew ?_ | refine blk_alloc ?_ _)); refine blk_far ?_ (by have h_ := Kd.R_ne HO_688001.out BK679.out (by decide); intro e_; exact h_ (by rw [e_]; rfl)) _; (with_reducible repeat (first | refine blk_drewN ?_ _ | refine blk_drew ?_ | refine blk_alloc ?_ _)); exact BK679.out⟩
      have n5_ : Aside0 ((w65q.setCell ⟨go50, (x6_1 : Int).toNat, none⟩ (.int .i64 (wrap64 ((rd x688001_1 x6_1) - t694)))).heap[gb687]? = some (.cells #[.slice Ao67 x688000_1.length co67, .slice (some ⟨go50, 0, none⟩) x688001_1.length co66] 40 (0, 0))) := ⟨by (with_reducible repeat (first | refine blk_drewN ?_ _ | refine blk_drew ?_ | refine blk_alloc ?_ _)); refine blk_far ?_ (by have h_ := Kd.R_ne HO_688001.out BK687.out (by decide); intro e_; exact h_ (by rw [e_]; rfl)) _; (with_reducible repeat (first | refine blk_drewN ?_ _ | refine blk_drew ?_ | refine blk_alloc ?_ _)); exact BK687.out⟩
      have n6_ : Aside0 (Below w.heap.size w (w65q.setCell ⟨go50, (x6_1 : Int).toNat, none⟩ (.int .i64 (wrap64 ((rd x688001_1 x6_1) - t694))))) := ⟨TB⟩
      (try clear HO_21)
      (try clear HO_688000)
      (try clear HO_688001)
      (try clear BK678)
      (try clear BK679)
      (try clear BK687)
      (try clear HB)
      generalize (w65q.setCell ⟨go50, (x6_1 : Int).toNat, none⟩ (.int .i64 (wrap64 ((rd x688001_1 x6_1) - t694)))) = w69 at n0_ n1_ n2_ n3_ n4_ n5_ n6_ ⊢
      have HO_21 := n0_
      have HO_688000 := n1_
      have HO_688001 := n2_
      have BK678 := n3_
      have BK679 := n4_
      have BK687 := n5_
      have HB := n6_
      clear n0_ n1_ n2_ n3_ n4_ n5_ n6_
      have hnb70 := NB687_678.out
      have hnc70 := NB678_687.out
      have hnb71 := NB687_679.out
      have hnc71 := NB679_687.out
      have hcz72 := cz2 BK687
      try go_wp2_with (first | ((with_reducible refine gate_callee (f := 29) rfl ?_); refine goesL_ (some 60) rfl rfl Try.func29 KR rfl #[.agg #[.slice Ao67 x688000_1.length co67, .slice (some ⟨go50, 0, none⟩) y695.length co66]] rfl (by (try simp only [List.map_toArray, List.map_cons, List.map_nil]); first | done | (rw [show y695.length = x688001_1.length from (Kd.R_reads' HO_688001.out).1.symm] <;> rfl) | rfl | (simp only [List.length_drop, List.length_take]; rfl)) ?_; (with_reducible refine (impl_GoodTurn.calls k1 _ _ x688000_1 _ _ y695 false _ ?side1 ?side2 ?side3 ?side4 A51.out).mono ?_); (case side1 => exact CW ((Kd.R_reads' HO_688000.out).2.2)); (case side2 => exact RI HO_688000); (case side3 => exact CW ((Kd.R_reads' HO_688001.out).2.2)); (case side4 => rw [show y695.length = x688001_1.length from (Kd.R_reads' HO_688001.out).1.symm]; exact RI HO_688001); rintro e w73 ⟨rfl, hb⟩; refine ⟨_, rfl, ?_⟩; replace HO_21 := RB HO_21 hb; replace HO_688000 := RB HO_688000 hb; replace HO_688001 := RB HO_688001 hb; replace BK678 := KB BK678 hb; replace BK679 := KB BK679 hb; replace BK687 := KB BK687 hb; replace HB := BS hb; clear hb; obtain ⟨hnb74, hnc74⟩ := nn NB679_678; have hcz75 := cz2 BK679))
      refine bodyPost_ret (results_ctt rfl _ _ gb679 40 #[.slice none 0 0, .slice none 0 0] (0, 0) _ rfl (by (with_reducible repeat (first | refine blk_drewN ?_ _ | refine blk_drew ?_ | refine blk_alloc ?_ _)); refine blk_put (cs := #[.slice none 0 0, .slice none 0 0]) ?_ 1 _ rfl; (with_reducible repeat (first | refine blk_drewN ?_ _ | refine blk_drew ?_ | refine blk_alloc ?_ _)); refine blk_put (cs := #[.slice none 0 0, .slice none 0 0]) ?_ 0 _ rfl; (with_reducible repeat (first | refine blk_drewN ?_ _ | refine blk_drew ?_ | refine blk_alloc ?_ _)); exact BK679.out) Try.underlying40 rfl KR) rfl ?_
      exact ⟨_, _, TE, TZ, TZ, TB⟩
 ·replace c3 := Bool.eq_false_iff.mpr c3
  subst c3
  replace H := iff' H
  simp only [Option.some.injEq, Prod.mk.injEq] at H
  obtain ⟨rfl, rfl, rfl, rfl⟩ := H
  go_enter Try.func46, Try.ntmps46
  go_wp2_with (first | ((with_reducible refine gate_dst (N := 1) rfl ?_); refine bE 1 #[.slice A0_0 l0_0.length c0_0, .slice A0_1 l0_1.length c0_1] 40 ?_; intro gb678 hg w76 hbox hb; have BK678 := Aside0.mk (hbox); have GE678 := bG hg; replace HB := BS hb; clear hb hbox hg) | ((with_reducible refine gate_dst (N := 2) rfl ?_); refine bE 2 #[.slice none 0 0, .slice none 0 0] 40 ?_; intro gb679 hg w77 hbox hb; have BK679 := Aside0.mk (hbox); have GE679 := bG hg; replace HB := BS hb; have NB678_679 := bN BK678 hg; have NB679_678 := bM BK678 hg; replace BK678 := KB BK678 hb; clear hb hbox hg; obtain ⟨hnb78, hnc78⟩ := nn NB678_679; have hcz79 := cz2 BK678) | ((with_reducible refine gate_callee (f := 29) rfl ?_); refine goesL_ (some 10) rfl rfl Try.func29 KR rfl #[.agg #[.slice A0_0 l0_0.length c0_0, .slice A0_1 l0_1.length c0_1]] rfl TA ?_; (with_reducible refine (impl_GoodTurn.calls k _ _ l0_0 _ _ l0_1 false _ ?side1 ?side2 ?side3 ?side4 A2.out).mono ?_); (case side1 => exact CW ((Kd.C_below HR0_0.out HB.out))); (case side2 => exact HC0_0.out); (case side3 => exact CW ((Kd.C_below HR0_1.out HB.out))); (case side4 => exact HC0_1.out); rintro e w80 ⟨rfl, hb⟩; refine ⟨_, rfl, ?_⟩; replace BK678 := KB BK678 hb; replace BK679 := KB BK679 hb; replace HB := BS hb; clear hb; have hcz81 := cz2 BK679))
  refine bodyPost_ret (results_ctt rfl _ _ gb679 40 #[.slice none 0 0, .slice none 0 0] (0, 0) _ rfl (by (with_reducible repeat (first | refine blk_drewN ?_ _ | refine blk_drew ?_ | refine blk_alloc ?_ _)); refine blk_put (cs := #[.slice none 0 0, .slice none 0 0]) ?_ 1 _ rfl; (with_reducible repeat (first | refine blk_drewN ?_ _ | refine blk_drew ?_ | refine blk_alloc ?_ _)); refine blk_put (cs := #[.slice none 0 0, .slice none 0 0]) ?_ 0 _ rfl; (with_reducible repeat (first | refine blk_drewN ?_ _ | refine blk_drew ?_ | refine blk_alloc ?_ _)); exact BK679.out) Try.underlying40 rfl KR) rfl ?_
  exact ⟨_, _, TE, TZ, TZ, TB⟩
end
section
/-! ### spec_TurnsOf: function 40 -/
mutual
def spec_TurnsOf.j0 : Nat → Int → Bool → List Int → List Int → Option (List Int × Bool)
 | 0, _, _, _, _ => none
 | k + 1, x1, x22, x831000, x831001 => if x22 = true then (some (([] : List Int), false)) else (spec_TurnsOf.l0 k x1 ([] : List Int) x831000 x831001)
def spec_TurnsOf.l0 : Nat → Int → List Int → List Int → List Int → Option (List Int × Bool)
 | 0, _, _, _, _ => none
 | k + 1, x1, x8, x831000, x831001 => if x1 > 0 then ((spec_l12Next.f k x831000 x831001).bind fun bt832 => (if x8.length < 17592186044416 then (spec_TurnsOf.l0 k (wrap64 (x1 - 1)) (x8 ++ [bt832.2.2]) bt832.1 bt832.2.1) else (none))) else (some (x8, true))
end
def spec_TurnsOf.f (k : Nat) (l0 : List Int) (a1 : Int) : Option (List Int × Bool) := (spec_NewTurn.f k l0).bind fun bt823 => (if bt823.2.2 = true then ((spec_l1In.f a1 0 600).bind fun t831 => (spec_TurnsOf.j0 k a1 (!t831) bt823.1 bt823.2.1)) else (spec_TurnsOf.j0 k a1 true bt823.1 bt823.2.1))
theorem spec_TurnsOf.calls (k : Nat) (A0 : Option Addr) (c0 : Nat) (l0 : List Int) (a1 : Int) (r1 : List Int) (r2 : Bool) (w : World) (hr0 : Kd.C (Kd.int .i64) w A0 l0.length l0) (hc0 : l0.length ≤ c0) (h : spec_TurnsOf.f k l0 a1 = some (r1, r2)) :
  Calls Try.prog 40 #[.slice A0 l0.length c0, .int .i64 a1] w fun e w' => ∃ v0_ : Value, e = .returned (.tuple #[v0_, .bool r2]) ∧ Kd.R (Kd.int .i64) 3 w' w.heap.size (fun _ => True) v0_ r1 ∧ Below w.heap.size w w' := by
 have hu40 := Try.underlying40
 have HR0 := Aside0.mk hr0
 have HC0 := Aside0.mk hc0
 clear hr0 hc0
 have HB := Aside0.mk (Below.refl w.heap.size w)
 have H : ((spec_NewTurn.f k l0).bind fun bt823 => (if bt823.2.2 = true then ((spec_l1In.f a1 0 600).bind fun t831 => (spec_TurnsOf.j0 k a1 (!t831) bt823.1 bt823.2.1)) else (spec_TurnsOf.j0 k a1 true bt823.1 bt823.2.1))) = some (r1, r2) := h
 clear h
 obtain ⟨⟨t823, t826, t829⟩, A3, H⟩ := bnd H
 try dsimp only at H
 have HC4 := Aside0.mk H
 clear H
 go_enter Try.func40, Try.ntmps40
 go_upto_region 2 with (first | ((with_reducible refine gate_callee (f := 31) rfl ?_); refine goesL_ (some 13) rfl rfl Try.func31 KR rfl #[.slice A0 l0.length c0] rfl TA ?_; (with_reducible refine (spec_NewTurn.calls k _ _ l0 t823 t826 t829 _ ?side1 ?side2 A3.out).mono ?_); (case side1 => exact CW (HR0.out)); (case side2 => exact HC0.out); rintro e w5 ⟨v824, v827, rfl, ho0, ho1, hb⟩; refine ⟨_, rfl, ?_⟩; have HO825 := RL ho0; have HO828 := RL ho1; replace HB := BS hb; clear hb; (try clear ho0); (try clear ho1)) | ((with_reducible refine gate_dst (N := 6) rfl ?_); refine bE 6 #[.slice none 0 0, .slice none 0 0] 40 ?_; intro gb830 hg w6 hbox hb; replace HO825 := RB HO825 hb; replace HO828 := RB HO828 hb; have BK830 := Aside0.mk (hbox); have GE830 := bG hg; replace HB := BS hb; clear hb hbox hg; obtain ⟨Ao7, co7, eo7⟩ := Kd.R_slice HO825.out; subst eo7; have hcz8 := cz2 BK830; obtain ⟨Ao9, co9, eo9⟩ := Kd.R_slice HO828.out; subst eo9))
 (try simp only [Act.put, List.setIfInBounds_toArray, List.set_cons_zero, List.set_cons_succ])
 go_cut [22] (fun v22 wc => ∃ (kq : Nat) (x22_3 : Bool), v22 = .bool x22_3 ∧ Aside0 (spec_TurnsOf.j0 kq a1 x22_3 t823 t826 = some (r1, r2)) ∧ Aside0 (kq ≤ k) ∧ Aside0 (Kd.R (Kd.int .i64) 3 wc w.heap.size (fun k_ => some k_ ≠ ((.slice Ao9 t826.length co9) : Value).ownBlock) (.slice Ao7 t823.length co7) t823) ∧ Aside0 (Kd.R (Kd.int .i64) 3 wc w.heap.size (fun k_ => some k_ ≠ ((.slice Ao7 t823.length co7) : Value).ownBlock) (.slice Ao9 t826.length co9) t826) ∧ Aside0 (wc.heap[gb830]? = some (.cells #[(.slice Ao7 t823.length co7), (.slice Ao9 t826.length co9)] 40 (0, 0))) ∧ Aside0 (Below w.heap.size w wc))
 case first =>
  have H := HC4.out
  clear HC4
  by_cases c10 : t829 = true
  ·subst c10
   replace H := ift H
   obtain ⟨t831, A11, H⟩ := bnd H
   have H' := Aside0.mk H
   clear H
   go_wp2_with (first | (go_at_call 58; (with_reducible refine (spec_l1In.calls a1 0 600 t831 _ A11.out).mono ?_); rintro e w' ⟨rfl, ⟨nd, rfl⟩⟩))
   go_meet
   case rel => exact ⟨_, (!t831), TF, H', ⟨by first | omega | exact Nat.le_refl _⟩, ⟨by (with_reducible repeat (first | apply Kd.R_alloc | apply Kd.R_drewN | apply Kd.R_drew)); exact Kd.R_mono (Kd.R_far (p := ⟨gb830, 1, none⟩) (Kd.R_far (p := ⟨gb830, 0, none⟩) (Kd.R_types HO825.out BK830.out (by decide)) (fun _ hk => hk.2) (.slice Ao7 t823.length co7)) (fun _ hk => hk.2) (.slice Ao9 t826.length co9)) (fun _ hk => hk.1)⟩, ⟨by (with_reducible repeat (first | apply Kd.R_alloc | apply Kd.R_drewN | apply Kd.R_drew)); exact Kd.R_mono (Kd.R_far (p := ⟨gb830, 1, none⟩) (Kd.R_far (p := ⟨gb830, 0, none⟩) (Kd.R_types HO828.out BK830.out (by decide)) (fun _ hk => hk.2) (.slice Ao7 t823.length co7)) (fun _ hk => hk.2) (.slice Ao9 t826.length co9)) (fun _ hk => hk.1)⟩, ⟨TS⟩, ⟨TB⟩⟩
  ·replace c10 := Bool.eq_false_iff.mpr c10
   subst c10
   replace H := iff' H
   have H' := Aside0.mk H
   clear H
   go_wp2
   go_meet
   case rel => exact ⟨_, (true), TF, H', ⟨by first | omega | exact Nat.le_refl _⟩, ⟨by (with_reducible repeat (first | apply Kd.R_alloc | apply Kd.R_drewN | apply Kd.R_drew)); exact Kd.R_mono (Kd.R_far (p := ⟨gb830, 1, none⟩) (Kd.R_far (p := ⟨gb830, 0, none⟩) (Kd.R_types HO825.out BK830.out (by decide)) (fun _ hk => hk.2) (.slice Ao7 t823.length co7)) (fun _ hk => hk.2) (.slice Ao9 t826.length co9)) (fun _ hk => hk.1)⟩, ⟨by (with_reducible repeat (first | apply Kd.R_alloc | apply Kd.R_drewN | apply Kd.R_drew)); exact Kd.R_mono (Kd.R_far (p := ⟨gb830, 1, none⟩) (Kd.R_far (p := ⟨gb830, 0, none⟩) (Kd.R_types HO828.out BK830.out (by decide)) (fun _ hk => hk.2) (.slice Ao7 t823.length co7)) (fun _ hk => hk.2) (.slice Ao9 t826.length co9)) (fun _ hk => hk.1)⟩, ⟨TS⟩, ⟨TB⟩⟩
 case rest =>
  clear HC4
  obtain ⟨kq, x22_3, rfl, HA, HJ3, HO_831000, HO_831001, BK830, HB⟩ := hcut
  cases kq with
  | zero => exact absurd HA.out (by simp [spec_TurnsOf.j0])
  | succ kj3 =>
   have H := HA.out
   clear HA
   simp only [spec_TurnsOf.j0] at H
   by_cases c12 : x22_3 = true
   ·subst c12
    replace H := ift H
    simp only [Option.some.injEq, Prod.mk.injEq] at H
    obtain ⟨rfl, rfl⟩ := H
    go_wp2
    go_ret2
    exact ⟨_, TE, TZ, TB⟩
   ·replace c12 := Bool.eq_false_iff.mpr c12
    subst c12
    replace H := iff' H
    have H' := Aside0.mk H
    clear H
    go_wp2
    go_loopg [1, 8] kj3 (fun kq v1 v8 w' => ∃ (x1_2 : Int) (x8_2 : List Int) (x831000_2 : List Int) (x831001_2 : List Int) (u831000 : Value) (u831001 : Value), v1 = .int .i64 x1_2 ∧ Aside0 (spec_TurnsOf.l0 kq x1_2 x8_2 x831000_2 x831001_2 = some (r1, r2)) ∧ Aside0 (kq ≤ kj3) ∧ Aside0 (Kd.R (Kd.int .i64) 3 w' w.heap.size (fun k_ => some k_ ≠ (u831000 : Value).ownBlock ∧ some k_ ≠ (u831001 : Value).ownBlock) v8 x8_2) ∧ Aside0 (Kd.R (Kd.int .i64) 3 w' w.heap.size (fun k_ => some k_ ≠ (v8 : Value).ownBlock ∧ some k_ ≠ (u831001 : Value).ownBlock) u831000 x831000_2) ∧ Aside0 (Kd.R (Kd.int .i64) 3 w' w.heap.size (fun k_ => some k_ ≠ (v8 : Value).ownBlock ∧ some k_ ≠ (u831000 : Value).ownBlock) u831001 x831001_2) ∧ Aside0 (w'.heap[gb830]? = some (.cells #[u831000, u831001] 40 (0, 0))) ∧ Aside0 (Below w.heap.size w w'))
    case atStart => exact ⟨(a1), (([] : List Int)), (t823), (t826), (.slice Ao7 t823.length co7), (.slice Ao9 t826.length co9), TF, H', ⟨Nat.le_refl _⟩, ⟨TZ⟩, ⟨by (with_reducible repeat (first | apply Kd.R_alloc | apply Kd.R_drewN | apply Kd.R_drew)); exact Kd.R_mono HO_831000.out (fun _ hk => ⟨(by simp [Value.ownBlock]), hk⟩)⟩, ⟨by (with_reducible repeat (first | apply Kd.R_alloc | apply Kd.R_drewN | apply Kd.R_drew)); exact Kd.R_mono HO_831001.out (fun _ hk => ⟨(by simp [Value.ownBlock]), hk⟩)⟩, KW BK830, ⟨TB⟩⟩
    case round =>
     clear H'
     obtain ⟨x1_2, x8_2, x831000_2, x831001_2, u831000, u831001, rfl, HA, HK2, HO_8, HO_831000, HO_831001, BK830, HB⟩ := hrel
     cases gk with
     | zero => exact absurd HA.out (by simp [spec_TurnsOf.l0])
     | succ k2 =>
      have H := HA.out
      clear HA
      simp only [spec_TurnsOf.l0] at H
      by_cases c13 : x1_2 > 0
      ·rw [if_pos c13] at H
       have c13b0 : decide (0 < x1_2) = true := decide_eq_true c13
       clear c13
       obtain ⟨⟨t832, t835, t838⟩, A14, H⟩ := bnd H
       try dsimp only at H
       obtain ⟨c15, H⟩ := ifn H
       have LMc15 := Aside0.mk c15
       clear c15
       obtain ⟨y840, hy840⟩ : ∃ y_ : List Int, y_ = (x8_2 ++ [t838]) := ⟨_, rfl⟩
       replace H : (spec_TurnsOf.l0 k2 (wrap64 (x1_2 - 1)) y840 t832 t835) = some (r1, r2) := by first | (rw [hy840]; with_reducible exact H) | (have H2_ := (Option.bind_some _ _).symm.trans H; rw [hy840]; with_reducible exact H2_) | (have H2_ := (Option.bind_some _ _).symm.trans H; with_reducible exact H2_) | with_reducible exact H | (rw [hy840]; exact H) | exact H
       have Ny840 := Aside0.mk hy840
       clear hy840
       have H' := Aside0.mk H
       clear H
       have hcz16 := cz2 BK830
       obtain ⟨Ao17, co17, eo17⟩ := Kd.R_slice HO_831000.out
       subst eo17
       obtain ⟨Ao18, co18, eo18⟩ := Kd.R_slice HO_831001.out
       subst eo18
       go_wp2_with (first | ((with_reducible refine gate_callee (f := 73) rfl ?_); refine goesL_ (some 29) rfl rfl Try.func73 KR rfl #[.agg #[.slice Ao17 x831000_2.length co17, .slice Ao18 x831001_2.length co18]] rfl TA ?_; (with_reducible refine (spec_l12Next.calls k2 _ _ x831000_2 _ _ x831001_2 t832 t835 t838 _ ?side1 ?side2 ?side3 ?side4 A14.out).mono ?_); (case side1 => exact CW ((Kd.R_reads' HO_831000.out).2.2)); (case side2 => exact RI HO_831000); (case side3 => exact CW ((Kd.R_reads' HO_831001.out).2.2)); (case side4 => exact RI HO_831001); rintro e w19 ⟨v833, v836, rfl, ho0, ho1, hb⟩; refine ⟨_, rfl, ?_⟩; have HO834 := RL (NW (NW (NW ho0 HO_8) HO_831000) HO_831001); have HO837 := RL (NW (NW (NW ho1 HO_8) HO_831000) HO_831001); replace HO_8 := O2 HO_8 ho0 ho1 hb; replace HO_831000 := O2 HO_831000 ho0 ho1 hb; replace HO_831001 := O2 HO_831001 ho0 ho1 hb; replace BK830 := KB BK830 hb; replace HB := BS hb; clear hb; (try clear ho0); (try clear ho1)) | ((with_reducible refine gate_dst (N := 9) rfl ?_); refine bE 9 #[.slice none 0 0, .slice none 0 0] 40 ?_; intro gb839 hg w20 hbox hb; replace HO_8 := RB HO_8 hb; replace HO_831000 := RB HO_831000 hb; replace HO_831001 := RB HO_831001 hb; replace HO834 := RB HO834 hb; replace HO837 := RB HO837 hb; have BK839 := Aside0.mk (hbox); have GE839 := bG hg; replace HB := BS hb; have NB830_839 := bN BK830 hg; have NB839_830 := bM BK830 hg; replace BK830 := KB BK830 hb; clear hb hbox hg; obtain ⟨Ao21, co21, eo21⟩ := Kd.R_slice HO834.out; subst eo21; obtain ⟨hnb22, hnc22⟩ := nn NB839_830; have hcz23 := cz2 BK839; obtain ⟨Ao24, co24, eo24⟩ := Kd.R_slice HO837.out; subst eo24; have hcz25 := cz2 BK830) | ((with_reducible refine gate_builtin (b := .append) (xs := #[.tmp 33, .tmp 35]) rfl ?_); at_builtin; refine Kd.R_append (Kd.int .i64) (w0 := w) w.heap.size rfl (.tmp 33) (.tmp 35) 22 3 (.int .i64 0) 8 rfl Try.underlying22 info3 rfl (by decide) (by omega) u8 x8_2 t838 [.int .i64 t838] (fun k_ => some k_ ≠ (.slice Ao17 x831000_2.length co17 : Value).ownBlock ∧ some k_ ≠ (.slice Ao18 x831001_2.length co18 : Value).ownBlock ∧ some k_ ≠ (.slice Ao21 t832.length co21 : Value).ownBlock ∧ some k_ ≠ (.slice Ao24 t835.length co24 : Value).ownBlock) (fun _ => False) rfl (by first | (go_simp; done) | (go_simp; rfl)) ?aP (fun _ hk => hk.elim) ?aF ?aO ?aB ?aS ?aL ?_; (case aP => exact rfl); (case aB => exact TB); (case aF => exact (fun k_ hk => ⟨Kd.fresh' (Kd.R_lt (by (with_reducible repeat (first | apply Kd.R_alloc | apply Kd.R_drewN | apply Kd.R_drew)); exact (Kd.R_mono (Kd.R_mono (Kd.R_far (p := ⟨gb830, 1, none⟩) (Kd.R_far (p := ⟨gb830, 0, none⟩) (Kd.R_far (p := ⟨gb839, 1, none⟩) (Kd.R_far (p := ⟨gb839, 0, none⟩) (Kd.R_types (Kd.R_types HO_831000.out BK839.out (by decide)) BK830.out (by decide)) (fun _ hk => hk.1.2) (.slice Ao21 t832.length co21)) (fun _ hk => hk.1.2) (.slice Ao24 t835.length co24)) (fun _ hk => hk.2) (.slice Ao21 t832.length co21)) (fun _ hk => hk.2) (.slice Ao24 t835.length co24)) (fun _ h_ => h_.1)) (fun _ h_ => h_.1)))) k_ hk, Kd.fresh' (Kd.R_lt (by (with_reducible repeat (first | apply Kd.R_alloc | apply Kd.R_drewN | apply Kd.R_drew)); exact (Kd.R_mono (Kd.R_mono (Kd.R_far (p := ⟨gb830, 1, none⟩) (Kd.R_far (p := ⟨gb830, 0, none⟩) (Kd.R_far (p := ⟨gb839, 1, none⟩) (Kd.R_far (p := ⟨gb839, 0, none⟩) (Kd.R_types (Kd.R_types HO_831001.out BK839.out (by decide)) BK830.out (by decide)) (fun _ hk => hk.1.2) (.slice Ao21 t832.length co21)) (fun _ hk => hk.1.2) (.slice Ao24 t835.length co24)) (fun _ hk => hk.2) (.slice Ao21 t832.length co21)) (fun _ hk => hk.2) (.slice Ao24 t835.length co24)) (fun _ h_ => h_.1)) (fun _ h_ => h_.1)))) k_ hk, Kd.fresh' (Kd.R_lt (by (with_reducible repeat (first | apply Kd.R_alloc | apply Kd.R_drewN | apply Kd.R_drew)); exact (Kd.R_mono (Kd.R_mono (Kd.R_far (p := ⟨gb830, 1, none⟩) (Kd.R_far (p := ⟨gb830, 0, none⟩) (Kd.R_far (p := ⟨gb839, 1, none⟩) (Kd.R_far (p := ⟨gb839, 0, none⟩) (Kd.R_types (Kd.R_types HO834.out BK839.out (by decide)) BK830.out (by decide)) (fun _ hk => hk.1.2) (.slice Ao21 t832.length co21)) (fun _ hk => hk.1.2) (.slice Ao24 t835.length co24)) (fun _ hk => hk.2) (.slice Ao21 t832.length co21)) (fun _ hk => hk.2) (.slice Ao24 t835.length co24)) (fun _ h_ => h_.1)) (fun _ h_ => h_.1)))) k_ hk, Kd.fresh' (Kd.R_lt (by (with_reducible repeat (first | apply Kd.R_alloc | apply Kd.R_drewN | apply Kd.R_drew)); exact (Kd.R_mono (Kd.R_mono (Kd.R_far (p := ⟨gb830, 1, none⟩) (Kd.R_far (p := ⟨gb830, 0, none⟩) (Kd.R_far (p := ⟨gb839, 1, none⟩) (Kd.R_far (p := ⟨gb839, 0, none⟩) (Kd.R_types (Kd.R_types HO837.out BK839.out (by decide)) BK830.out (by decide)) (fun _ hk => hk.1.2) (.slice Ao21 t832.length co21)) (fun _ hk => hk.1.2) (.slice Ao24 t835.length co24)) (fun _ hk => hk.2) (.slice Ao21 t832.length co21)) (fun _ hk => hk.2) (.slice Ao24 t835.length co24)) (fun _ h_ => h_.1)) (fun _ h_ => h_.1)))) k_ hk⟩)); (case aO => exact (by (with_reducible repeat (first | apply Kd.R_alloc | apply Kd.R_drewN | apply Kd.R_drew)); exact Kd.R_mono (Kd.R_far (p := ⟨gb830, 1, none⟩) (Kd.R_far (p := ⟨gb830, 0, none⟩) (Kd.R_far (p := ⟨gb839, 1, none⟩) (Kd.R_far (p := ⟨gb839, 0, none⟩) (Kd.R_types (Kd.R_types HO_8.out BK839.out (by decide)) BK830.out (by decide)) (fun _ hk => hk.1.2) (.slice Ao21 t832.length co21)) (fun _ hk => hk.1.2) (.slice Ao24 t835.length co24)) (fun _ hk => hk.2) (.slice Ao21 t832.length co21)) (fun _ hk => hk.2) (.slice Ao24 t835.length co24)) (fun _ hk => ⟨hk.1.1.1.1.1, ⟨hk.1.1.1.1.2, ⟨hk.1.1.1.2, hk.1.1.2⟩⟩⟩))); (case aS => exact (below_size TB)); (case aL => have := LMc15.out; omega); intro v841 w26 ho hb hg hat; rw [← Ny840.out] at ho; have n0_ := Aside0.mk (Kd.R_after (ok := (fun k_ => some k_ ≠ (.slice Ao18 x831001_2.length co18 : Value).ownBlock ∧ some k_ ≠ (.slice Ao21 t832.length co21 : Value).ownBlock ∧ some k_ ≠ (.slice Ao24 t835.length co24 : Value).ownBlock)) (by (with_reducible repeat (first | apply Kd.R_alloc | apply Kd.R_drewN | apply Kd.R_drew)); exact Kd.R_mono (Kd.R_far (p := ⟨gb830, 1, none⟩) (Kd.R_far (p := ⟨gb830, 0, none⟩) (Kd.R_far (p := ⟨gb839, 1, none⟩) (Kd.R_far (p := ⟨gb839, 0, none⟩) (Kd.R_types (Kd.R_types HO_831000.out BK839.out (by decide)) BK830.out (by decide)) (fun _ hk => hk.1.2) (.slice Ao21 t832.length co21)) (fun _ hk => hk.1.2) (.slice Ao24 t835.length co24)) (fun _ hk => hk.2) (.slice Ao21 t832.length co21)) (fun _ hk => hk.2) (.slice Ao24 t835.length co24)) (fun _ hk => ⟨⟨hk.1.1.1.1.2, ⟨hk.1.1.1.2, hk.1.1.2⟩⟩, hk.1.1.1.1.1⟩)) hg hat); have n1_ := Aside0.mk (Kd.R_after (ok := (fun k_ => some k_ ≠ (.slice Ao17 x831000_2.length co17 : Value).ownBlock ∧ some k_ ≠ (.slice Ao21 t832.length co21 : Value).ownBlock ∧ some k_ ≠ (.slice Ao24 t835.length co24 : Value).ownBlock)) (by (with_reducible repeat (first | apply Kd.R_alloc | apply Kd.R_drewN | apply Kd.R_drew)); exact Kd.R_mono (Kd.R_far (p := ⟨gb830, 1, none⟩) (Kd.R_far (p := ⟨gb830, 0, none⟩) (Kd.R_far (p := ⟨gb839, 1, none⟩) (Kd.R_far (p := ⟨gb839, 0, none⟩) (Kd.R_types (Kd.R_types HO_831001.out BK839.out (by decide)) BK830.out (by decide)) (fun _ hk => hk.1.2) (.slice Ao21 t832.length co21)) (fun _ hk => hk.1.2) (.slice Ao24 t835.length co24)) (fun _ hk => hk.2) (.slice Ao21 t832.length co21)) (fun _ hk => hk.2) (.slice Ao24 t835.length co24)) (fun _ hk => ⟨⟨hk.1.1.1.1.2, ⟨hk.1.1.1.2, hk.1.1.2⟩⟩, hk.1.1.1.1.1⟩)) hg hat); have n2_ := Aside0.mk (blk_grown (g := gb830) (o := .cells #[.slice Ao21 t832.length co21, .slice Ao24 t835.length co24] 40 (0, 0)) (by (with_reducible repeat (first | refine blk_drewN ?_ _ | refine blk_drew ?_ | refine blk_alloc ?_ _)); refine blk_put (cs := #[.slice Ao21 t832.length co21, .slice Ao18 x831001_2.length co18]) ?_ 1 _ rfl; (with_reducible repeat (first | refine blk_drewN ?_ _ | refine blk_drew ?_ | refine blk_alloc ?_ _)); refine blk_put (cs := #[.slice Ao17 x831000_2.length co17, .slice Ao18 x831001_2.length co18]) ?_ 0 _ rfl; (with_reducible repeat (first | refine blk_drewN ?_ _ | refine blk_drew ?_ | refine blk_alloc ?_ _)); refine blk_far ?_ NB830_839.out _; (with_reducible repeat (first | refine blk_drewN ?_ _ | refine blk_drew ?_ | refine blk_alloc ?_ _)); refine blk_far ?_ NB830_839.out _; (with_reducible repeat (first | refine blk_drewN ?_ _ | refine blk_drew ?_ | refine blk_alloc ?_ _)); exact BK830.out) hg (Kd.R_ne HO_8.out BK830.out (by decide))); have n3_ := Aside0.mk (Kd.R_after (ok := (fun k_ => some k_ ≠ (.slice Ao17 x831000_2.length co17 : Value).ownBlock ∧ some k_ ≠ (.slice Ao18 x831001_2.length co18 : Value).ownBlock ∧ some k_ ≠ (.slice Ao24 t835.length co24 : Value).ownBlock)) (by (with_reducible repeat (first | apply Kd.R_alloc | apply Kd.R_drewN | apply Kd.R_drew)); exact Kd.R_mono (Kd.R_far (p := ⟨gb830, 1, none⟩) (Kd.R_far (p := ⟨gb830, 0, none⟩) (Kd.R_far (p := ⟨gb839, 1, none⟩) (Kd.R_far (p := ⟨gb839, 0, none⟩) (Kd.R_types (Kd.R_types HO834.out BK839.out (by decide)) BK830.out (by decide)) (fun _ hk => hk.1.2) (.slice Ao21 t832.length co21)) (fun _ hk => hk.1.2) (.slice Ao24 t835.length co24)) (fun _ hk => hk.2) (.slice Ao21 t832.length co21)) (fun _ hk => hk.2) (.slice Ao24 t835.length co24)) (fun _ hk => ⟨⟨hk.1.1.1.2, ⟨hk.1.1.2, hk.1.1.1.1.1⟩⟩, hk.1.1.1.1.2⟩)) hg hat); have n4_ := Aside0.mk (Kd.R_after (ok := (fun k_ => some k_ ≠ (.slice Ao17 x831000_2.length co17 : Value).ownBlock ∧ some k_ ≠ (.slice Ao18 x831001_2.length co18 : Value).ownBlock ∧ some k_ ≠ (.slice Ao21 t832.length co21 : Value).ownBlock)) (by (with_reducible repeat (first | apply Kd.R_alloc | apply Kd.R_drewN | apply Kd.R_drew)); exact Kd.R_mono (Kd.R_far (p := ⟨gb830, 1, none⟩) (Kd.R_far (p := ⟨gb830, 0, none⟩) (Kd.R_far (p := ⟨gb839, 1, none⟩) (Kd.R_far (p := ⟨gb839, 0, none⟩) (Kd.R_types (Kd.R_types HO837.out BK839.out (by decide)) BK830.out (by decide)) (fun _ hk => hk.1.2) (.slice Ao21 t832.length co21)) (fun _ hk => hk.1.2) (.slice Ao24 t835.length co24)) (fun _ hk => hk.2) (.slice Ao21 t832.length co21)) (fun _ hk => hk.2) (.slice Ao24 t835.length co24)) (fun _ hk => ⟨⟨hk.1.1.1.2, ⟨hk.1.1.2, hk.1.1.1.1.1⟩⟩, hk.1.1.1.1.2⟩)) hg hat); have n5_ := Aside0.mk (blk_grown (g := gb839) (o := .cells #[.slice Ao21 t832.length co21, .slice Ao24 t835.length co24] 40 (0, 0)) (by (with_reducible repeat (first | refine blk_drewN ?_ _ | refine blk_drew ?_ | refine blk_alloc ?_ _)); refine blk_far ?_ NB839_830.out _; (with_reducible repeat (first | refine blk_drewN ?_ _ | refine blk_drew ?_ | refine blk_alloc ?_ _)); refine blk_far ?_ NB839_830.out _; (with_reducible repeat (first | refine blk_drewN ?_ _ | refine blk_drew ?_ | refine blk_alloc ?_ _)); refine blk_put (cs := #[.slice Ao21 t832.length co21, .slice none 0 0]) ?_ 1 _ rfl; (with_reducible repeat (first | refine blk_drewN ?_ _ | refine blk_drew ?_ | refine blk_alloc ?_ _)); refine blk_put (cs := #[.slice none 0 0, .slice none 0 0]) ?_ 0 _ rfl; (with_reducible repeat (first | refine blk_drewN ?_ _ | refine blk_drew ?_ | refine blk_alloc ?_ _)); exact BK839.out) hg (Kd.R_ne HO_8.out BK839.out (by decide))); have n6_ := Aside0.mk (hb); have n7_ := Aside0.mk (ho); clear HO_831000; clear HO_831001; clear BK830; clear HO834; clear HO837; clear BK839; clear HB; clear HO_8; have HO_831000 := n0_; have HO_831001 := n1_; have BK830 := n2_; have HO834 := n3_; have HO837 := n4_; have BK839 := n5_; have HB := n6_; have HO842 := n7_; clear n0_ n1_ n2_ n3_ n4_ n5_ n6_ n7_; clear ho hb hg hat))
       go_roundg k2
       case measure => have := HJ3.out; have := HK2.out; omega
       case rel => exact ⟨(wrap64 (x1_2 - 1)), (y840), (t832), (t835), (.slice Ao21 t832.length co21), (.slice Ao24 t835.length co24), TF, H', ⟨by have := HJ3.out; have := HK2.out; omega⟩, MO HO842, MO HO834, MO HO837, KW BK830, ⟨TB⟩⟩
      ·rw [if_neg c13] at H
       have c13b0 : decide (0 < x1_2) = false := decide_eq_false c13
       clear c13
       simp only [Option.some.injEq, Prod.mk.injEq] at H
       obtain ⟨rfl, rfl⟩ := H
       go_wp2
       go_ret2
       exact ⟨_, TE, by (with_reducible repeat (first | apply Kd.R_alloc | apply Kd.R_drewN | apply Kd.R_drew)); exact Kd.R_mono HO_8.out (fun _ hk => trivial), TB⟩
end
section
/-! ### impl_TurnsOf: function 41 -/
mutual
def impl_TurnsOf.j0 : Nat → Int → Bool → List Int → List Int → Option (List Int × Bool)
 | 0, _, _, _, _ => none
 | k + 1, x1, x23, x851000, x851001 => if x23 = true then (some (([] : List Int), false)) else (impl_TurnsOf.l0 k (([] : List Int)) x1 0 x851000 x851001)
def impl_TurnsOf.l0 : Nat → List Int → Int → Int → List Int → List Int → Option (List Int × Bool)
 | 0, _, _, _, _, _ => none
 | k + 1, x8, x25, x26, x851000, x851001 => if x26 < x25 then ((impl_NextTurn.f k x851000 x851001).bind fun bt855 => (if bt855.2.2.2 = true then (if x8.length < 17592186044416 then (impl_TurnsOf.l0 k (x8 ++ [bt855.2.2.1]) x25 (wrap64 (x26 + 1)) bt855.1 bt855.2.1) else (none)) else (some (([] : List Int), false)))) else (some (x8, true))
end
def impl_TurnsOf.f (k : Nat) (l0 : List Int) (a1 : Int) : Option (List Int × Bool) := (impl_NewTurn.f k l0).bind fun bt843 => (if bt843.2.2 = true then ((impl_within.f a1 0 600).bind fun t851 => (impl_TurnsOf.j0 k a1 (!t851) bt843.1 bt843.2.1)) else (impl_TurnsOf.j0 k a1 true bt843.1 bt843.2.1))
theorem impl_TurnsOf.calls (k : Nat) (A0 : Option Addr) (c0 : Nat) (l0 : List Int) (a1 : Int) (r1 : List Int) (r2 : Bool) (w : World) (hr0 : Kd.C (Kd.int .i64) w A0 l0.length l0) (hc0 : l0.length ≤ c0) (h : impl_TurnsOf.f k l0 a1 = some (r1, r2)) :
  Calls Try.prog 41 #[.slice A0 l0.length c0, .int .i64 a1] w fun e w' => ∃ v0_ : Value, e = .returned (.tuple #[v0_, .bool r2]) ∧ Kd.R (Kd.int .i64) 3 w' w.heap.size (fun _ => True) v0_ r1 ∧ Below w.heap.size w w' := by
 have hu40 := Try.underlying40
 have HR0 := Aside0.mk hr0
 have HC0 := Aside0.mk hc0
 clear hr0 hc0
 have HB := Aside0.mk (Below.refl w.heap.size w)
 have H : ((impl_NewTurn.f k l0).bind fun bt843 => (if bt843.2.2 = true then ((impl_within.f a1 0 600).bind fun t851 => (impl_TurnsOf.j0 k a1 (!t851) bt843.1 bt843.2.1)) else (impl_TurnsOf.j0 k a1 true bt843.1 bt843.2.1))) = some (r1, r2) := h
 clear h
 obtain ⟨⟨t843, t846, t849⟩, A3, H⟩ := bnd H
 try dsimp only at H
 have HC4 := Aside0.mk H
 clear H
 go_enter Try.func41, Try.ntmps41
 go_upto_region 2 with (first | ((with_reducible refine gate_callee (f := 32) rfl ?_); refine goesL_ (some 14) rfl rfl Try.func32 KR rfl #[.slice A0 l0.length c0] rfl TA ?_; (with_reducible refine (impl_NewTurn.calls k _ _ l0 t843 t846 t849 _ ?side1 ?side2 A3.out).mono ?_); (case side1 => exact CW (HR0.out)); (case side2 => exact HC0.out); rintro e w5 ⟨v844, v847, rfl, ho0, ho1, hb⟩; refine ⟨_, rfl, ?_⟩; have HO845 := RL ho0; have HO848 := RL ho1; replace HB := BS hb; clear hb; (try clear ho0); (try clear ho1)) | ((with_reducible refine gate_dst (N := 6) rfl ?_); refine bE 6 #[.slice none 0 0, .slice none 0 0] 40 ?_; intro gb850 hg w6 hbox hb; replace HO845 := RB HO845 hb; replace HO848 := RB HO848 hb; have BK850 := Aside0.mk (hbox); have GE850 := bG hg; replace HB := BS hb; clear hb hbox hg; obtain ⟨Ao7, co7, eo7⟩ := Kd.R_slice HO845.out; subst eo7; have hcz8 := cz2 BK850; obtain ⟨Ao9, co9, eo9⟩ := Kd.R_slice HO848.out; subst eo9))
 (try simp only [Act.put, List.setIfInBounds_toArray, List.set_cons_zero, List.set_cons_succ])
 go_cut [23] (fun v23 wc => ∃ (kq : Nat) (x23_3 : Bool), v23 = .bool x23_3 ∧ Aside0 (impl_TurnsOf.j0 kq a1 x23_3 t843 t846 = some (r1, r2)) ∧ Aside0 (kq ≤ k) ∧ Aside0 (Kd.R (Kd.int .i64) 3 wc w.heap.size (fun k_ => some k_ ≠ ((.slice Ao9 t846.length co9) : Value).ownBlock) (.slice Ao7 t843.length co7) t843) ∧ Aside0 (Kd.R (Kd.int .i64) 3 wc w.heap.size (fun k_ => some k_ ≠ ((.slice Ao7 t843.length co7) : Value).ownBlock) (.slice Ao9 t846.length co9) t846) ∧ Aside0 (wc.heap[gb850]? = some (.cells #[(.slice Ao7 t843.length co7), (.slice Ao9 t846.length co9)] 40 (0, 0))) ∧ Aside0 (Below w.heap.size w wc))
 case first =>
  have H := HC4.out
  clear HC4
  by_cases c10 : t849 = true
  ·subst c10
   replace H := ift H
   obtain ⟨t851, A11, H⟩ := bnd H
   have H' := Aside0.mk H
   clear H
   go_wp2_with (first | (go_at_call 59; (with_reducible refine (impl_within.calls a1 0 600 t851 _ A11.out).mono ?_); rintro e w' ⟨rfl, ⟨nd, rfl⟩⟩))
   go_meet
   case rel => exact ⟨_, (!t851), TF, H', ⟨by first | omega | exact Nat.le_refl _⟩, ⟨by (with_reducible repeat (first | apply Kd.R_alloc | apply Kd.R_drewN | apply Kd.R_drew)); exact Kd.R_mono (Kd.R_far (p := ⟨gb850, 1, none⟩) (Kd.R_far (p := ⟨gb850, 0, none⟩) (Kd.R_types HO845.out BK850.out (by decide)) (fun _ hk => hk.2) (.slice Ao7 t843.length co7)) (fun _ hk => hk.2) (.slice Ao9 t846.length co9)) (fun _ hk => hk.1)⟩, ⟨by (with_reducible repeat (first | apply Kd.R_alloc | apply Kd.R_drewN | apply Kd.R_drew)); exact Kd.R_mono (Kd.R_far (p := ⟨gb850, 1, none⟩) (Kd.R_far (p := ⟨gb850, 0, none⟩) (Kd.R_types HO848.out BK850.out (by decide)) (fun _ hk => hk.2) (.slice Ao7 t843.length co7)) (fun _ hk => hk.2) (.slice Ao9 t846.length co9)) (fun _ hk => hk.1)⟩, ⟨TS⟩, ⟨TB⟩⟩
  ·replace c10 := Bool.eq_false_iff.mpr c10
   subst c10
   replace H := iff' H
   have H' := Aside0.mk H
   clear H
   go_wp2
   go_meet
   case rel => exact ⟨_, (true), TF, H', ⟨by first | omega | exact Nat.le_refl _⟩, ⟨by (with_reducible repeat (first | apply Kd.R_alloc | apply Kd.R_drewN | apply Kd.R_drew)); exact Kd.R_mono (Kd.R_far (p := ⟨gb850, 1, none⟩) (Kd.R_far (p := ⟨gb850, 0, none⟩) (Kd.R_types HO845.out BK850.out (by decide)) (fun _ hk => hk.2) (.slice Ao7 t843.length co7)) (fun _ hk => hk.2) (.slice Ao9 t846.length co9)) (fun _ hk => hk.1)⟩, ⟨by (with_reducible repeat (first | apply Kd.R_alloc | apply Kd.R_drewN | apply Kd.R_drew)); exact Kd.R_mono (Kd.R_far (p := ⟨gb850, 1, none⟩) (Kd.R_far (p := ⟨gb850, 0, none⟩) (Kd.R_types HO848.out BK850.out (by decide)) (fun _ hk => hk.2) (.slice Ao7 t843.length co7)) (fun _ hk => hk.2) (.slice Ao9 t846.length co9)) (fun _ hk => hk.1)⟩, ⟨TS⟩, ⟨TB⟩⟩
 case rest =>
  clear HC4
  obtain ⟨kq, x23_3, rfl, HA, HJ3, HO_851000, HO_851001, BK850, HB⟩ := hcut
  cases kq with
  | zero => exact absurd HA.out (by simp [impl_TurnsOf.j0])
  | succ kj3 =>
   have H := HA.out
   clear HA
   simp only [impl_TurnsOf.j0] at H
   by_cases c12 : x23_3 = true
   ·subst c12
    replace H := ift H
    simp only [Option.some.injEq, Prod.mk.injEq] at H
    obtain ⟨rfl, rfl⟩ := H
    go_wp2
    go_ret2
    exact ⟨_, TE, TZ, TB⟩
   ·replace c12 := Bool.eq_false_iff.mpr c12
    subst c12
    replace H := iff' H
    obtain ⟨y852, hy852⟩ : ∃ y_ : List Int, y_ = (([] : List Int)) := ⟨_, rfl⟩
    replace H : (impl_TurnsOf.l0 kj3 y852 a1 0 t843 t846) = some (r1, r2) := by first | (rw [hy852]; with_reducible exact H) | (have H2_ := (Option.bind_some _ _).symm.trans H; rw [hy852]; with_reducible exact H2_) | (have H2_ := (Option.bind_some _ _).symm.trans H; with_reducible exact H2_) | with_reducible exact H | (rw [hy852]; exact H) | exact H
    have Ny852 := Aside0.mk hy852
    clear hy852
    have H' := Aside0.mk H
    clear H
    go_wp2_with (first | ((with_reducible refine gate_dst (N := 24) rfl ?_); refine Kd.R_lit (Kd.int .i64) _ 3 ?hg (N := 24) ?hd (xs := ([] : List Int)) (inner := []) (ok := fun _ => True) (okp := fun _ => True) ?hr ?hp (fun _ hk => hk) trivial (Below.refl _ _) (Nat.le_refl _) (by simp) ?_; (case hd => rfl); (case hg => rfl); (case hr => first | (go_simp; done) | (go_simp; rfl)); (case hp => exact (Reps.none _ _)); intro v853 w13 ho14 hb hg_ hnew_; clear hg_ hnew_; (first | rw [← Ny852.out] at ho14 | (simp only [Int.reduceToNat] at ho14; rw [← Ny852.out] at ho14)); have HO854 := RL (NW (NW ho14 HO_851000) HO_851001); replace HO_851000 := EL HO_851000 ho14 hb; replace HO_851001 := EL HO_851001 ho14 hb; replace BK850 := KB BK850 hb; replace HB := BS hb; clear hb ho14))
    go_loopg [8, 26] kj3 (fun kq v8 v26 w' => ∃ (x8_2 : List Int) (x26_2 : Int) (x851000_2 : List Int) (x851001_2 : List Int) (u851000 : Value) (u851001 : Value), v26 = .int .i64 x26_2 ∧ Aside0 (impl_TurnsOf.l0 kq x8_2 a1 x26_2 x851000_2 x851001_2 = some (r1, r2)) ∧ Aside0 (kq ≤ kj3) ∧ Aside0 (Kd.R (Kd.int .i64) 3 w' w.heap.size (fun k_ => some k_ ≠ (u851000 : Value).ownBlock ∧ some k_ ≠ (u851001 : Value).ownBlock) v8 x8_2) ∧ Aside0 (Kd.R (Kd.int .i64) 3 w' w.heap.size (fun k_ => some k_ ≠ (v8 : Value).ownBlock ∧ some k_ ≠ (u851001 : Value).ownBlock) u851000 x851000_2) ∧ Aside0 (Kd.R (Kd.int .i64) 3 w' w.heap.size (fun k_ => some k_ ≠ (v8 : Value).ownBlock ∧ some k_ ≠ (u851000 : Value).ownBlock) u851001 x851001_2) ∧ Aside0 (w'.heap[gb850]? = some (.cells #[u851000, u851001] 40 (0, 0))) ∧ Aside0 (Below w.heap.size w w'))
    case atStart => exact ⟨(y852), (0), (t843), (t846), (.slice Ao7 t843.length co7), (.slice Ao9 t846.length co9), TF, H', ⟨Nat.le_refl _⟩, MO HO854, MO HO_851000, MO HO_851001, KW BK850, ⟨TB⟩⟩
    case round =>
     clear H'
     obtain ⟨x8_2, x26_2, x851000_2, x851001_2, u851000, u851001, rfl, HA, HK2, HO_8, HO_851000, HO_851001, BK850, HB⟩ := hrel
     cases gk with
     | zero => exact absurd HA.out (by simp [impl_TurnsOf.l0])
     | succ k2 =>
      have H := HA.out
      clear HA
      simp only [impl_TurnsOf.l0] at H
      by_cases c15 : x26_2 < a1
      ·rw [if_pos c15] at H
       have c15b0 : decide (x26_2 < a1) = true := decide_eq_true c15
       clear c15
       obtain ⟨⟨t855, t858, t861, t862⟩, A16, H⟩ := bnd H
       try dsimp only at H
       by_cases c17 : t862 = true
       ·subst c17
        replace H := ift H
        obtain ⟨c18, H⟩ := ifn H
        have LMc18 := Aside0.mk c18
        clear c18
        obtain ⟨y864, hy864⟩ : ∃ y_ : List Int, y_ = (x8_2 ++ [t861]) := ⟨_, rfl⟩
        replace H : (impl_TurnsOf.l0 k2 y864 a1 (wrap64 (x26_2 + 1)) t855 t858) = some (r1, r2) := by first | (rw [hy864]; with_reducible exact H) | (have H2_ := (Option.bind_some _ _).symm.trans H; rw [hy864]; with_reducible exact H2_) | (have H2_ := (Option.bind_some _ _).symm.trans H; with_reducible exact H2_) | with_reducible exact H | (rw [hy864]; exact H) | exact H
        have Ny864 := Aside0.mk hy864
        clear hy864
        have H' := Aside0.mk H
        clear H
        have hcz19 := cz2 BK850
        obtain ⟨Ao20, co20, eo20⟩ := Kd.R_slice HO_851000.out
        subst eo20
        obtain ⟨Ao21, co21, eo21⟩ := Kd.R_slice HO_851001.out
        subst eo21
        go_wp2_with (first | ((with_reducible refine gate_callee (f := 46) rfl ?_); refine goesL_ (some 30) rfl rfl Try.func46 KR rfl #[.agg #[.slice Ao20 x851000_2.length co20, .slice Ao21 x851001_2.length co21]] rfl TA ?_; (with_reducible refine (impl_NextTurn.calls k2 _ _ x851000_2 _ _ x851001_2 t855 t858 t861 true _ ?side1 ?side2 ?side3 ?side4 A16.out).mono ?_); (case side1 => exact CW ((Kd.R_reads' HO_851000.out).2.2)); (case side2 => exact RI HO_851000); (case side3 => exact CW ((Kd.R_reads' HO_851001.out).2.2)); (case side4 => exact RI HO_851001); rintro e w22 ⟨v856, v859, rfl, ho0, ho1, hb⟩; refine ⟨_, rfl, ?_⟩; have HO857 := RL (NW (NW (NW ho0 HO_8) HO_851000) HO_851001); have HO860 := RL (NW (NW (NW ho1 HO_8) HO_851000) HO_851001); replace HO_8 := O2 HO_8 ho0 ho1 hb; replace HO_851000 := O2 HO_851000 ho0 ho1 hb; replace HO_851001 := O2 HO_851001 ho0 ho1 hb; replace BK850 := KB BK850 hb; replace HB := BS hb; clear hb; (try clear ho0); (try clear ho1)) | ((with_reducible refine gate_dst (N := 9) rfl ?_); refine bE 9 #[.slice none 0 0, .slice none 0 0] 40 ?_; intro gb863 hg w23 hbox hb; replace HO_8 := RB HO_8 hb; replace HO_851000 := RB HO_851000 hb; replace HO_851001 := RB HO_851001 hb; replace HO857 := RB HO857 hb; replace HO860 := RB HO860 hb; have BK863 := Aside0.mk (hbox); have GE863 := bG hg; replace HB := BS hb; have NB850_863 := bN BK850 hg; have NB863_850 := bM BK850 hg; replace BK850 := KB BK850 hb; clear hb hbox hg; obtain ⟨Ao24, co24, eo24⟩ := Kd.R_slice HO857.out; subst eo24; obtain ⟨hnb25, hnc25⟩ := nn NB863_850; have hcz26 := cz2 BK863; obtain ⟨Ao27, co27, eo27⟩ := Kd.R_slice HO860.out; subst eo27) | ((with_reducible refine gate_builtin (b := .append) (xs := #[.tmp 36, .tmp 38]) rfl ?_); at_builtin; refine Kd.R_append (Kd.int .i64) (w0 := w) w.heap.size rfl (.tmp 36) (.tmp 38) 22 3 (.int .i64 0) 8 rfl Try.underlying22 info3 rfl (by decide) (by omega) u8 x8_2 t861 [.int .i64 t861] (fun k_ => some k_ ≠ (.slice Ao20 x851000_2.length co20 : Value).ownBlock ∧ some k_ ≠ (.slice Ao21 x851001_2.length co21 : Value).ownBlock ∧ some k_ ≠ (.slice Ao24 t855.length co24 : Value).ownBlock ∧ some k_ ≠ (.slice Ao27 t858.length co27 : Value).ownBlock) (fun _ => False) rfl (by first | (go_simp; done) | (go_simp; rfl)) ?aP (fun _ hk => hk.elim) ?aF ?aO ?aB ?aS ?aL ?_; (case aP => exact rfl); (case aB => exact TB); (case aF => exact (fun k_ hk => ⟨Kd.fresh' (Kd.R_lt (RT HO_851000 BK863).out) k_ hk, Kd.fresh' (Kd.R_lt (RT HO_851001 BK863).out) k_ hk, Kd.fresh' (Kd.R_lt (RT HO857 BK863).out) k_ hk, Kd.fresh' (Kd.R_lt (RT HO860 BK863).out) k_ hk⟩)); (case aO => exact (by (with_reducible repeat (first | apply Kd.R_alloc | apply Kd.R_drewN | apply Kd.R_drew)); exact Kd.R_mono (Kd.R_far (p := ⟨gb863, 1, none⟩) (Kd.R_far (p := ⟨gb863, 0, none⟩) (Kd.R_types HO_8.out BK863.out (by decide)) (fun _ hk => hk.2) (.slice Ao24 t855.length co24)) (fun _ hk => hk.2) (.slice Ao27 t858.length co27)) (fun _ hk => ⟨hk.1.1.1.1, ⟨hk.1.1.1.2, ⟨hk.1.1.2, hk.1.2⟩⟩⟩))); (case aS => exact (below_size TB)); (case aL => have := LMc18.out; omega); intro v865 w28 ho hb hg hat; rw [← Ny864.out] at ho; have n0_ := Aside0.mk (Kd.R_after (ok := (fun k_ => some k_ ≠ (.slice Ao21 x851001_2.length co21 : Value).ownBlock ∧ some k_ ≠ (.slice Ao24 t855.length co24 : Value).ownBlock ∧ some k_ ≠ (.slice Ao27 t858.length co27 : Value).ownBlock)) (by (with_reducible repeat (first | apply Kd.R_alloc | apply Kd.R_drewN | apply Kd.R_drew)); exact Kd.R_mono (Kd.R_far (p := ⟨gb863, 1, none⟩) (Kd.R_far (p := ⟨gb863, 0, none⟩) (Kd.R_types HO_851000.out BK863.out (by decide)) (fun _ hk => hk.2) (.slice Ao24 t855.length co24)) (fun _ hk => hk.2) (.slice Ao27 t858.length co27)) (fun _ hk => ⟨⟨hk.1.1.1.2, ⟨hk.1.1.2, hk.1.2⟩⟩, hk.1.1.1.1⟩)) hg hat); have n1_ := Aside0.mk (Kd.R_after (ok := (fun k_ => some k_ ≠ (.slice Ao20 x851000_2.length co20 : Value).ownBlock ∧ some k_ ≠ (.slice Ao24 t855.length co24 : Value).ownBlock ∧ some k_ ≠ (.slice Ao27 t858.length co27 : Value).ownBlock)) (by (with_reducible repeat (first | apply Kd.R_alloc | apply Kd.R_drewN | apply Kd.R_drew)); exact Kd.R_mono (Kd.R_far (p := ⟨gb863, 1, none⟩) (Kd.R_far (p := ⟨gb863, 0, none⟩) (Kd.R_types HO_851001.out BK863.out (by decide)) (fun _ hk => hk.2) (.slice Ao24 t855.length co24)) (fun _ hk => hk.2) (.slice Ao27 t858.length co27)) (fun _ hk => ⟨⟨hk.1.1.1.2, ⟨hk.1.1.2, hk.1.2⟩⟩, hk.1.1.1.1⟩)) hg hat); have n2_ := Aside0.mk (blk_grown (g := gb850) (o := .cells #[.slice Ao20 x851000_2.length co20, .slice Ao21 x851001_2.length co21] 40 (0, 0)) (by (with_reducible repeat (first | refine blk_drewN ?_ _ | refine blk_drew ?_ | refine blk_alloc ?_ _)); refine blk_far ?_ NB850_863.out _; (with_reducible repeat (first | refine blk_drewN ?_ _ | refine blk_drew ?_ | refine blk_alloc ?_ _)); refine blk_far ?_ NB850_863.out _; (with_reducible repeat (first | refine blk_drewN ?_ _ | refine blk_drew ?_ | refine blk_alloc ?_ _)); exact BK850.out) hg (Kd.R_ne HO_8.out BK850.out (by decide))); have n3_ := Aside0.mk (Kd.R_after (ok := (fun k_ => some k_ ≠ (.slice Ao20 x851000_2.length co20 : Value).ownBlock ∧ some k_ ≠ (.slice Ao21 x851001_2.length co21 : Value).ownBlock ∧ some k_ ≠ (.slice Ao27 t858.length co27 : Value).ownBlock)) (by (with_reducible repeat (first | apply Kd.R_alloc | apply Kd.R_drewN | apply Kd.R_drew)); exact Kd.R_mono (Kd.R_far (p := ⟨gb863, 1, none⟩) (Kd.R_far (p := ⟨gb863, 0, none⟩) (Kd.R_types HO857.out BK863.out (by decide)) (fun _ hk => hk.2) (.slice Ao24 t855.length co24)) (fun _ hk => hk.2) (.slice Ao27 t858.length co27)) (fun _ hk => ⟨⟨hk.1.1.2, ⟨hk.1.2, hk.1.1.1.1⟩⟩, hk.1.1.1.2⟩)) hg hat); have n4_ := Aside0.mk (Kd.R_after (ok := (fun k_ => some k_ ≠ (.slice Ao20 x851000_2.length co20 : Value).ownBlock ∧ some k_ ≠ (.slice Ao21 x851001_2.length co21 : Value).ownBlock ∧ some k_ ≠ (.slice Ao24 t855.length co24 : Value).ownBlock)) (by (with_reducible repeat (first | apply Kd.R_alloc | apply Kd.R_drewN | apply Kd.R_drew)); exact Kd.R_mono (Kd.R_far (p := ⟨gb863, 1, none⟩) (Kd.R_far (p := ⟨gb863, 0, none⟩) (Kd.R_types HO860.out BK863.out (by decide)) (fun _ hk => hk.2) (.slice Ao24 t855.length co24)) (fun _ hk => hk.2) (.slice Ao27 t858.length co27)) (fun _ hk => ⟨⟨hk.1.1.2, ⟨hk.1.2, hk.1.1.1.1⟩⟩, hk.1.1.1.2⟩)) hg hat); have n5_ := Aside0.mk (blk_grown (g := gb863) (o := .cells #[.slice Ao24 t855.length co24, .slice Ao27 t858.length co27] 40 (0, 0)) (by (with_reducible repeat (first | refine blk_drewN ?_ _ | refine blk_drew ?_ | refine blk_alloc ?_ _)); refine blk_put (cs := #[.slice Ao24 t855.length co24, .slice none 0 0]) ?_ 1 _ rfl; (with_reducible repeat (first | refine blk_drewN ?_ _ | refine blk_drew ?_ | refine blk_alloc ?_ _)); refine blk_put (cs := #[.slice none 0 0, .slice none 0 0]) ?_ 0 _ rfl; (with_reducible repeat (first | refine blk_drewN ?_ _ | refine blk_drew ?_ | refine blk_alloc ?_ _)); exact BK863.out) hg (Kd.R_ne HO_8.out BK863.out (by decide))); have n6_ := Aside0.mk (hb); have n7_ := Aside0.mk (ho); clear HO_851000; clear HO_851001; clear BK850; clear HO857; clear HO860; clear BK863; clear HB; clear HO_8; have HO_851000 := n0_; have HO_851001 := n1_; have BK850 := n2_; have HO857 := n3_; have HO860 := n4_; have BK863 := n5_; have HB := n6_; have HO866 := n7_; clear n0_ n1_ n2_ n3_ n4_ n5_ n6_ n7_; clear ho hb hg hat; have hcz29 := cz2 BK863; have hcz30 := cz2 BK850))
        go_roundg k2
        case measure => have := HJ3.out; have := HK2.out; omega
        case rel => exact ⟨(y864), (wrap64 (x26_2 + 1)), (t855), (t858), (.slice Ao24 t855.length co24), (.slice Ao27 t858.length co27), TF, H', ⟨by have := HJ3.out; have := HK2.out; omega⟩, ⟨by (with_reducible repeat (first | apply Kd.R_alloc | apply Kd.R_drewN | apply Kd.R_drew)); exact Kd.R_mono (Kd.R_far (p := ⟨gb850, 1, none⟩) (Kd.R_far (p := ⟨gb850, 0, none⟩) (Kd.R_types HO866.out BK850.out (by decide)) (fun _ hk => hk.2) (.slice Ao24 t855.length co24)) (fun _ hk => hk.2) (.slice Ao27 t858.length co27)) (fun _ hk => ⟨hk.1.2.2.1, hk.1.2.2.2⟩)⟩, ⟨by (with_reducible repeat (first | apply Kd.R_alloc | apply Kd.R_drewN | apply Kd.R_drew)); exact Kd.R_mono (Kd.R_far (p := ⟨gb850, 1, none⟩) (Kd.R_far (p := ⟨gb850, 0, none⟩) (Kd.R_types HO857.out BK850.out (by decide)) (fun _ hk => hk.2) (.slice Ao24 t855.length co24)) (fun _ hk => hk.2) (.slice Ao27 t858.length co27)) (fun _ hk => ⟨hk.1.2, hk.1.1.2.2⟩)⟩, ⟨by (with_reducible repeat (first | apply Kd.R_alloc | apply Kd.R_drewN | apply Kd.R_drew)); exact Kd.R_mono (Kd.R_far (p := ⟨gb850, 1, none⟩) (Kd.R_far (p := ⟨gb850, 0, none⟩) (Kd.R_types HO860.out BK850.out (by decide)) (fun _ hk => hk.2) (.slice Ao24 t855.length co24)) (fun _ hk => hk.2) (.slice Ao27 t858.length co27)) (fun _ hk => ⟨hk.1.2, hk.1.1.2.2⟩)⟩, ⟨TS⟩, ⟨TB⟩⟩
       ·replace c17 := Bool.eq_false_iff.mpr c17
        subst c17
        replace H := iff' H
        simp only [Option.some.injEq, Prod.mk.injEq] at H
        obtain ⟨rfl, rfl⟩ := H
        have hcz31 := cz2 BK850
        obtain ⟨Ao32, co32, eo32⟩ := Kd.R_slice HO_851000.out
        subst eo32
        obtain ⟨Ao33, co33, eo33⟩ := Kd.R_slice HO_851001.out
        subst eo33
        go_wp2_with (first | ((with_reducible refine gate_callee (f := 46) rfl ?_); refine goesL_ (some 30) rfl rfl Try.func46 KR rfl #[.agg #[.slice Ao32 x851000_2.length co32, .slice Ao33 x851001_2.length co33]] rfl TA ?_; (with_reducible refine (impl_NextTurn.calls k2 _ _ x851000_2 _ _ x851001_2 t855 t858 t861 false _ ?side1 ?side2 ?side3 ?side4 A16.out).mono ?_); (case side1 => exact CW ((Kd.R_reads' HO_851000.out).2.2)); (case side2 => exact RI HO_851000); (case side3 => exact CW ((Kd.R_reads' HO_851001.out).2.2)); (case side4 => exact RI HO_851001); rintro e w34 ⟨v856, v859, rfl, ho0, ho1, hb⟩; refine ⟨_, rfl, ?_⟩; have HO857 := RL (NW (NW (NW ho0 HO_8) HO_851000) HO_851001); have HO860 := RL (NW (NW (NW ho1 HO_8) HO_851000) HO_851001); replace HO_8 := O2 HO_8 ho0 ho1 hb; replace HO_851000 := O2 HO_851000 ho0 ho1 hb; replace HO_851001 := O2 HO_851001 ho0 ho1 hb; replace BK850 := KB BK850 hb; replace HB := BS hb; clear hb; (try clear ho0); (try clear ho1)) | ((with_reducible refine gate_dst (N := 9) rfl ?_); refine bE 9 #[.slice none 0 0, .slice none 0 0] 40 ?_; intro gb863 hg w35 hbox hb; replace HO_8 := RB HO_8 hb; replace HO_851000 := RB HO_851000 hb; replace HO_851001 := RB HO_851001 hb; replace HO857 := RB HO857 hb; replace HO860 := RB HO860 hb; have BK863 := Aside0.mk (hbox); have GE863 := bG hg; replace HB := BS hb; have NB850_863 := bN BK850 hg; have NB863_850 := bM BK850 hg; replace BK850 := KB BK850 hb; clear hb hbox hg; obtain ⟨Ao36, co36, eo36⟩ := Kd.R_slice HO857.out; subst eo36; obtain ⟨hnb37, hnc37⟩ := nn NB863_850; have hcz38 := cz2 BK863; obtain ⟨Ao39, co39, eo39⟩ := Kd.R_slice HO860.out; subst eo39))
        go_ret2
        exact ⟨_, TE, TZ, TB⟩
      ·rw [if_neg c15] at H
       have c15b0 : decide (x26_2 < a1) = false := decide_eq_false c15
       clear c15
       simp only [Option.some.injEq, Prod.mk.injEq] at H
       obtain ⟨rfl, rfl⟩ := H
       go_wp2
       go_ret2
       exact ⟨_, TE, by (with_reducible repeat (first | apply Kd.R_alloc | apply Kd.R_drewN | apply Kd.R_drew)); exact Kd.R_mono HO_8.out (fun _ hk => trivial), TB⟩
end
end Go.Proofs.Ytioeomjjfajldaa.Pp
