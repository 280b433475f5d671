/- The functions that the law reaches, one Lean function and its proof for each; written by wip/pp of this workplace, joined by claimit.py. -/
import Derived.Test.YtioefechhknnlaaGreatDoorProg
import Derived.Below
import Derived.Deep.Draws
import Derived.Deep.AppendLies
import Derived.Maps.AppendAt
import Derived.OwnWalk
import Derived.Laws.BytesArg
import Derived.Laws.MakeOwn
import Derived.Laws.OwnMore
import Derived.Deep.OwnRows
import Derived.Tactics
import Derived.Lib.ConvBytes
import Derived.Laws.Slices
import Derived.WalkKit
import Derived.KernelRfl
import Derived.RowKit3
import Derived.Deep.LoopGhost
import Derived.Deep.QuietTactic
import Derived.BigQuiet
import Derived.WideLaws
import Derived.Deep.DeepCutAuto
import Derived.Deep.CutBlock
import Derived.Deep.RegionHeld3
import Derived.Laws.Rows
import Derived.Lib.AppendStr
import Derived.ArgAppend
import Derived.Laws.IdiomCopy
import Derived.OrdersHeld
import Derived.Laws.BitsLemmas
import Derived.RowKit
import Derived.Test.YtioefechhknnlaaGreatDoorKFnExactEncloserOfW
namespace Go.Proofs.YtioefechhknnlaaGreatDoor.Pp
open Go.RowKit Go.Proofs.YtioefechhknnlaaGreatDoorW.PrintWords Go.Proofs.YtioefechhknnlaaGreatDoorW.PrintLast Go.Proofs.YtioefechhknnlaaGreatDoorW.PrintMore
attribute [local go_sem] max2_int min2_int max_two min_two max_three min_three max_four min_four   -- for this text's walks alone
set_option linter.unusedVariables false
set_option linter.unusedSimpArgs false



set_option maxHeartbeats 8000000
set_option maxRecDepth 100000
section
def errW : Option Int → Value
 | none => .nilIface
 | some c => .iface 0 (.int .i64 c)
theorem errW_none : errW none = .nilIface := rfl
theorem errW_some (c : Int) : errW (some c) = .iface 0 (.int .i64 c) := rfl

theorem info3 : (Tryz.prog.info? 3).map (fun i => (i.zero, i.size, i.bytes)) = some (some (.int .i64 0), 1, 8) := by kernel_rfl
theorem info5 : (Tryz.prog.info? 5).map (fun i => (i.zero, i.size, i.bytes)) = some (some (.int .u8 0), 1, 1) := by kernel_rfl
theorem info9 : (Tryz.prog.info? 9).map (fun i => (i.zero, i.size, i.bytes)) = some (some (.string ⟨#[]⟩), 1, 16) := by kernel_rfl
theorem info30 : (Tryz.prog.info? 30).map (fun i => (i.zero, i.size, i.bytes)) = some (some (.agg #[(.string ⟨#[]⟩), (.int .i64 0), (.slice none 0 0)]), 3, 48) := by kernel_rfl
theorem info100 : (Tryz.prog.info? 100).map (fun i => (i.zero, i.size, i.bytes)) = some (some (.agg #[(.string ⟨#[]⟩), (.int .i64 0), (.int .i64 0), (.string ⟨#[]⟩)]), 4, 48) := by kernel_rfl
theorem info116 : (Tryz.prog.info? 116).map (fun i => (i.zero, i.size, i.bytes)) = some (some (.agg #[(.string ⟨#[]⟩), (.string ⟨#[]⟩), (.slice none 0 0)]), 3, 56) := by kernel_rfl
-- the values' own types
/-! #### struct type 98 -/
structure S_LRecord where
 f0 : ByteArray
 f1 : Int
 f2 : Int
 f3 : ByteArray
def z_LRecord : S_LRecord := ⟨(⟨#[]⟩ : ByteArray), (0 : Int), (0 : Int), (⟨#[]⟩ : ByteArray)⟩
def k_LRecord : Kd S_LRecord := Kd.iso (Kd.pair Kd.string (Kd.pair (Kd.int .i64) (Kd.pair (Kd.int .i64) Kd.string))) (fun x : S_LRecord => (x.f0, x.f1, x.f2, x.f3))
theorem k_LRecord_open {w : World} {x : S_LRecord} {cs : List Value} (h : k_LRecord.K w x cs) : cs = [.string x.f0, .int .i64 x.f1, .int .i64 x.f2, .string x.f3] := by
 obtain ⟨_, _, rfl, rfl, ⟨_, _, rfl, rfl, ⟨_, _, rfl, rfl, rfl⟩⟩⟩ := h
 exact rfl
theorem k_LRecord_openM {w : World} {base : Nat} {ok : Nat → Prop} {x : S_LRecord} {cs : List Value} (h : k_LRecord.M w base ok x cs) : cs = [.string x.f0, .int .i64 x.f1, .int .i64 x.f2, .string x.f3] := by
 obtain ⟨_, _, rfl, rfl, ⟨_, _, rfl, rfl, ⟨_, _, rfl, rfl, rfl⟩⟩⟩ := h
 exact rfl
theorem k_LRecord_mk (w : World) (x : S_LRecord)  : k_LRecord.K w x [.string x.f0, .int .i64 x.f1, .int .i64 x.f2, .string x.f3] := ⟨[.string x.f0], [.int .i64 x.f1, .int .i64 x.f2, .string x.f3], rfl, rfl, ⟨[.int .i64 x.f1], [.int .i64 x.f2, .string x.f3], rfl, rfl, ⟨[.int .i64 x.f2], [.string x.f3], rfl, rfl, rfl⟩⟩⟩
theorem k_LRecord_mkM (w : World) (base : Nat) (ok : Nat → Prop) (x : S_LRecord)  : k_LRecord.M w base ok x [.string x.f0, .int .i64 x.f1, .int .i64 x.f2, .string x.f3] := ⟨[.string x.f0], [.int .i64 x.f1, .int .i64 x.f2, .string x.f3], rfl, rfl, ⟨[.int .i64 x.f1], [.int .i64 x.f2, .string x.f3], rfl, rfl, ⟨[.int .i64 x.f2], [.string x.f3], rfl, rfl, rfl⟩⟩⟩
theorem k_LRecord_mkF (W : World) (ok : Nat → Prop) (x : S_LRecord) : Kd.FK k_LRecord W ok x [.string x.f0, .int .i64 x.f1, .int .i64 x.f2, .string x.f3] := fun W2 _ => k_LRecord_mk W2 x
def rd_TLRecord (xs : List S_LRecord) (i : Int) : S_LRecord := xs.getD i.toNat z_LRecord
theorem at_TLRecord {w : World} {A : Option Addr} {n : Nat} {xs : List S_LRecord} (h : Kd.C k_LRecord w A n xs) (i : Int) (h0 : 0 ≤ i) (h1 : i < n) : ∃ ad , A = some ad ∧ w.cell? (ad.add (i.toNat * 4)) = some (.string (rd_TLRecord xs i).f0) ∧ w.cell? ⟨(ad.add (i.toNat * 4)).block, (ad.add (i.toNat * 4)).off + 1, none⟩ = some (.int .i64 (rd_TLRecord xs i).f1) ∧ w.cell? ⟨(ad.add (i.toNat * 4)).block, (ad.add (i.toNat * 4)).off + 2, none⟩ = some (.int .i64 (rd_TLRecord xs i).f2) ∧ w.cell? ⟨(ad.add (i.toNat * 4)).block, (ad.add (i.toNat * 4)).off + 3, none⟩ = some (.string (rd_TLRecord xs i).f3) := by
 obtain ⟨ad, c, e, _, hK, hc0⟩ := Kd.C_get h z_LRecord i h0 h1
 have hc : ∀ j u, c[j]? = some u → w.cell? (ad.add (i.toNat * 4 + j)) = some u := hc0
 obtain rfl := k_LRecord_open hK
 exact ⟨ad, e, hc 0 _ rfl, by rw [← add_field _ _ 1 (by omega)]; exact hc 1 _ rfl, by rw [← add_field _ _ 2 (by omega)]; exact hc 2 _ rfl, by rw [← add_field _ _ 3 (by omega)]; exact hc 3 _ rfl⟩

/-! #### struct type 100 -/
structure S_Record where
 f0 : ByteArray
 f1 : Int
 f2 : Int
 f3 : ByteArray
def z_Record : S_Record := ⟨(⟨#[]⟩ : ByteArray), (0 : Int), (0 : Int), (⟨#[]⟩ : ByteArray)⟩
def k_Record : Kd S_Record := Kd.iso (Kd.pair Kd.string (Kd.pair (Kd.int .i64) (Kd.pair (Kd.int .i64) Kd.string))) (fun x : S_Record => (x.f0, x.f1, x.f2, x.f3))
theorem k_Record_open {w : World} {x : S_Record} {cs : List Value} (h : k_Record.K w x cs) : cs = [.string x.f0, .int .i64 x.f1, .int .i64 x.f2, .string x.f3] := by
 obtain ⟨_, _, rfl, rfl, ⟨_, _, rfl, rfl, ⟨_, _, rfl, rfl, rfl⟩⟩⟩ := h
 exact rfl
theorem k_Record_openM {w : World} {base : Nat} {ok : Nat → Prop} {x : S_Record} {cs : List Value} (h : k_Record.M w base ok x cs) : cs = [.string x.f0, .int .i64 x.f1, .int .i64 x.f2, .string x.f3] := by
 obtain ⟨_, _, rfl, rfl, ⟨_, _, rfl, rfl, ⟨_, _, rfl, rfl, rfl⟩⟩⟩ := h
 exact rfl
theorem k_Record_mk (w : World) (x : S_Record)  : k_Record.K w x [.string x.f0, .int .i64 x.f1, .int .i64 x.f2, .string x.f3] := ⟨[.string x.f0], [.int .i64 x.f1, .int .i64 x.f2, .string x.f3], rfl, rfl, ⟨[.int .i64 x.f1], [.int .i64 x.f2, .string x.f3], rfl, rfl, ⟨[.int .i64 x.f2], [.string x.f3], rfl, rfl, rfl⟩⟩⟩
theorem k_Record_mkM (w : World) (base : Nat) (ok : Nat → Prop) (x : S_Record)  : k_Record.M w base ok x [.string x.f0, .int .i64 x.f1, .int .i64 x.f2, .string x.f3] := ⟨[.string x.f0], [.int .i64 x.f1, .int .i64 x.f2, .string x.f3], rfl, rfl, ⟨[.int .i64 x.f1], [.int .i64 x.f2, .string x.f3], rfl, rfl, ⟨[.int .i64 x.f2], [.string x.f3], rfl, rfl, rfl⟩⟩⟩
theorem k_Record_mkF (W : World) (ok : Nat → Prop) (x : S_Record) : Kd.FK k_Record W ok x [.string x.f0, .int .i64 x.f1, .int .i64 x.f2, .string x.f3] := fun W2 _ => k_Record_mk W2 x
def rd_TRecord (xs : List S_Record) (i : Int) : S_Record := xs.getD i.toNat z_Record
theorem at_TRecord {w : World} {A : Option Addr} {n : Nat} {xs : List S_Record} (h : Kd.C k_Record w A n xs) (i : Int) (h0 : 0 ≤ i) (h1 : i < n) : ∃ ad , A = some ad ∧ w.cell? (ad.add (i.toNat * 4)) = some (.string (rd_TRecord xs i).f0) ∧ w.cell? ⟨(ad.add (i.toNat * 4)).block, (ad.add (i.toNat * 4)).off + 1, none⟩ = some (.int .i64 (rd_TRecord xs i).f1) ∧ w.cell? ⟨(ad.add (i.toNat * 4)).block, (ad.add (i.toNat * 4)).off + 2, none⟩ = some (.int .i64 (rd_TRecord xs i).f2) ∧ w.cell? ⟨(ad.add (i.toNat * 4)).block, (ad.add (i.toNat * 4)).off + 3, none⟩ = some (.string (rd_TRecord xs i).f3) := by
 obtain ⟨ad, c, e, _, hK, hc0⟩ := Kd.C_get h z_Record i h0 h1
 have hc : ∀ j u, c[j]? = some u → w.cell? (ad.add (i.toNat * 4 + j)) = some u := hc0
 obtain rfl := k_Record_open hK
 exact ⟨ad, e, hc 0 _ rfl, by rw [← add_field _ _ 1 (by omega)]; exact hc 1 _ rfl, by rw [← add_field _ _ 2 (by omega)]; exact hc 2 _ rfl, by rw [← add_field _ _ 3 (by omega)]; exact hc 3 _ rfl⟩

def rd_L5 (xs : List (List Int)) (i : Int) : (List Int) := xs.getD i.toNat ([] : List Int)
theorem at_L5 {w : World} {A : Option Addr} {n : Nat} {xs : List (List Int)} (h : Kd.C (Kd.slice 3 (Kd.int .i64)) w A n xs) (i : Int) (h0 : 0 ≤ i) (h1 : i < n) : ∃ ad A0 c0, A = some ad ∧ w.cell? (ad.add i.toNat) = some (.slice A0 (rd_L5 xs i).length c0) ∧ (rd_L5 xs i).length ≤ c0 ∧ (Kd.int .i64).C w A0 (rd_L5 xs i).length (rd_L5 xs i) := by
 obtain ⟨ad, c, e, _, hK, hc0⟩ := Kd.C_get h ([] : List Int) i h0 h1
 have hc : ∀ j u, c[j]? = some u → w.cell? (ad.add (i.toNat * 1 + j)) = some u := hc0
 obtain ⟨A0, c0, rfl, l0, g0⟩ := hK
 exact ⟨ad, A0, c0, e, by have hq := hc 0 _ rfl; rwa [Nat.mul_one, Nat.add_zero] at hq, l0, g0⟩

/-! #### struct type 116 -/
structure S_Gap where
 f0 : ByteArray
 f1 : ByteArray
 f2 : (List Int)
def z_Gap : S_Gap := ⟨(⟨#[]⟩ : ByteArray), (⟨#[]⟩ : ByteArray), ([] : List Int)⟩
def k_Gap : Kd S_Gap := Kd.iso (Kd.pair Kd.string (Kd.pair Kd.string (Kd.slice 3 (Kd.int .i64)))) (fun x : S_Gap => (x.f0, x.f1, x.f2))
theorem k_Gap_open {w : World} {x : S_Gap} {cs : List Value} (h : k_Gap.K w x cs) : ∃ A2 c2, cs = [.string x.f0, .string x.f1, .slice A2 x.f2.length c2] ∧ x.f2.length ≤ c2 ∧ (Kd.int .i64).C w A2 x.f2.length x.f2 := by
 obtain ⟨_, _, rfl, rfl, ⟨_, _, rfl, rfl, ⟨A2, c2, rfl, l2, g2⟩⟩⟩ := h
 exact ⟨A2, c2, rfl, l2, g2⟩
theorem k_Gap_openM {w : World} {base : Nat} {ok : Nat → Prop} {x : S_Gap} {cs : List Value} (h : k_Gap.M w base ok x cs) : ∃ v2, cs = [.string x.f0, .string x.f1, v2] ∧ (Kd.int .i64).R 3 w base ok v2 x.f2 := by
 obtain ⟨_, _, rfl, rfl, ⟨_, _, rfl, rfl, ⟨v2, rfl, g2⟩⟩⟩ := h
 exact ⟨v2, rfl, g2⟩
theorem k_Gap_mk (w : World) (x : S_Gap) {A2 : Option Addr} {c2 : Nat} (l2 : x.f2.length ≤ c2) (g2 : (Kd.int .i64).C w A2 x.f2.length x.f2) : k_Gap.K w x [.string x.f0, .string x.f1, .slice A2 x.f2.length c2] := ⟨[.string x.f0], [.string x.f1, .slice A2 x.f2.length c2], rfl, rfl, ⟨[.string x.f1], [.slice A2 x.f2.length c2], rfl, rfl, ⟨A2, c2, rfl, l2, g2⟩⟩⟩
theorem k_Gap_mkM (w : World) (base : Nat) (ok : Nat → Prop) (x : S_Gap) {v2 : Value} (g2 : (Kd.int .i64).R 3 w base ok v2 x.f2) : k_Gap.M w base ok x [.string x.f0, .string x.f1, v2] := ⟨[.string x.f0], [.string x.f1, v2], rfl, rfl, ⟨[.string x.f1], [v2], rfl, rfl, ⟨v2, rfl, g2⟩⟩⟩
theorem k_Gap_openF {W : World} {ok : Nat → Prop} {x : S_Gap} {cs : List Value} (h : Kd.FK k_Gap W ok x cs) : ∃ A2 c2, cs = [.string x.f0, .string x.f1, .slice A2 x.f2.length c2] ∧ x.f2.length ≤ c2 ∧ Kd.F (Kd.int .i64) W ok A2 x.f2.length x.f2 := by
 obtain ⟨A2, c2, rfl, l2, _⟩ := k_Gap_open (Kd.FK_now h)
 exact ⟨A2, c2, rfl, l2, (fun W' hW => by obtain ⟨A2_, c2_, he, l2_, g2_⟩ := k_Gap_open (h W' hW); injection (Option.some.inj (show some (Value.slice A2 x.f2.length c2) = some (Value.slice A2_ x.f2.length c2_) from congrArg (fun l => l[2]?) he)) with ha_ _ _; rw [ha_]; exact g2_)⟩
theorem k_Gap_mkF (W : World) (ok : Nat → Prop) (x : S_Gap) {A2 : Option Addr} {c2 : Nat} (l2 : x.f2.length ≤ c2) (g2 : Kd.F (Kd.int .i64) W ok A2 x.f2.length x.f2) : Kd.FK k_Gap W ok x [.string x.f0, .string x.f1, .slice A2 x.f2.length c2] := fun W2 hW => k_Gap_mk W2 x l2 (g2 W2 hW)
def rd_TGap (xs : List S_Gap) (i : Int) : S_Gap := xs.getD i.toNat z_Gap
theorem at_TGap {w : World} {A : Option Addr} {n : Nat} {xs : List S_Gap} (h : Kd.C k_Gap w A n xs) (i : Int) (h0 : 0 ≤ i) (h1 : i < n) : ∃ ad A2 c2, A = some ad ∧ w.cell? (ad.add (i.toNat * 3)) = some (.string (rd_TGap xs i).f0) ∧ w.cell? ⟨(ad.add (i.toNat * 3)).block, (ad.add (i.toNat * 3)).off + 1, none⟩ = some (.string (rd_TGap xs i).f1) ∧ w.cell? ⟨(ad.add (i.toNat * 3)).block, (ad.add (i.toNat * 3)).off + 2, none⟩ = some (.slice A2 (rd_TGap xs i).f2.length c2) ∧ (rd_TGap xs i).f2.length ≤ c2 ∧ (Kd.int .i64).C w A2 (rd_TGap xs i).f2.length (rd_TGap xs i).f2 := by
 obtain ⟨ad, c, e, _, hK, hc0⟩ := Kd.C_get h z_Gap i h0 h1
 have hc : ∀ j u, c[j]? = some u → w.cell? (ad.add (i.toNat * 3 + j)) = some u := hc0
 obtain ⟨A2, c2, rfl, l2, g2⟩ := k_Gap_open hK
 exact ⟨ad, A2, c2, e, hc 0 _ rfl, by rw [← add_field _ _ 1 (by omega)]; exact hc 1 _ rfl, by rw [← add_field _ _ 2 (by omega)]; exact hc 2 _ rfl, l2, g2⟩

def rd_L7 (xs : List (List S_LRecord)) (i : Int) : (List S_LRecord) := xs.getD i.toNat ([] : List S_LRecord)
theorem at_L7 {w : World} {A : Option Addr} {n : Nat} {xs : List (List S_LRecord)} (h : Kd.C (Kd.slice 98 k_LRecord) w A n xs) (i : Int) (h0 : 0 ≤ i) (h1 : i < n) : ∃ ad A0 c0, A = some ad ∧ w.cell? (ad.add i.toNat) = some (.slice A0 (rd_L7 xs i).length c0) ∧ (rd_L7 xs i).length ≤ c0 ∧ k_LRecord.C w A0 (rd_L7 xs i).length (rd_L7 xs i) := by
 obtain ⟨ad, c, e, _, hK, hc0⟩ := Kd.C_get h ([] : List S_LRecord) i h0 h1
 have hc : ∀ j u, c[j]? = some u → w.cell? (ad.add (i.toNat * 1 + j)) = some u := hc0
 obtain ⟨A0, c0, rfl, l0, g0⟩ := hK
 exact ⟨ad, A0, c0, e, by have hq := hc 0 _ rfl; rwa [Nat.mul_one, Nat.add_zero] at hq, l0, g0⟩

/-! #### struct type 24 -/
structure S24 where
 f0 : ByteArray
 f1 : Int
 f2 : (List S_LRecord)
def z24 : S24 := ⟨(⟨#[]⟩ : ByteArray), (0 : Int), ([] : List S_LRecord)⟩
def k24 : Kd S24 := Kd.iso (Kd.pair Kd.string (Kd.pair (Kd.int .i64) (Kd.slice 98 k_LRecord))) (fun x : S24 => (x.f0, x.f1, x.f2))
theorem k24_open {w : World} {x : S24} {cs : List Value} (h : k24.K w x cs) : ∃ A2 c2, cs = [.string x.f0, .int .i64 x.f1, .slice A2 x.f2.length c2] ∧ x.f2.length ≤ c2 ∧ k_LRecord.C w A2 x.f2.length x.f2 := by
 obtain ⟨_, _, rfl, rfl, ⟨_, _, rfl, rfl, ⟨A2, c2, rfl, l2, g2⟩⟩⟩ := h
 exact ⟨A2, c2, rfl, l2, g2⟩
theorem k24_openM {w : World} {base : Nat} {ok : Nat → Prop} {x : S24} {cs : List Value} (h : k24.M w base ok x cs) : ∃ v2, cs = [.string x.f0, .int .i64 x.f1, v2] ∧ k_LRecord.R 98 w base ok v2 x.f2 := by
 obtain ⟨_, _, rfl, rfl, ⟨_, _, rfl, rfl, ⟨v2, rfl, g2⟩⟩⟩ := h
 exact ⟨v2, rfl, g2⟩
theorem k24_mk (w : World) (x : S24) {A2 : Option Addr} {c2 : Nat} (l2 : x.f2.length ≤ c2) (g2 : k_LRecord.C w A2 x.f2.length x.f2) : k24.K w x [.string x.f0, .int .i64 x.f1, .slice A2 x.f2.length c2] := ⟨[.string x.f0], [.int .i64 x.f1, .slice A2 x.f2.length c2], rfl, rfl, ⟨[.int .i64 x.f1], [.slice A2 x.f2.length c2], rfl, rfl, ⟨A2, c2, rfl, l2, g2⟩⟩⟩
theorem k24_mkM (w : World) (base : Nat) (ok : Nat → Prop) (x : S24) {v2 : Value} (g2 : k_LRecord.R 98 w base ok v2 x.f2) : k24.M w base ok x [.string x.f0, .int .i64 x.f1, v2] := ⟨[.string x.f0], [.int .i64 x.f1, v2], rfl, rfl, ⟨[.int .i64 x.f1], [v2], rfl, rfl, ⟨v2, rfl, g2⟩⟩⟩
theorem k24_openF {W : World} {ok : Nat → Prop} {x : S24} {cs : List Value} (h : Kd.FK k24 W ok x cs) : ∃ A2 c2, cs = [.string x.f0, .int .i64 x.f1, .slice A2 x.f2.length c2] ∧ x.f2.length ≤ c2 ∧ Kd.F k_LRecord W ok A2 x.f2.length x.f2 := by
 obtain ⟨A2, c2, rfl, l2, _⟩ := k24_open (Kd.FK_now h)
 exact ⟨A2, c2, rfl, l2, (fun W' hW => by obtain ⟨A2_, c2_, he, l2_, g2_⟩ := k24_open (h W' hW); injection (Option.some.inj (show some (Value.slice A2 x.f2.length c2) = some (Value.slice A2_ x.f2.length c2_) from congrArg (fun l => l[2]?) he)) with ha_ _ _; rw [ha_]; exact g2_)⟩
theorem k24_mkF (W : World) (ok : Nat → Prop) (x : S24) {A2 : Option Addr} {c2 : Nat} (l2 : x.f2.length ≤ c2) (g2 : Kd.F k_LRecord W ok A2 x.f2.length x.f2) : Kd.FK k24 W ok x [.string x.f0, .int .i64 x.f1, .slice A2 x.f2.length c2] := fun W2 hW => k24_mk W2 x l2 (g2 W2 hW)
def rd_T24 (xs : List S24) (i : Int) : S24 := xs.getD i.toNat z24
theorem at_T24 {w : World} {A : Option Addr} {n : Nat} {xs : List S24} (h : Kd.C k24 w A n xs) (i : Int) (h0 : 0 ≤ i) (h1 : i < n) : ∃ ad A2 c2, A = some ad ∧ w.cell? (ad.add (i.toNat * 3)) = some (.string (rd_T24 xs i).f0) ∧ w.cell? ⟨(ad.add (i.toNat * 3)).block, (ad.add (i.toNat * 3)).off + 1, none⟩ = some (.int .i64 (rd_T24 xs i).f1) ∧ w.cell? ⟨(ad.add (i.toNat * 3)).block, (ad.add (i.toNat * 3)).off + 2, none⟩ = some (.slice A2 (rd_T24 xs i).f2.length c2) ∧ (rd_T24 xs i).f2.length ≤ c2 ∧ k_LRecord.C w A2 (rd_T24 xs i).f2.length (rd_T24 xs i).f2 := by
 obtain ⟨ad, c, e, _, hK, hc0⟩ := Kd.C_get h z24 i h0 h1
 have hc : ∀ j u, c[j]? = some u → w.cell? (ad.add (i.toNat * 3 + j)) = some u := hc0
 obtain ⟨A2, c2, rfl, l2, g2⟩ := k24_open hK
 exact ⟨ad, A2, c2, e, hc 0 _ rfl, by rw [← add_field _ _ 1 (by omega)]; exact hc 1 _ rfl, by rw [← add_field _ _ 2 (by omega)]; exact hc 2 _ rfl, l2, g2⟩

def rd_L9 (xs : List (List S_Record)) (i : Int) : (List S_Record) := xs.getD i.toNat ([] : List S_Record)
theorem at_L9 {w : World} {A : Option Addr} {n : Nat} {xs : List (List S_Record)} (h : Kd.C (Kd.slice 100 k_Record) w A n xs) (i : Int) (h0 : 0 ≤ i) (h1 : i < n) : ∃ ad A0 c0, A = some ad ∧ w.cell? (ad.add i.toNat) = some (.slice A0 (rd_L9 xs i).length c0) ∧ (rd_L9 xs i).length ≤ c0 ∧ k_Record.C w A0 (rd_L9 xs i).length (rd_L9 xs i) := by
 obtain ⟨ad, c, e, _, hK, hc0⟩ := Kd.C_get h ([] : List S_Record) i h0 h1
 have hc : ∀ j u, c[j]? = some u → w.cell? (ad.add (i.toNat * 1 + j)) = some u := hc0
 obtain ⟨A0, c0, rfl, l0, g0⟩ := hK
 exact ⟨ad, A0, c0, e, by have hq := hc 0 _ rfl; rwa [Nat.mul_one, Nat.add_zero] at hq, l0, g0⟩

/-! #### struct type 30 -/
structure S_Zone where
 f0 : ByteArray
 f1 : Int
 f2 : (List S_Record)
def z_Zone : S_Zone := ⟨(⟨#[]⟩ : ByteArray), (0 : Int), ([] : List S_Record)⟩
def k_Zone : Kd S_Zone := Kd.iso (Kd.pair Kd.string (Kd.pair (Kd.int .i64) (Kd.slice 100 k_Record))) (fun x : S_Zone => (x.f0, x.f1, x.f2))
theorem k_Zone_open {w : World} {x : S_Zone} {cs : List Value} (h : k_Zone.K w x cs) : ∃ A2 c2, cs = [.string x.f0, .int .i64 x.f1, .slice A2 x.f2.length c2] ∧ x.f2.length ≤ c2 ∧ k_Record.C w A2 x.f2.length x.f2 := by
 obtain ⟨_, _, rfl, rfl, ⟨_, _, rfl, rfl, ⟨A2, c2, rfl, l2, g2⟩⟩⟩ := h
 exact ⟨A2, c2, rfl, l2, g2⟩
theorem k_Zone_openM {w : World} {base : Nat} {ok : Nat → Prop} {x : S_Zone} {cs : List Value} (h : k_Zone.M w base ok x cs) : ∃ v2, cs = [.string x.f0, .int .i64 x.f1, v2] ∧ k_Record.R 100 w base ok v2 x.f2 := by
 obtain ⟨_, _, rfl, rfl, ⟨_, _, rfl, rfl, ⟨v2, rfl, g2⟩⟩⟩ := h
 exact ⟨v2, rfl, g2⟩
theorem k_Zone_mk (w : World) (x : S_Zone) {A2 : Option Addr} {c2 : Nat} (l2 : x.f2.length ≤ c2) (g2 : k_Record.C w A2 x.f2.length x.f2) : k_Zone.K w x [.string x.f0, .int .i64 x.f1, .slice A2 x.f2.length c2] := ⟨[.string x.f0], [.int .i64 x.f1, .slice A2 x.f2.length c2], rfl, rfl, ⟨[.int .i64 x.f1], [.slice A2 x.f2.length c2], rfl, rfl, ⟨A2, c2, rfl, l2, g2⟩⟩⟩
theorem k_Zone_mkM (w : World) (base : Nat) (ok : Nat → Prop) (x : S_Zone) {v2 : Value} (g2 : k_Record.R 100 w base ok v2 x.f2) : k_Zone.M w base ok x [.string x.f0, .int .i64 x.f1, v2] := ⟨[.string x.f0], [.int .i64 x.f1, v2], rfl, rfl, ⟨[.int .i64 x.f1], [v2], rfl, rfl, ⟨v2, rfl, g2⟩⟩⟩
theorem k_Zone_openF {W : World} {ok : Nat → Prop} {x : S_Zone} {cs : List Value} (h : Kd.FK k_Zone W ok x cs) : ∃ A2 c2, cs = [.string x.f0, .int .i64 x.f1, .slice A2 x.f2.length c2] ∧ x.f2.length ≤ c2 ∧ Kd.F k_Record W ok A2 x.f2.length x.f2 := by
 obtain ⟨A2, c2, rfl, l2, _⟩ := k_Zone_open (Kd.FK_now h)
 exact ⟨A2, c2, rfl, l2, (fun W' hW => by obtain ⟨A2_, c2_, he, l2_, g2_⟩ := k_Zone_open (h W' hW); injection (Option.some.inj (show some (Value.slice A2 x.f2.length c2) = some (Value.slice A2_ x.f2.length c2_) from congrArg (fun l => l[2]?) he)) with ha_ _ _; rw [ha_]; exact g2_)⟩
theorem k_Zone_mkF (W : World) (ok : Nat → Prop) (x : S_Zone) {A2 : Option Addr} {c2 : Nat} (l2 : x.f2.length ≤ c2) (g2 : Kd.F k_Record W ok A2 x.f2.length x.f2) : Kd.FK k_Zone W ok x [.string x.f0, .int .i64 x.f1, .slice A2 x.f2.length c2] := fun W2 hW => k_Zone_mk W2 x l2 (g2 W2 hW)
def rd_TZone (xs : List S_Zone) (i : Int) : S_Zone := xs.getD i.toNat z_Zone
theorem at_TZone {w : World} {A : Option Addr} {n : Nat} {xs : List S_Zone} (h : Kd.C k_Zone w A n xs) (i : Int) (h0 : 0 ≤ i) (h1 : i < n) : ∃ ad A2 c2, A = some ad ∧ w.cell? (ad.add (i.toNat * 3)) = some (.string (rd_TZone xs i).f0) ∧ w.cell? ⟨(ad.add (i.toNat * 3)).block, (ad.add (i.toNat * 3)).off + 1, none⟩ = some (.int .i64 (rd_TZone xs i).f1) ∧ w.cell? ⟨(ad.add (i.toNat * 3)).block, (ad.add (i.toNat * 3)).off + 2, none⟩ = some (.slice A2 (rd_TZone xs i).f2.length c2) ∧ (rd_TZone xs i).f2.length ≤ c2 ∧ k_Record.C w A2 (rd_TZone xs i).f2.length (rd_TZone xs i).f2 := by
 obtain ⟨ad, c, e, _, hK, hc0⟩ := Kd.C_get h z_Zone i h0 h1
 have hc : ∀ j u, c[j]? = some u → w.cell? (ad.add (i.toNat * 3 + j)) = some u := hc0
 obtain ⟨A2, c2, rfl, l2, g2⟩ := k_Zone_open hK
 exact ⟨ad, A2, c2, e, hc 0 _ rfl, by rw [← add_field _ _ 1 (by omega)]; exact hc 1 _ rfl, by rw [← add_field _ _ 2 (by omega)]; exact hc 2 _ rfl, l2, g2⟩

/-! #### struct type 49 -/
structure S_Diff where
 f0 : Int
 f1 : Int
 f2 : (List S_Record)
 f3 : (List S_Record)
def z_Diff : S_Diff := ⟨(0 : Int), (0 : Int), ([] : List S_Record), ([] : List S_Record)⟩
def k_Diff : Kd S_Diff := Kd.iso (Kd.pair (Kd.int .i64) (Kd.pair (Kd.int .i64) (Kd.pair (Kd.slice 100 k_Record) (Kd.slice 100 k_Record)))) (fun x : S_Diff => (x.f0, x.f1, x.f2, x.f3))
theorem k_Diff_open {w : World} {x : S_Diff} {cs : List Value} (h : k_Diff.K w x cs) : ∃ A2 c2 A3 c3, cs = [.int .i64 x.f0, .int .i64 x.f1, .slice A2 x.f2.length c2, .slice A3 x.f3.length c3] ∧ x.f2.length ≤ c2 ∧ k_Record.C w A2 x.f2.length x.f2 ∧ x.f3.length ≤ c3 ∧ k_Record.C w A3 x.f3.length x.f3 := by
 obtain ⟨_, _, rfl, rfl, ⟨_, _, rfl, rfl, ⟨_, _, rfl, ⟨A2, c2, rfl, l2, g2⟩, ⟨A3, c3, rfl, l3, g3⟩⟩⟩⟩ := h
 exact ⟨A2, c2, A3, c3, rfl, l2, g2, l3, g3⟩
theorem k_Diff_openM {w : World} {base : Nat} {ok : Nat → Prop} {x : S_Diff} {cs : List Value} (h : k_Diff.M w base ok x cs) : ∃ v2 v3, cs = [.int .i64 x.f0, .int .i64 x.f1, v2, v3] ∧ k_Record.R 100 w base ok v2 x.f2 ∧ k_Record.R 100 w base ok v3 x.f3 := by
 obtain ⟨_, _, rfl, rfl, ⟨_, _, rfl, rfl, ⟨_, _, rfl, ⟨v2, rfl, g2⟩, ⟨v3, rfl, g3⟩⟩⟩⟩ := h
 exact ⟨v2, v3, rfl, g2, g3⟩
theorem k_Diff_mk (w : World) (x : S_Diff) {A2 : Option Addr} {c2 : Nat} (l2 : x.f2.length ≤ c2) (g2 : k_Record.C w A2 x.f2.length x.f2) {A3 : Option Addr} {c3 : Nat} (l3 : x.f3.length ≤ c3) (g3 : k_Record.C w A3 x.f3.length x.f3) : k_Diff.K w x [.int .i64 x.f0, .int .i64 x.f1, .slice A2 x.f2.length c2, .slice A3 x.f3.length c3] := ⟨[.int .i64 x.f0], [.int .i64 x.f1, .slice A2 x.f2.length c2, .slice A3 x.f3.length c3], rfl, rfl, ⟨[.int .i64 x.f1], [.slice A2 x.f2.length c2, .slice A3 x.f3.length c3], rfl, rfl, ⟨[.slice A2 x.f2.length c2], [.slice A3 x.f3.length c3], rfl, ⟨A2, c2, rfl, l2, g2⟩, ⟨A3, c3, rfl, l3, g3⟩⟩⟩⟩
theorem k_Diff_mkM (w : World) (base : Nat) (ok : Nat → Prop) (x : S_Diff) {v2 : Value} (g2 : k_Record.R 100 w base ok v2 x.f2) {v3 : Value} (g3 : k_Record.R 100 w base ok v3 x.f3) : k_Diff.M w base ok x [.int .i64 x.f0, .int .i64 x.f1, v2, v3] := ⟨[.int .i64 x.f0], [.int .i64 x.f1, v2, v3], rfl, rfl, ⟨[.int .i64 x.f1], [v2, v3], rfl, rfl, ⟨[v2], [v3], rfl, ⟨v2, rfl, g2⟩, ⟨v3, rfl, g3⟩⟩⟩⟩
theorem k_Diff_openF {W : World} {ok : Nat → Prop} {x : S_Diff} {cs : List Value} (h : Kd.FK k_Diff W ok x cs) : ∃ A2 c2 A3 c3, cs = [.int .i64 x.f0, .int .i64 x.f1, .slice A2 x.f2.length c2, .slice A3 x.f3.length c3] ∧ x.f2.length ≤ c2 ∧ Kd.F k_Record W ok A2 x.f2.length x.f2 ∧ x.f3.length ≤ c3 ∧ Kd.F k_Record W ok A3 x.f3.length x.f3 := by
 obtain ⟨A2, c2, A3, c3, rfl, l2, _, l3, _⟩ := k_Diff_open (Kd.FK_now h)
 exact ⟨A2, c2, A3, c3, rfl, l2, (fun W' hW => by obtain ⟨A2_, c2_, A3_, c3_, he, l2_, g2_, l3_, g3_⟩ := k_Diff_open (h W' hW); injection (Option.some.inj (show some (Value.slice A2 x.f2.length c2) = some (Value.slice A2_ x.f2.length c2_) from congrArg (fun l => l[2]?) he)) with ha_ _ _; rw [ha_]; exact g2_), l3, (fun W' hW => by obtain ⟨A2_, c2_, A3_, c3_, he, l2_, g2_, l3_, g3_⟩ := k_Diff_open (h W' hW); injection (Option.some.inj (show some (Value.slice A3 x.f3.length c3) = some (Value.slice A3_ x.f3.length c3_) from congrArg (fun l => l[3]?) he)) with ha_ _ _; rw [ha_]; exact g3_)⟩
theorem k_Diff_mkF (W : World) (ok : Nat → Prop) (x : S_Diff) {A2 : Option Addr} {c2 : Nat} (l2 : x.f2.length ≤ c2) (g2 : Kd.F k_Record W ok A2 x.f2.length x.f2) {A3 : Option Addr} {c3 : Nat} (l3 : x.f3.length ≤ c3) (g3 : Kd.F k_Record W ok A3 x.f3.length x.f3) : Kd.FK k_Diff W ok x [.int .i64 x.f0, .int .i64 x.f1, .slice A2 x.f2.length c2, .slice A3 x.f3.length c3] := fun W2 hW => k_Diff_mk W2 x l2 (g2 W2 hW) l3 (g3 W2 hW)
def rd_TDiff (xs : List S_Diff) (i : Int) : S_Diff := xs.getD i.toNat z_Diff
theorem at_TDiff {w : World} {A : Option Addr} {n : Nat} {xs : List S_Diff} (h : Kd.C k_Diff w A n xs) (i : Int) (h0 : 0 ≤ i) (h1 : i < n) : ∃ ad A2 c2 A3 c3, A = some ad ∧ w.cell? (ad.add (i.toNat * 4)) = some (.int .i64 (rd_TDiff xs i).f0) ∧ w.cell? ⟨(ad.add (i.toNat * 4)).block, (ad.add (i.toNat * 4)).off + 1, none⟩ = some (.int .i64 (rd_TDiff xs i).f1) ∧ w.cell? ⟨(ad.add (i.toNat * 4)).block, (ad.add (i.toNat * 4)).off + 2, none⟩ = some (.slice A2 (rd_TDiff xs i).f2.length c2) ∧ w.cell? ⟨(ad.add (i.toNat * 4)).block, (ad.add (i.toNat * 4)).off + 3, none⟩ = some (.slice A3 (rd_TDiff xs i).f3.length c3) ∧ (rd_TDiff xs i).f2.length ≤ c2 ∧ k_Record.C w A2 (rd_TDiff xs i).f2.length (rd_TDiff xs i).f2 ∧ (rd_TDiff xs i).f3.length ≤ c3 ∧ k_Record.C w A3 (rd_TDiff xs i).f3.length (rd_TDiff xs i).f3 := by
 obtain ⟨ad, c, e, _, hK, hc0⟩ := Kd.C_get h z_Diff i h0 h1
 have hc : ∀ j u, c[j]? = some u → w.cell? (ad.add (i.toNat * 4 + j)) = some u := hc0
 obtain ⟨A2, c2, A3, c3, rfl, l2, g2, l3, g3⟩ := k_Diff_open hK
 exact ⟨ad, A2, c2, A3, c3, e, hc 0 _ rfl, by rw [← add_field _ _ 1 (by omega)]; exact hc 1 _ rfl, by rw [← add_field _ _ 2 (by omega)]; exact hc 2 _ rfl, by rw [← add_field _ _ 3 (by omega)]; exact hc 3 _ rfl, l2, g2, l3, g3⟩

def rd_L12 (xs : List (List S24)) (i : Int) : (List S24) := xs.getD i.toNat ([] : List S24)
theorem at_L12 {w : World} {A : Option Addr} {n : Nat} {xs : List (List S24)} (h : Kd.C (Kd.slice 24 k24) w A n xs) (i : Int) (h0 : 0 ≤ i) (h1 : i < n) : ∃ ad A0 c0, A = some ad ∧ w.cell? (ad.add i.toNat) = some (.slice A0 (rd_L12 xs i).length c0) ∧ (rd_L12 xs i).length ≤ c0 ∧ k24.C w A0 (rd_L12 xs i).length (rd_L12 xs i) := by
 obtain ⟨ad, c, e, _, hK, hc0⟩ := Kd.C_get h ([] : List S24) i h0 h1
 have hc : ∀ j u, c[j]? = some u → w.cell? (ad.add (i.toNat * 1 + j)) = some u := hc0
 obtain ⟨A0, c0, rfl, l0, g0⟩ := hK
 exact ⟨ad, A0, c0, e, by have hq := hc 0 _ rfl; rwa [Nat.mul_one, Nat.add_zero] at hq, l0, g0⟩

/-! #### struct type 36 -/
structure S_LWorld where
 f0 : (List S24)
def z_LWorld : S_LWorld := ⟨([] : List S24)⟩
def k_LWorld : Kd S_LWorld := Kd.iso (Kd.slice 24 k24) (fun x : S_LWorld => x.f0)
theorem k_LWorld_open {w : World} {x : S_LWorld} {cs : List Value} (h : k_LWorld.K w x cs) : ∃ A0 c0, cs = [.slice A0 x.f0.length c0] ∧ x.f0.length ≤ c0 ∧ k24.C w A0 x.f0.length x.f0 := by
 obtain ⟨A0, c0, rfl, l0, g0⟩ := h
 exact ⟨A0, c0, rfl, l0, g0⟩
theorem k_LWorld_openM {w : World} {base : Nat} {ok : Nat → Prop} {x : S_LWorld} {cs : List Value} (h : k_LWorld.M w base ok x cs) : ∃ v0, cs = [v0] ∧ k24.R 24 w base ok v0 x.f0 := by
 obtain ⟨v0, rfl, g0⟩ := h
 exact ⟨v0, rfl, g0⟩
theorem k_LWorld_mk (w : World) (x : S_LWorld) {A0 : Option Addr} {c0 : Nat} (l0 : x.f0.length ≤ c0) (g0 : k24.C w A0 x.f0.length x.f0) : k_LWorld.K w x [.slice A0 x.f0.length c0] := ⟨A0, c0, rfl, l0, g0⟩
theorem k_LWorld_mkM (w : World) (base : Nat) (ok : Nat → Prop) (x : S_LWorld) {v0 : Value} (g0 : k24.R 24 w base ok v0 x.f0) : k_LWorld.M w base ok x [v0] := ⟨v0, rfl, g0⟩
theorem k_LWorld_openF {W : World} {ok : Nat → Prop} {x : S_LWorld} {cs : List Value} (h : Kd.FK k_LWorld W ok x cs) : ∃ A0 c0, cs = [.slice A0 x.f0.length c0] ∧ x.f0.length ≤ c0 ∧ Kd.F k24 W ok A0 x.f0.length x.f0 := by
 obtain ⟨A0, c0, rfl, l0, _⟩ := k_LWorld_open (Kd.FK_now h)
 exact ⟨A0, c0, rfl, l0, (fun W' hW => by obtain ⟨A0_, c0_, he, l0_, g0_⟩ := k_LWorld_open (h W' hW); injection (Option.some.inj (show some (Value.slice A0 x.f0.length c0) = some (Value.slice A0_ x.f0.length c0_) from congrArg (fun l => l[0]?) he)) with ha_ _ _; rw [ha_]; exact g0_)⟩
theorem k_LWorld_mkF (W : World) (ok : Nat → Prop) (x : S_LWorld) {A0 : Option Addr} {c0 : Nat} (l0 : x.f0.length ≤ c0) (g0 : Kd.F k24 W ok A0 x.f0.length x.f0) : Kd.FK k_LWorld W ok x [.slice A0 x.f0.length c0] := fun W2 hW => k_LWorld_mk W2 x l0 (g0 W2 hW)
def rd_TLWorld (xs : List S_LWorld) (i : Int) : S_LWorld := xs.getD i.toNat z_LWorld
theorem at_TLWorld {w : World} {A : Option Addr} {n : Nat} {xs : List S_LWorld} (h : Kd.C k_LWorld w A n xs) (i : Int) (h0 : 0 ≤ i) (h1 : i < n) : ∃ ad A0 c0, A = some ad ∧ w.cell? (ad.add i.toNat) = some (.slice A0 (rd_TLWorld xs i).f0.length c0) ∧ (rd_TLWorld xs i).f0.length ≤ c0 ∧ k24.C w A0 (rd_TLWorld xs i).f0.length (rd_TLWorld xs i).f0 := by
 obtain ⟨ad, c, e, _, hK, hc0⟩ := Kd.C_get h z_LWorld i h0 h1
 have hc : ∀ j u, c[j]? = some u → w.cell? (ad.add (i.toNat * 1 + j)) = some u := hc0
 obtain ⟨A0, c0, rfl, l0, g0⟩ := k_LWorld_open hK
 exact ⟨ad, A0, c0, e, by have hq := hc 0 _ rfl; rwa [Nat.mul_one, Nat.add_zero] at hq, l0, g0⟩

def WF_LRecord (x : S_LRecord) : Prop := (x.f0.size ≤ maxLen) ∧ ((Lit.int .i64 x.f1).wf = true) ∧ ((Lit.int .i64 x.f2).wf = true) ∧ x.f3.size ≤ maxLen
def WF24 (x : S24) : Prop := (x.f0.size ≤ maxLen) ∧ ((Lit.int .i64 x.f1).wf = true) ∧ x.f2.length ≤ maxLen ∧ ∀ x_ ∈ x.f2, WF_LRecord x_
def WF_LWorld (x : S_LWorld) : Prop := x.f0.length ≤ maxLen ∧ ∀ x_ ∈ x.f0, WF24 x_
end
section
/-! ### laws_szRecord: function 76 -/
def laws_szRecord.f (a0_0 : ByteArray) (a0_1 : Int) (a0_2 : Int) (a0_3 : ByteArray) (a1 : Int) : Option (Int) := if (wrap64 (a1 - (a0_0.size : Int))) < 0 then (some (-1)) else (if (wrap64 ((wrap64 (a1 - (a0_0.size : Int))) - (a0_3.size : Int))) < 0 then (some (-1)) else (some (wrap64 ((wrap64 (a1 - (a0_0.size : Int))) - (a0_3.size : Int)))))
theorem laws_szRecord.calls (a0_0 : ByteArray) (a0_1 : Int) (a0_2 : Int) (a0_3 : ByteArray) (a1 : Int) (r : Int) (w : World) (h : laws_szRecord.f a0_0 a0_1 a0_2 a0_3 a1 = some r) :
  Calls Tryz.prog 76 #[.agg #[.string a0_0, .int .i64 a0_1, .int .i64 a0_2, .string a0_3], .int .i64 a1] w fun e w' => e = .returned (.int .i64 r) ∧ Below w.heap.size w w' := by
 have hu98 := Tryz.underlying98
 have HB := Aside0.mk (Below.refl w.heap.size w)
 have H : (if (wrap64 (a1 - (a0_0.size : Int))) < 0 then (some (-1)) else (if (wrap64 ((wrap64 (a1 - (a0_0.size : Int))) - (a0_3.size : Int))) < 0 then (some (-1)) else (some (wrap64 ((wrap64 (a1 - (a0_0.size : Int))) - (a0_3.size : Int)))))) = some r := h
 clear h
 by_cases c3 : (wrap64 (a1 - (a0_0.size : Int))) < 0
 ·rw [if_pos c3] at H
  have c3b0 : decide ((wrap64 (a1 - (a0_0.size : Int))) < 0) = true := decide_eq_true c3
  clear c3
  obtain rfl := Option.some.inj H
  go_enter Tryz.func76, Tryz.ntmps76
  go_wp2_with (first | ((with_reducible refine gate_dst (N := 2) rfl ?_); refine bE 2 #[.string a0_0, .int .i64 a0_1, .int .i64 a0_2, .string a0_3] 98 ?_; intro gb101 hg w4 hbox hb; have BK101 := Aside0.mk (hbox); have GE101 := bG hg; replace HB := BS hb; clear hb hbox hg; have hcz5 := cz4 BK101))
  go_ret
  exact ⟨TE, TB⟩
 ·rw [if_neg c3] at H
  have c3b0 : decide ((wrap64 (a1 - (a0_0.size : Int))) < 0) = false := decide_eq_false c3
  clear c3
  by_cases c6 : (wrap64 ((wrap64 (a1 - (a0_0.size : Int))) - (a0_3.size : Int))) < 0
  ·rw [if_pos c6] at H
   have c6b0 : decide ((wrap64 ((wrap64 (a1 - (a0_0.size : Int))) - (a0_3.size : Int))) < 0) = true := decide_eq_true c6
   clear c6
   obtain rfl := Option.some.inj H
   go_enter Tryz.func76, Tryz.ntmps76
   go_wp2_with (first | ((with_reducible refine gate_dst (N := 2) rfl ?_); refine bE 2 #[.string a0_0, .int .i64 a0_1, .int .i64 a0_2, .string a0_3] 98 ?_; intro gb101 hg w7 hbox hb; have BK101 := Aside0.mk (hbox); have GE101 := bG hg; replace HB := BS hb; clear hb hbox hg; have hcz8 := cz4 BK101))
   go_ret
   exact ⟨TE, TB⟩
  ·rw [if_neg c6] at H
   have c6b0 : decide ((wrap64 ((wrap64 (a1 - (a0_0.size : Int))) - (a0_3.size : Int))) < 0) = false := decide_eq_false c6
   clear c6
   obtain rfl := Option.some.inj H
   go_enter Tryz.func76, Tryz.ntmps76
   go_wp2_with (first | ((with_reducible refine gate_dst (N := 2) rfl ?_); refine bE 2 #[.string a0_0, .int .i64 a0_1, .int .i64 a0_2, .string a0_3] 98 ?_; intro gb101 hg w9 hbox hb; have BK101 := Aside0.mk (hbox); have GE101 := bG hg; replace HB := BS hb; clear hb hbox hg; have hcz10 := cz4 BK101))
   go_ret
   exact ⟨TE, TB⟩
end
section
/-! ### laws_szRecordS: function 31 -/
def laws_szRecordS.l0 : Nat → List (S_LRecord) → Int → Int → Option (Int)
 | 0, _, _, _ => none
 | k + 1, x0, x1, x5 => if x5 < (x0.length : Int) then (if 0 ≤ x5 then ((laws_szRecord.f ((rd_TLRecord x0 x5).f0) ((rd_TLRecord x0 x5).f1) ((rd_TLRecord x0 x5).f2) ((rd_TLRecord x0 x5).f3) x1).bind fun t103 => (if t103 < 0 then (some (-1)) else (laws_szRecordS.l0 k x0 t103 (wrap64 (x5 + 1))))) else (none)) else (some x1)
def laws_szRecordS.f (k : Nat) (l0 : List (S_LRecord)) (a1 : Int) : Option (Int) := if (wrap64 (a1 - (l0.length : Int))) < 0 then (some (-1)) else (laws_szRecordS.l0 k l0 (wrap64 (a1 - (l0.length : Int))) 0)
theorem laws_szRecordS.calls (k : Nat) (A0 : Option Addr) (c0 : Nat) (l0 : List (S_LRecord)) (a1 : Int) (r : Int) (w : World) (hr0 : Kd.C k_LRecord w A0 l0.length l0) (hc0 : l0.length ≤ c0) (h : laws_szRecordS.f k l0 a1 = some r) :
  Calls Tryz.prog 31 #[.slice A0 l0.length c0, .int .i64 a1] w fun e w' => e = .returned (.int .i64 r) ∧ Below w.heap.size w w' := by
 have hu98 := Tryz.underlying98
 have HR0 := Aside0.mk hr0
 have HC0 := Aside0.mk hc0
 clear hr0 hc0
 have HB := Aside0.mk (Below.refl w.heap.size w)
 have H : (if (wrap64 (a1 - (l0.length : Int))) < 0 then (some (-1)) else (laws_szRecordS.l0 k l0 (wrap64 (a1 - (l0.length : Int))) 0)) = some r := h
 clear h
 by_cases c3 : (wrap64 (a1 - (l0.length : Int))) < 0
 ·rw [if_pos c3] at H
  have c3b0 : decide ((wrap64 (a1 - (l0.length : Int))) < 0) = true := decide_eq_true c3
  clear c3
  obtain rfl := Option.some.inj H
  go_enter Tryz.func31, Tryz.ntmps31
  go_wp2
  go_ret
  exact ⟨TE, TB⟩
 ·rw [if_neg c3] at H
  have c3b0 : decide ((wrap64 (a1 - (l0.length : Int))) < 0) = false := decide_eq_false c3
  clear c3
  have H' := Aside0.mk H
  clear H
  go_enter Tryz.func31, Tryz.ntmps31
  go_wp2
  go_loopg [1, 5] k (fun kq v1 v5 w' => ∃ (x1_1 : Int) (x5_1 : Int), v1 = .int .i64 x1_1 ∧ v5 = .int .i64 x5_1 ∧ Aside0 (laws_szRecordS.l0 kq l0 x1_1 x5_1 = some r) ∧ Aside0 (kq ≤ k) ∧ Aside0 (Below w.heap.size w w'))
  case atStart => exact ⟨(wrap64 (a1 - (l0.length : Int))), (0), TF, TF, H', ⟨Nat.le_refl _⟩, ⟨TB⟩⟩
  case round =>
   clear H'
   try clear p2
   try clear c3
   try clear c3b0
   obtain ⟨x1_1, x5_1, rfl, rfl, HA, HK1, HB⟩ := hrel
   cases gk with
   | zero => exact absurd HA.out (by simp [laws_szRecordS.l0])
   | succ k1 =>
    have H := HA.out
    clear HA
    simp only [laws_szRecordS.l0] at H
    by_cases c4 : x5_1 < (l0.length : Int)
    ·rw [if_pos c4] at H
     have c4b0 : decide (x5_1 < (l0.length : Int)) = true := decide_eq_true c4
     clear c4
     obtain ⟨c5, H⟩ := ifn H
     have c5b0 : decide (0 ≤ x5_1) = true := decide_eq_true c5
     clear c5
     obtain ⟨t103, A6, H⟩ := bnd H
     by_cases c7 : t103 < 0
     ·rw [if_pos c7] at H
      have c7b0 : decide (t103 < 0) = true := decide_eq_true c7
      clear c7
      obtain rfl := Option.some.inj H
      have p102 : 0 ≤ (x5_1 : Int) := TD
      have q102 : x5_1 < (l0.length : Int) := TD
      obtain ⟨ad102, e102, hx102_0, hx102_1, hx102_2, hx102_3⟩ := at_TLRecord (Kd.C_below HR0.out HB.out) x5_1 p102 q102
      cases e102
      replace p102 := eq_true p102
      replace q102 := eq_true q102
      go_wp2_with (first | ((with_reducible refine gate_callee (f := 76) rfl ?_); refine goesL_ (some 23) rfl rfl Tryz.func76 KR rfl #[.agg #[.string ((rd_TLRecord l0 x5_1).f0), .int .i64 ((rd_TLRecord l0 x5_1).f1), .int .i64 ((rd_TLRecord l0 x5_1).f2), .string ((rd_TLRecord l0 x5_1).f3)], .int .i64 x1_1] rfl TA ?_; (with_reducible refine (laws_szRecord.calls ((rd_TLRecord l0 x5_1).f0) ((rd_TLRecord l0 x5_1).f1) ((rd_TLRecord l0 x5_1).f2) ((rd_TLRecord l0 x5_1).f3) x1_1 t103 _ A6.out).mono ?_); rintro e w8 ⟨rfl, hb⟩; refine ⟨_, rfl, ?_⟩; replace HB := BS hb; (try clear hb); (try clear hb2); (try clear hk); (try clear hi)))
      go_ret
      exact ⟨TE, TB⟩
     ·rw [if_neg c7] at H
      have c7b0 : decide (t103 < 0) = false := decide_eq_false c7
      clear c7
      have H' := Aside0.mk H
      clear H
      have p102 : 0 ≤ (x5_1 : Int) := TD
      have q102 : x5_1 < (l0.length : Int) := TD
      obtain ⟨ad102, e102, hx102_0, hx102_1, hx102_2, hx102_3⟩ := at_TLRecord (Kd.C_below HR0.out HB.out) x5_1 p102 q102
      cases e102
      replace p102 := eq_true p102
      replace q102 := eq_true q102
      go_wp2_with (first | ((with_reducible refine gate_callee (f := 76) rfl ?_); refine goesL_ (some 23) rfl rfl Tryz.func76 KR rfl #[.agg #[.string ((rd_TLRecord l0 x5_1).f0), .int .i64 ((rd_TLRecord l0 x5_1).f1), .int .i64 ((rd_TLRecord l0 x5_1).f2), .string ((rd_TLRecord l0 x5_1).f3)], .int .i64 x1_1] rfl TA ?_; (with_reducible refine (laws_szRecord.calls ((rd_TLRecord l0 x5_1).f0) ((rd_TLRecord l0 x5_1).f1) ((rd_TLRecord l0 x5_1).f2) ((rd_TLRecord l0 x5_1).f3) x1_1 t103 _ A6.out).mono ?_); rintro e w9 ⟨rfl, hb⟩; refine ⟨_, rfl, ?_⟩; replace HB := BS hb; (try clear hb); (try clear hb2); (try clear hk); (try clear hi)))
      go_roundg k1
      case measure => have := HK1.out; omega
      case rel => exact ⟨(t103), (wrap64 (x5_1 + 1)), TF, TF, H', ⟨TM⟩, ⟨TB⟩⟩
    ·rw [if_neg c4] at H
     have c4b0 : decide (x5_1 < (l0.length : Int)) = false := decide_eq_false c4
     clear c4
     obtain rfl := Option.some.inj H
     go_wp2
     go_ret
     exact ⟨TE, TB⟩
end
section
/-! ### laws_szZone: function 13 -/
def laws_szZone.f (k : Nat) (a0_0 : ByteArray) (a0_1 : Int) (l0_2 : List (S_LRecord)) (a1 : Int) : Option (Int) := if (wrap64 (a1 - (a0_0.size : Int))) < 0 then (some (-1)) else ((laws_szRecordS.f k l0_2 (wrap64 (a1 - (a0_0.size : Int)))).bind fun t105 => (if t105 < 0 then (some (-1)) else (some t105)))
theorem laws_szZone.calls (k : Nat) (a0_0 : ByteArray) (a0_1 : Int) (A0_2 : Option Addr) (c0_2 : Nat) (l0_2 : List (S_LRecord)) (a1 : Int) (r : Int) (w : World) (hr0_2 : Kd.C k_LRecord w A0_2 l0_2.length l0_2) (hc0_2 : l0_2.length ≤ c0_2) (h : laws_szZone.f k a0_0 a0_1 l0_2 a1 = some r) :
  Calls Tryz.prog 13 #[.agg #[.string a0_0, .int .i64 a0_1, .slice A0_2 l0_2.length c0_2], .int .i64 a1] w fun e w' => e = .returned (.int .i64 r) ∧ Below w.heap.size w w' := by
 have hu24 := Tryz.underlying24
 have HR0_2 := Aside0.mk hr0_2
 have HC0_2 := Aside0.mk hc0_2
 clear hr0_2 hc0_2
 have HB := Aside0.mk (Below.refl w.heap.size w)
 have H : (if (wrap64 (a1 - (a0_0.size : Int))) < 0 then (some (-1)) else ((laws_szRecordS.f k l0_2 (wrap64 (a1 - (a0_0.size : Int)))).bind fun t105 => (if t105 < 0 then (some (-1)) else (some t105)))) = some r := h
 clear h
 by_cases c3 : (wrap64 (a1 - (a0_0.size : Int))) < 0
 ·rw [if_pos c3] at H
  have c3b0 : decide ((wrap64 (a1 - (a0_0.size : Int))) < 0) = true := decide_eq_true c3
  clear c3
  obtain rfl := Option.some.inj H
  go_enter Tryz.func13, Tryz.ntmps13
  go_wp2_with (first | ((with_reducible refine gate_dst (N := 2) rfl ?_); refine bE 2 #[.string a0_0, .int .i64 a0_1, .slice A0_2 l0_2.length c0_2] 24 ?_; intro gb104 hg w4 hbox hb; have BK104 := Aside0.mk (hbox); have GE104 := bG hg; replace HB := BS hb; clear hb hbox hg; have hcz5 := cz3 BK104))
  go_ret
  exact ⟨TE, TB⟩
 ·rw [if_neg c3] at H
  have c3b0 : decide ((wrap64 (a1 - (a0_0.size : Int))) < 0) = false := decide_eq_false c3
  clear c3
  obtain ⟨t105, A6, H⟩ := bnd H
  by_cases c7 : t105 < 0
  ·rw [if_pos c7] at H
   have c7b0 : decide (t105 < 0) = true := decide_eq_true c7
   clear c7
   obtain rfl := Option.some.inj H
   go_enter Tryz.func13, Tryz.ntmps13
   go_wp2_with (first | ((with_reducible refine gate_dst (N := 2) rfl ?_); refine bE 2 #[.string a0_0, .int .i64 a0_1, .slice A0_2 l0_2.length c0_2] 24 ?_; intro gb104 hg w8 hbox hb; have BK104 := Aside0.mk (hbox); have GE104 := bG hg; replace HB := BS hb; clear hb hbox hg; have hcz9 := cz3 BK104) | ((with_reducible refine gate_callee (f := 31) rfl ?_); refine goesL_ (some 15) rfl rfl Tryz.func31 KR rfl #[.slice A0_2 l0_2.length c0_2, .int .i64 (wrap64 (a1 - (a0_0.size : Int)))] rfl TA ?_; (with_reducible refine (laws_szRecordS.calls k _ _ l0_2 (wrap64 (a1 - (a0_0.size : Int))) t105 _ ?side1 ?side2 A6.out).mono ?_); (case side1 => exact CW ((Kd.C_below HR0_2.out HB.out))); (case side2 => exact HC0_2.out); rintro e w10 ⟨rfl, hb⟩; refine ⟨_, rfl, ?_⟩; replace BK104 := KB BK104 hb; replace HB := BS hb; (try clear hb); (try clear hb2); (try clear hk); (try clear hi)))
   go_ret
   exact ⟨TE, TB⟩
  ·rw [if_neg c7] at H
   have c7b0 : decide (t105 < 0) = false := decide_eq_false c7
   clear c7
   obtain rfl := Option.some.inj H
   go_enter Tryz.func13, Tryz.ntmps13
   go_wp2_with (first | ((with_reducible refine gate_dst (N := 2) rfl ?_); refine bE 2 #[.string a0_0, .int .i64 a0_1, .slice A0_2 l0_2.length c0_2] 24 ?_; intro gb104 hg w11 hbox hb; have BK104 := Aside0.mk (hbox); have GE104 := bG hg; replace HB := BS hb; clear hb hbox hg; have hcz12 := cz3 BK104) | ((with_reducible refine gate_callee (f := 31) rfl ?_); refine goesL_ (some 15) rfl rfl Tryz.func31 KR rfl #[.slice A0_2 l0_2.length c0_2, .int .i64 (wrap64 (a1 - (a0_0.size : Int)))] rfl TA ?_; (with_reducible refine (laws_szRecordS.calls k _ _ l0_2 (wrap64 (a1 - (a0_0.size : Int))) t105 _ ?side1 ?side2 A6.out).mono ?_); (case side1 => exact CW ((Kd.C_below HR0_2.out HB.out))); (case side2 => exact HC0_2.out); rintro e w13 ⟨rfl, hb⟩; refine ⟨_, rfl, ?_⟩; replace BK104 := KB BK104 hb; replace HB := BS hb; (try clear hb); (try clear hb2); (try clear hk); (try clear hi)))
   go_ret
   exact ⟨TE, TB⟩
end
section
/-! ### laws_toRecord: function 79 -/
def laws_toRecord.f (a0_0 : ByteArray) (a0_1 : Int) (a0_2 : Int) (a0_3 : ByteArray) : Option (ByteArray × Int × Int × ByteArray) := some (a0_0, a0_1, a0_2, a0_3)
theorem laws_toRecord.calls (a0_0 : ByteArray) (a0_1 : Int) (a0_2 : Int) (a0_3 : ByteArray) (r1 : ByteArray) (r2 : Int) (r3 : Int) (r4 : ByteArray) (w : World) (h : laws_toRecord.f a0_0 a0_1 a0_2 a0_3 = some (r1, r2, r3, r4)) :
  Calls Tryz.prog 79 #[.agg #[.string a0_0, .int .i64 a0_1, .int .i64 a0_2, .string a0_3]] w fun e w' => e = .returned (.agg #[.string r1, .int .i64 r2, .int .i64 r3, .string r4]) ∧ Below w.heap.size w w' := by
 have hu98 := Tryz.underlying98
 have hu100 := Tryz.underlying100
 have HB := Aside0.mk (Below.refl w.heap.size w)
 have H : (some (a0_0, a0_1, a0_2, a0_3)) = some (r1, r2, r3, r4) := h
 clear h
 simp only [Option.some.injEq, Prod.mk.injEq] at H
 obtain ⟨rfl, rfl, rfl, rfl⟩ := H
 go_enter Tryz.func79, Tryz.ntmps79
 go_wp2_with (first | ((with_reducible refine gate_dst (N := 1) rfl ?_); refine bE 1 #[.string a0_0, .int .i64 a0_1, .int .i64 a0_2, .string a0_3] 98 ?_; intro gb106 hg w2 hbox hb; have BK106 := Aside0.mk (hbox); have GE106 := bG hg; replace HB := BS hb; clear hb hbox hg) | ((with_reducible refine gate_dst (N := 2) rfl ?_); refine bE 2 #[.string (⟨#[]⟩ : ByteArray), .int .i64 0, .int .i64 0, .string (⟨#[]⟩ : ByteArray)] 100 ?_; intro gb107 hg w3 hbox hb; have BK107 := Aside0.mk (hbox); have GE107 := bG hg; replace HB := BS hb; have NB106_107 := bN BK106 hg; have NB107_106 := bM BK106 hg; replace BK106 := KB BK106 hb; clear hb hbox hg) | ((with_reducible refine gate_dst (N := 3) rfl ?_); refine bE 3 #[.string (⟨#[]⟩ : ByteArray), .int .i64 0, .int .i64 0, .string (⟨#[]⟩ : ByteArray)] 100 ?_; intro gb108 hg w4 hbox hb; have BK108 := Aside0.mk (hbox); have GE108 := bG hg; replace HB := BS hb; have NB106_108 := bN BK106 hg; have NB108_106 := bM BK106 hg; replace BK106 := KB BK106 hb; have NB107_108 := bN BK107 hg; have NB108_107 := bM BK107 hg; replace BK107 := KB BK107 hb; clear hb hbox hg; have hnb5 := NB106_107.out; have hnc5 := NB107_106.out; have hnb6 := NB106_108.out; have hnc6 := NB108_106.out; have hcz7 := cz4 BK106; have hnb8 := NB108_107.out; have hnc8 := NB107_108.out; have hcz9 := cz4 BK108; have hcz10 := cz4 BK107))
 refine bodyPost_ret (results_cell_row rfl _ _ gb107 100 #[.string a0_0, .int .i64 a0_1, .int .i64 a0_2, .string a0_3] (0, 0) _ rfl (by (with_reducible repeat (first | refine blk_drewN ?_ _ | refine blk_drew ?_ | refine blk_alloc ?_ _)); refine blk_put (cs := #[.string a0_0, .int .i64 a0_1, .int .i64 a0_2, .string (⟨#[]⟩ : ByteArray)]) ?_ 3 _ rfl; (with_reducible repeat (first | refine blk_drewN ?_ _ | refine blk_drew ?_ | refine blk_alloc ?_ _)); refine blk_put (cs := #[.string a0_0, .int .i64 a0_1, .int .i64 0, .string (⟨#[]⟩ : ByteArray)]) ?_ 2 _ rfl; (with_reducible repeat (first | refine blk_drewN ?_ _ | refine blk_drew ?_ | refine blk_alloc ?_ _)); refine blk_put (cs := #[.string a0_0, .int .i64 0, .int .i64 0, .string (⟨#[]⟩ : ByteArray)]) ?_ 1 _ rfl; (with_reducible repeat (first | refine blk_drewN ?_ _ | refine blk_drew ?_ | refine blk_alloc ?_ _)); refine blk_put (cs := #[.string (⟨#[]⟩ : ByteArray), .int .i64 0, .int .i64 0, .string (⟨#[]⟩ : ByteArray)]) ?_ 0 _ rfl; (with_reducible repeat (first | refine blk_drewN ?_ _ | refine blk_drew ?_ | refine blk_alloc ?_ _)); refine blk_far ?_ NB107_108.out _; (with_reducible repeat (first | refine blk_drewN ?_ _ | refine blk_drew ?_ | refine blk_alloc ?_ _)); refine blk_far ?_ NB107_108.out _; (with_reducible repeat (first | refine blk_drewN ?_ _ | refine blk_drew ?_ | refine blk_alloc ?_ _)); refine blk_far ?_ NB107_108.out _; (with_reducible repeat (first | refine blk_drewN ?_ _ | refine blk_drew ?_ | refine blk_alloc ?_ _)); refine blk_far ?_ NB107_108.out _; (with_reducible repeat (first | refine blk_drewN ?_ _ | refine blk_drew ?_ | refine blk_alloc ?_ _)); exact BK107.out) Tryz.underlying100 rfl KR) rfl ?_
 exact ⟨TE, TB⟩
end
section
/-! ### laws_toRecordS: function 33 -/
def laws_toRecordS.l0 : Nat → List (S_LRecord) → List (S_Record) → Int → Option ((List (S_Record)))
 | 0, _, _, _ => none
 | k + 1, x0, x3, x4 => if x4 < (x0.length : Int) then (if 0 ≤ x4 then ((laws_toRecord.f ((rd_TLRecord x0 x4).f0) ((rd_TLRecord x0 x4).f1) ((rd_TLRecord x0 x4).f2) ((rd_TLRecord x0 x4).f3)).bind fun bt113 => (if x4 < (x3.length : Int) then (laws_toRecordS.l0 k x0 (x3.set (x4 : Int).toNat (⟨bt113.1, bt113.2.1, bt113.2.2.1, bt113.2.2.2⟩ : S_Record)) (wrap64 (x4 + 1))) else (none))) else (none)) else (some x3)
def laws_toRecordS.f (k : Nat) (l0 : List (S_LRecord)) : Option ((List (S_Record))) := if 0 ≤ (l0.length : Int) then (if ((l0.length : Int) : Int).toNat ≤ 5864062014805 then (laws_toRecordS.l0 k l0 (List.replicate ((l0.length : Int) : Int).toNat z_Record) 0) else (none)) else (none)
theorem laws_toRecordS.calls (k : Nat) (A0 : Option Addr) (c0 : Nat) (l0 : List (S_LRecord)) (r : List (S_Record)) (w : World) (hr0 : Kd.C k_LRecord w A0 l0.length l0) (hc0 : l0.length ≤ c0) (h : laws_toRecordS.f k l0 = some r) :
  Calls Tryz.prog 33 #[.slice A0 l0.length c0] w fun e w' => ∃ v0_ : Value, e = .returned (v0_) ∧ Kd.R k_Record 100 w' w.heap.size (fun _ => True) v0_ r ∧ Below w.heap.size w w' := by
 have hu98 := Tryz.underlying98
 have hu100 := Tryz.underlying100
 have HR0 := Aside0.mk hr0
 have HC0 := Aside0.mk hc0
 clear hr0 hc0
 have HB := Aside0.mk (Below.refl w.heap.size w)
 have H : (if 0 ≤ (l0.length : Int) then (if ((l0.length : Int) : Int).toNat ≤ 5864062014805 then (laws_toRecordS.l0 k l0 (List.replicate ((l0.length : Int) : Int).toNat z_Record) 0) else (none)) else (none)) = some r := h
 clear h
 obtain ⟨c2, H⟩ := ifn H
 have c2b0 := eq_true c2
 have c2b1 : decide (0 ≤ (l0.length : Int)) = true := decide_eq_true c2
 clear c2
 obtain ⟨c3, H⟩ := ifn H
 have c3b0 := eq_true c3
 have c3b1 : decide (((l0.length : Int) : Int).toNat ≤ 5864062014805) = true := decide_eq_true c3
 clear c3
 obtain ⟨y109, hy109⟩ : ∃ y_ : List (S_Record), y_ = (List.replicate ((l0.length : Int) : Int).toNat z_Record) := ⟨_, rfl⟩
 replace H : (laws_toRecordS.l0 k l0 y109 0) = some r := by first | (rw [hy109]; with_reducible exact H) | (have H2_ := (Option.bind_some _ _).symm.trans H; rw [hy109]; with_reducible exact H2_) | (have H2_ := (Option.bind_some _ _).symm.trans H; with_reducible exact H2_) | with_reducible exact H | (rw [hy109]; exact H) | exact H
 have Ny109 := Aside0.mk hy109
 clear hy109
 have H' := Aside0.mk H
 clear H
 go_enter Tryz.func33, Tryz.ntmps33
 go_wp2_with (first | ((with_reducible refine gate_dst (N := 7) rfl ?_); refine Kd.R_make k_Record _ 100 rfl (N := 7) rfl 28 _ _ rfl (l0.length : Int) rfl rfl Tryz.underlying28 (.agg #[(.string ⟨#[]⟩), (.int .i64 0), (.int .i64 0), (.string ⟨#[]⟩)]) 48 info100 rfl (by decide) (by omega) z_Record (ok := fun _ => True) (okp := fun _ => True) (k_Record_mkM _ _ _ z_Record ) (fun _ hk => hk) trivial TD (Nat.le_trans (Nat.mul_le_mul_right _ (TD : (l0.length : Int).toNat ≤ 5864062014805)) (by omega)) (Below.refl _ _) (Nat.le_refl _) ?_; intro v110 w4 ho5 hb hg_ hnew_; clear hg_ hnew_; (first | rw [← Ny109.out] at ho5 | (simp only [Int.reduceToNat] at ho5; rw [← Ny109.out] at ho5)); have HO111 := RL ho5; replace HB := BS hb; clear hb ho5))
 go_loopg [4] k (fun kq v4 w' => ∃ (x3_1 : List (S_Record)) (x4_1 : Int), v4 = .int .i64 x4_1 ∧ Aside0 (laws_toRecordS.l0 kq l0 x3_1 x4_1 = some r) ∧ Aside0 (kq ≤ k) ∧ Aside0 (Kd.R k_Record 100 w' w.heap.size (fun _ => True) v110 x3_1) ∧ Aside0 (Below w.heap.size w w'))
 case atStart => exact ⟨(y109), (0), TF, H', ⟨Nat.le_refl _⟩, RW HO111, ⟨TB⟩⟩
 case round =>
  clear H'
  try clear c2
  try clear c2b0
  try clear c2b1
  try clear p2
  try clear c3
  try clear c3b0
  try clear c3b1
  obtain ⟨x3_1, x4_1, rfl, HA, HK1, HO_3, HB⟩ := hrel
  cases gk with
  | zero => exact absurd HA.out (by simp [laws_toRecordS.l0])
  | succ k1 =>
   have H := HA.out
   clear HA
   simp only [laws_toRecordS.l0] at H
   by_cases c6 : x4_1 < (l0.length : Int)
   ·rw [if_pos c6] at H
    have c6b0 : decide (x4_1 < (l0.length : Int)) = true := decide_eq_true c6
    clear c6
    obtain ⟨c7, H⟩ := ifn H
    have c7b0 : decide (0 ≤ x4_1) = true := decide_eq_true c7
    clear c7
    obtain ⟨⟨t113, t114, t115, t116⟩, A8, H⟩ := bnd H
    try dsimp only at H
    obtain ⟨c9, H⟩ := ifn H
    have c9b0 : decide (x4_1 < (x3_1.length : Int)) = true := decide_eq_true c9
    clear c9
    obtain ⟨y117, hy117⟩ : ∃ y_ : List (S_Record), y_ = (x3_1.set (x4_1 : Int).toNat (⟨t113, t114, t115, t116⟩ : S_Record)) := ⟨_, rfl⟩
    replace H : (laws_toRecordS.l0 k1 l0 y117 (wrap64 (x4_1 + 1))) = some r := by first | (rw [hy117]; with_reducible exact H) | (have H2_ := (Option.bind_some _ _).symm.trans H; rw [hy117]; with_reducible exact H2_) | (have H2_ := (Option.bind_some _ _).symm.trans H; with_reducible exact H2_) | with_reducible exact H | (rw [hy117]; exact H) | exact H
    have Ny117 := Aside0.mk hy117
    clear hy117
    have H' := Aside0.mk H
    clear H
    have p112 : 0 ≤ (x4_1 : Int) := TD
    have q112 : x4_1 < (l0.length : Int) := TD
    obtain ⟨ad112, e112, hx112_0, hx112_1, hx112_2, hx112_3⟩ := at_TLRecord (Kd.C_below HR0.out HB.out) x4_1 p112 q112
    cases e112
    replace p112 := eq_true p112
    replace q112 := eq_true q112
    go_wp2_with (first | ((with_reducible refine gate_callee (f := 79) rfl ?_); refine goesL_ (some 20) rfl rfl Tryz.func79 KR rfl #[.agg #[.string ((rd_TLRecord l0 x4_1).f0), .int .i64 ((rd_TLRecord l0 x4_1).f1), .int .i64 ((rd_TLRecord l0 x4_1).f2), .string ((rd_TLRecord l0 x4_1).f3)]] rfl TA ?_; (with_reducible refine (laws_toRecord.calls ((rd_TLRecord l0 x4_1).f0) ((rd_TLRecord l0 x4_1).f1) ((rd_TLRecord l0 x4_1).f2) ((rd_TLRecord l0 x4_1).f3) t113 t114 t115 t116 _ A8.out).mono ?_); rintro e w11 ⟨rfl, hb⟩; refine ⟨_, rfl, ?_⟩; replace HO_3 := RB HO_3 hb; replace HB := BS hb; (try clear hb); (try clear hb2); (try clear hk); (try clear hi); have p10 : 0 ≤ (x4_1 : Int) := TD; have q10 : (x4_1 : Int) < ((x3_1.length : Int) : Int) := TD; obtain ⟨go10, co10, eo10, gb10, gl10, cl10, HG10⟩ := Kd.R_form HO_3.out (by omega); (first | cases eo10 | (injection eo10 with ea_ en_ ec_; (first | subst ea_ | (injection ea_ with ea_; subst ea_)); subst ec_; clear en_)); have GB10 := Aside0.mk gb10; have GG10 := Aside0.mk HG10; clear gb10 gl10 HG10; obtain ⟨ce10, hcl10, hM10, hcc10, hfr10⟩ := Kd.R_elem HO_3.out z_Record (x4_1 : Int) p10 q10; obtain rfl := k_Record_openM hM10; have hx10_0 : w11.cell? ⟨go10, (x4_1 : Int).toNat * 4, none⟩ = some (.string ((rd_TRecord x3_1 x4_1).f0)) := hcc10 0 _ rfl; have hx10_1 : w11.cell? ⟨go10, (x4_1 : Int).toNat * 4 + 1, none⟩ = some (.int .i64 ((rd_TRecord x3_1 x4_1).f1)) := hcc10 1 _ rfl; have hx10_2 : w11.cell? ⟨go10, (x4_1 : Int).toNat * 4 + 2, none⟩ = some (.int .i64 ((rd_TRecord x3_1 x4_1).f2)) := hcc10 2 _ rfl; have hx10_3 : w11.cell? ⟨go10, (x4_1 : Int).toNat * 4 + 3, none⟩ = some (.string ((rd_TRecord x3_1 x4_1).f3)) := hcc10 3 _ rfl; have hf10_0 : w11.frozen? ⟨go10, (x4_1 : Int).toNat * 4, none⟩ = false := hfr10 0; have hf10_1 : w11.frozen? ⟨go10, (x4_1 : Int).toNat * 4 + 1, none⟩ = false := hfr10 1; have hf10_2 : w11.frozen? ⟨go10, (x4_1 : Int).toNat * 4 + 2, none⟩ = false := hfr10 2; have hf10_3 : w11.frozen? ⟨go10, (x4_1 : Int).toNat * 4 + 3, none⟩ = false := hfr10 3; clear hcl10 hcc10 hfr10 hM10; replace p10 := eq_true p10; replace q10 := eq_true q10; have HX12 := Aside0.mk (show Kd.R k_Record 100 w11 w.heap.size (fun _ => True) (.slice (some ⟨go10, 0, none⟩) x3_1.length co10) x3_1 from (RW HO_3).out); obtain ⟨ce12, hcl12, hM12, hcc12, hfr12⟩ := Kd.R_elem HX12.out z_Record (x4_1 : Int) TD (by have h_ : (x4_1 : Int) < ((x3_1.length : Int) : Int) := TD; first | exact h_ | (have e_ := (Kd.R_reads' HO_3.out).1; omega) | simpa using h_); obtain rfl := k_Record_openM hM12; have HP12 := Kd.R_seg HX12.out (x4_1 : Int) TD (by have h_ : (x4_1 : Int) < ((x3_1.length : Int) : Int) := TD; first | exact h_ | (have e_ := (Kd.R_reads' HO_3.out).1; omega) | simpa using h_) (seg := [.string t113, .int .i64 t114, .int .i64 t115, .string t116]) (j := 0) hcl12 hcc12 (show 4 ≤ 4 from by decide) (x' := (⟨t113, t114, t115, t116⟩ : S_Record)) (k_Record_mkM _ _ _ (⟨t113, t114, t115, t116⟩ : S_Record) ) (fun _ hk => hk); have hx12_0 := hcc12 0 _ rfl; (try simp only [show (k_Record).sz = 4 from rfl, Nat.mul_one, Nat.add_zero] at hx12_0); have hf12_0 := hfr12 0; (try simp only [show (k_Record).sz = 4 from rfl, Nat.mul_one, Nat.add_zero] at hf12_0); have hx12_1 := hcc12 1 _ rfl; (try simp only [show (k_Record).sz = 4 from rfl, Nat.mul_one, Nat.add_zero] at hx12_1); have hf12_1 := hfr12 1; (try simp only [show (k_Record).sz = 4 from rfl, Nat.mul_one, Nat.add_zero] at hf12_1); have hx12_2 := hcc12 2 _ rfl; (try simp only [show (k_Record).sz = 4 from rfl, Nat.mul_one, Nat.add_zero] at hx12_2); have hf12_2 := hfr12 2; (try simp only [show (k_Record).sz = 4 from rfl, Nat.mul_one, Nat.add_zero] at hf12_2); have hx12_3 := hcc12 3 _ rfl; (try simp only [show (k_Record).sz = 4 from rfl, Nat.mul_one, Nat.add_zero] at hx12_3); have hf12_3 := hfr12 3; (try simp only [show (k_Record).sz = 4 from rfl, Nat.mul_one, Nat.add_zero] at hf12_3); clear hcl12 hcc12 hfr12 hM12) | ((with_reducible refine gate_store (t := 100) (p := 21) rfl ?_); refine store_event (t := 100) (p := 21) (v := ?vo_w13) (w1 := ((((w11.setCell ⟨go10, (x4_1 : Int).toNat * 4, none⟩ (.string t113)).setCell ⟨go10, (x4_1 : Int).toNat * 4 + 1, none⟩ (.int .i64 t114)).setCell ⟨go10, (x4_1 : Int).toNat * 4 + 2, none⟩ (.int .i64 t115)).setCell ⟨go10, (x4_1 : Int).toNat * 4 + 3, none⟩ (.string t116))) ?hg ?ho ?hn ?hr ?_; (case ho => rfl); (case hg => rfl); (case hn => rfl); (case hr => first | (go_simp; done) | (go_simp; rfl)); intro w13 hw; have hg : w11.grownBy w13 (some go10) := (by rw [hw]; exact HP12.2); have hp_ : Kd.R k_Record 100 w13 w.heap.size (fun _ => True) (.slice (some ⟨go10, 0, none⟩) x3_1.length co10) y117 := (by rw [hw, Ny117.out]; exact HP12.1); clear HP12; replace HO_3 := Aside0.mk (hp_); replace HB := Aside0.mk ((by rw [hw]; exact below_set (below_set (below_set (below_set (HB.out) GB10.out) GB10.out) GB10.out) GB10.out : Below w.heap.size w w13)); clear hg hw hp_))
    go_roundg k1
    case measure => have := HK1.out; omega
    case rel => exact ⟨(y117), (wrap64 (x4_1 + 1)), TF, H', ⟨TM⟩, RW HO_3, ⟨TB⟩⟩
   ·rw [if_neg c6] at H
    have c6b0 : decide (x4_1 < (l0.length : Int)) = false := decide_eq_false c6
    clear c6
    obtain rfl := Option.some.inj H
    go_wp2
    go_ret
    exact ⟨_, TE, (RW HO_3).out, TB⟩
end
section
/-! ### laws_toZone: function 15 -/
def laws_toZone.f (k : Nat) (a0_0 : ByteArray) (a0_1 : Int) (l0_2 : List (S_LRecord)) : Option (ByteArray × Int × (List (S_Record))) := (laws_toRecordS.f k l0_2).bind fun t121 => (some (a0_0, a0_1, t121))
theorem laws_toZone.calls (k : Nat) (a0_0 : ByteArray) (a0_1 : Int) (A0_2 : Option Addr) (c0_2 : Nat) (l0_2 : List (S_LRecord)) (r1 : ByteArray) (r2 : Int) (r3 : List (S_Record)) (w : World) (hr0_2 : Kd.C k_LRecord w A0_2 l0_2.length l0_2) (hc0_2 : l0_2.length ≤ c0_2) (h : laws_toZone.f k a0_0 a0_1 l0_2 = some (r1, r2, r3)) :
  Calls Tryz.prog 15 #[.agg #[.string a0_0, .int .i64 a0_1, .slice A0_2 l0_2.length c0_2]] w fun e w' => ∃ v2_ : Value, e = .returned (.agg #[.string r1, .int .i64 r2, v2_]) ∧ Kd.R k_Record 100 w' w.heap.size (fun _ => True) v2_ r3 ∧ Below w.heap.size w w' := by
 have hu24 := Tryz.underlying24
 have hu30 := Tryz.underlying30
 have HR0_2 := Aside0.mk hr0_2
 have HC0_2 := Aside0.mk hc0_2
 clear hr0_2 hc0_2
 have HB := Aside0.mk (Below.refl w.heap.size w)
 have H : ((laws_toRecordS.f k l0_2).bind fun t121 => (some (a0_0, a0_1, t121))) = some (r1, r2, r3) := h
 clear h
 obtain ⟨t121, A2, H⟩ := bnd H
 simp only [Option.some.injEq, Prod.mk.injEq] at H
 obtain ⟨rfl, rfl, rfl⟩ := H
 go_enter Tryz.func15, Tryz.ntmps15
 go_wp2_with (first | ((with_reducible refine gate_dst (N := 1) rfl ?_); refine bE 1 #[.string a0_0, .int .i64 a0_1, .slice A0_2 l0_2.length c0_2] 24 ?_; intro gb118 hg w3 hbox hb; have BK118 := Aside0.mk (hbox); have GE118 := bG hg; replace HB := BS hb; clear hb hbox hg) | ((with_reducible refine gate_dst (N := 2) rfl ?_); refine bE 2 #[.string (⟨#[]⟩ : ByteArray), .int .i64 0, .slice none 0 0] 30 ?_; intro gb119 hg w4 hbox hb; have BK119 := Aside0.mk (hbox); have GE119 := bG hg; replace HB := BS hb; have NB118_119 := bN BK118 hg; have NB119_118 := bM BK118 hg; replace BK118 := KB BK118 hb; clear hb hbox hg) | ((with_reducible refine gate_dst (N := 3) rfl ?_); refine bE 3 #[.string (⟨#[]⟩ : ByteArray), .int .i64 0, .slice none 0 0] 30 ?_; intro gb120 hg w5 hbox hb; have BK120 := Aside0.mk (hbox); have GE120 := bG hg; replace HB := BS hb; have NB118_120 := bN BK118 hg; have NB120_118 := bM BK118 hg; replace BK118 := KB BK118 hb; have NB119_120 := bN BK119 hg; have NB120_119 := bM BK119 hg; replace BK119 := KB BK119 hb; clear hb hbox hg; have hnb6 := NB118_119.out; have hnc6 := NB119_118.out; have hnb7 := NB118_120.out; have hnc7 := NB120_118.out; have hcz8 := cz3 BK118; have hnb9 := NB120_119.out; have hnc9 := NB119_120.out; have hcz10 := cz3 BK120) | ((with_reducible refine gate_callee (f := 33) rfl ?_); refine goesL_ (some 12) rfl rfl Tryz.func33 KR rfl #[.slice A0_2 l0_2.length c0_2] rfl TA ?_; (with_reducible refine (laws_toRecordS.calls k _ _ l0_2 t121 _ ?side1 ?side2 A2.out).mono ?_); (case side1 => exact Kd.C_below HR0_2.out TB); (case side2 => exact HC0_2.out); rintro e w11 ⟨v122, rfl, ho0, hb⟩; refine ⟨_, rfl, ?_⟩; have HO123 := RL ho0; replace BK118 := Aside0.mk (blk_below (g := gb118) (o := .cells #[.string a0_0, .int .i64 a0_1, .slice A0_2 l0_2.length c0_2] 24 (0, 0)) (by (with_reducible repeat (first | refine blk_drewN ?_ _ | refine blk_drew ?_ | refine blk_alloc ?_ _)); refine blk_far ?_ NB118_120.out _; (with_reducible repeat (first | refine blk_drewN ?_ _ | refine blk_drew ?_ | refine blk_alloc ?_ _)); refine blk_far ?_ NB118_120.out _; (with_reducible repeat (first | refine blk_drewN ?_ _ | refine blk_drew ?_ | refine blk_alloc ?_ _)); exact BK118.out) hb); replace BK119 := Aside0.mk (blk_below (g := gb119) (o := .cells #[.string (⟨#[]⟩ : ByteArray), .int .i64 0, .slice none 0 0] 30 (0, 0)) (by (with_reducible repeat (first | refine blk_drewN ?_ _ | refine blk_drew ?_ | refine blk_alloc ?_ _)); refine blk_far ?_ NB119_120.out _; (with_reducible repeat (first | refine blk_drewN ?_ _ | refine blk_drew ?_ | refine blk_alloc ?_ _)); refine blk_far ?_ NB119_120.out _; (with_reducible repeat (first | refine blk_drewN ?_ _ | refine blk_drew ?_ | refine blk_alloc ?_ _)); exact BK119.out) hb); replace BK120 := Aside0.mk (blk_below (g := gb120) (o := .cells #[.string a0_0, .int .i64 a0_1, .slice none 0 0] 30 (0, 0)) (by (with_reducible repeat (first | refine blk_drewN ?_ _ | refine blk_drew ?_ | refine blk_alloc ?_ _)); refine blk_put (cs := #[.string a0_0, .int .i64 0, .slice none 0 0]) ?_ 1 _ rfl; (with_reducible repeat (first | refine blk_drewN ?_ _ | refine blk_drew ?_ | refine blk_alloc ?_ _)); refine blk_put (cs := #[.string (⟨#[]⟩ : ByteArray), .int .i64 0, .slice none 0 0]) ?_ 0 _ rfl; (with_reducible repeat (first | refine blk_drewN ?_ _ | refine blk_drew ?_ | refine blk_alloc ?_ _)); exact BK120.out) hb); replace HB := BS hb; (try clear hb); (try clear hb2); (try clear hk); (try clear hi); (try clear ho0); obtain ⟨Ao12, co12, eo12⟩ := Kd.R_slice HO123.out; subst eo12; have hcz13 := cz3 BK120; have hcz14 := cz3 BK119))
 refine bodyPost_ret (results_cell_row rfl _ _ gb119 30 #[.string a0_0, .int .i64 a0_1, .slice Ao12 t121.length co12] (0, 0) _ rfl (by (with_reducible repeat (first | refine blk_drewN ?_ _ | refine blk_drew ?_ | refine blk_alloc ?_ _)); refine blk_put (cs := #[.string a0_0, .int .i64 a0_1, .slice none 0 0]) ?_ 2 _ rfl; (with_reducible repeat (first | refine blk_drewN ?_ _ | refine blk_drew ?_ | refine blk_alloc ?_ _)); refine blk_put (cs := #[.string a0_0, .int .i64 0, .slice none 0 0]) ?_ 1 _ rfl; (with_reducible repeat (first | refine blk_drewN ?_ _ | refine blk_drew ?_ | refine blk_alloc ?_ _)); refine blk_put (cs := #[.string (⟨#[]⟩ : ByteArray), .int .i64 0, .slice none 0 0]) ?_ 0 _ rfl; (with_reducible repeat (first | refine blk_drewN ?_ _ | refine blk_drew ?_ | refine blk_alloc ?_ _)); refine blk_far ?_ NB119_120.out _; (with_reducible repeat (first | refine blk_drewN ?_ _ | refine blk_drew ?_ | refine blk_alloc ?_ _)); exact BK119.out) Tryz.underlying30 rfl KR) rfl ?_
 exact ⟨_, TE, by (with_reducible repeat (first | apply Kd.R_alloc | apply Kd.R_drewN | apply Kd.R_drew)); exact Kd.R_mono (Kd.R_far (p := ⟨gb119, 2, none⟩) (Kd.R_far (p := ⟨gb119, 1, none⟩) (Kd.R_far (p := ⟨gb119, 0, none⟩) (Kd.R_far (p := ⟨gb120, 2, none⟩) (Kd.R_types (Kd.R_types HO123.out BK120.out (by decide)) BK119.out (by decide)) (fun _ hk => hk.1.2) (.slice Ao12 t121.length co12)) (fun _ hk => hk.2) (.string a0_0)) (fun _ hk => hk.2) (.int .i64 a0_1)) (fun _ hk => hk.2) (.slice Ao12 t121.length co12)) (fun _ hk => trivial), TB⟩
end
section
/-! ### laws_eqRecord: function 86 -/
def laws_eqRecord.f (a0_0 : ByteArray) (a0_1 : Int) (a0_2 : Int) (a0_3 : ByteArray) (a1_0 : ByteArray) (a1_1 : Int) (a1_2 : Int) (a1_3 : ByteArray) : Option (Bool) := if a0_0.toList = a1_0.toList then (if a0_1 = a1_1 then (if a0_2 = a1_2 then (if a0_3.toList = a1_3.toList then (some true) else (some false)) else (some false)) else (some false)) else (some false)
theorem laws_eqRecord.calls (a0_0 : ByteArray) (a0_1 : Int) (a0_2 : Int) (a0_3 : ByteArray) (a1_0 : ByteArray) (a1_1 : Int) (a1_2 : Int) (a1_3 : ByteArray) (r : Bool) (w : World) (h : laws_eqRecord.f a0_0 a0_1 a0_2 a0_3 a1_0 a1_1 a1_2 a1_3 = some r) :
  Calls Tryz.prog 86 #[.agg #[.string a0_0, .int .i64 a0_1, .int .i64 a0_2, .string a0_3], .agg #[.string a1_0, .int .i64 a1_1, .int .i64 a1_2, .string a1_3]] w fun e w' => e = .returned (.bool r) ∧ Below w.heap.size w w' := by
 have hu100 := Tryz.underlying100
 have HB := Aside0.mk (Below.refl w.heap.size w)
 have H : (if a0_0.toList = a1_0.toList then (if a0_1 = a1_1 then (if a0_2 = a1_2 then (if a0_3.toList = a1_3.toList then (some true) else (some false)) else (some false)) else (some false)) else (some false)) = some r := h
 clear h
 by_cases c3 : a0_0.toList = a1_0.toList
 ·rw [if_pos c3] at H
  have c3b0 : (a0_0.toList == a1_0.toList) = true := beq_iff_eq.mpr c3
  have c3b1 : (a0_0.toList != a1_0.toList) = false := bne_eq_false_iff_eq.mpr c3
  clear c3
  by_cases c4 : a0_1 = a1_1
  ·rw [if_pos c4] at H
   have c4b0 : (a0_1 == a1_1) = true := beq_iff_eq.mpr c4
   have c4b1 : (a0_1 != a1_1) = false := bne_eq_false_iff_eq.mpr c4
   clear c4
   by_cases c5 : a0_2 = a1_2
   ·rw [if_pos c5] at H
    have c5b0 : (a0_2 == a1_2) = true := beq_iff_eq.mpr c5
    have c5b1 : (a0_2 != a1_2) = false := bne_eq_false_iff_eq.mpr c5
    clear c5
    by_cases c6 : a0_3.toList = a1_3.toList
    ·rw [if_pos c6] at H
     have c6b0 : (a0_3.toList == a1_3.toList) = true := beq_iff_eq.mpr c6
     have c6b1 : (a0_3.toList != a1_3.toList) = false := bne_eq_false_iff_eq.mpr c6
     clear c6
     obtain rfl := Option.some.inj H
     go_enter Tryz.func86, Tryz.ntmps86
     go_wp2_with (first | ((with_reducible refine gate_dst (N := 2) rfl ?_); refine bE 2 #[.string a0_0, .int .i64 a0_1, .int .i64 a0_2, .string a0_3] 100 ?_; intro gb643 hg w7 hbox hb; have BK643 := Aside0.mk (hbox); have GE643 := bG hg; replace HB := BS hb; clear hb hbox hg) | ((with_reducible refine gate_dst (N := 3) rfl ?_); refine bE 3 #[.string a1_0, .int .i64 a1_1, .int .i64 a1_2, .string a1_3] 100 ?_; intro gb644 hg w8 hbox hb; have BK644 := Aside0.mk (hbox); have GE644 := bG hg; replace HB := BS hb; have NB643_644 := bN BK643 hg; have NB644_643 := bM BK643 hg; replace BK643 := KB BK643 hb; clear hb hbox hg; have hnb9 := NB643_644.out; have hnc9 := NB644_643.out; have hcz10 := cz4 BK643; have hcz11 := cz4 BK644))
     go_ret
     exact ⟨TE, TB⟩
    ·rw [if_neg c6] at H
     have c6b0 : (a0_3.toList == a1_3.toList) = false := beq_eq_false_iff_ne.mpr c6
     have c6b1 : (a0_3.toList != a1_3.toList) = true := bne_iff_ne.mpr c6
     obtain rfl := Option.some.inj H
     go_enter Tryz.func86, Tryz.ntmps86
     go_wp2_with (first | ((with_reducible refine gate_dst (N := 2) rfl ?_); refine bE 2 #[.string a0_0, .int .i64 a0_1, .int .i64 a0_2, .string a0_3] 100 ?_; intro gb643 hg w12 hbox hb; have BK643 := Aside0.mk (hbox); have GE643 := bG hg; replace HB := BS hb; clear hb hbox hg) | ((with_reducible refine gate_dst (N := 3) rfl ?_); refine bE 3 #[.string a1_0, .int .i64 a1_1, .int .i64 a1_2, .string a1_3] 100 ?_; intro gb644 hg w13 hbox hb; have BK644 := Aside0.mk (hbox); have GE644 := bG hg; replace HB := BS hb; have NB643_644 := bN BK643 hg; have NB644_643 := bM BK643 hg; replace BK643 := KB BK643 hb; clear hb hbox hg; have hnb14 := NB643_644.out; have hnc14 := NB644_643.out; have hcz15 := cz4 BK643; have hcz16 := cz4 BK644))
     go_ret
     exact ⟨TE, TB⟩
   ·rw [if_neg c5] at H
    have c5b0 : (a0_2 == a1_2) = false := beq_eq_false_iff_ne.mpr c5
    have c5b1 : (a0_2 != a1_2) = true := bne_iff_ne.mpr c5
    obtain rfl := Option.some.inj H
    go_enter Tryz.func86, Tryz.ntmps86
    go_wp2_with (first | ((with_reducible refine gate_dst (N := 2) rfl ?_); refine bE 2 #[.string a0_0, .int .i64 a0_1, .int .i64 a0_2, .string a0_3] 100 ?_; intro gb643 hg w17 hbox hb; have BK643 := Aside0.mk (hbox); have GE643 := bG hg; replace HB := BS hb; clear hb hbox hg) | ((with_reducible refine gate_dst (N := 3) rfl ?_); refine bE 3 #[.string a1_0, .int .i64 a1_1, .int .i64 a1_2, .string a1_3] 100 ?_; intro gb644 hg w18 hbox hb; have BK644 := Aside0.mk (hbox); have GE644 := bG hg; replace HB := BS hb; have NB643_644 := bN BK643 hg; have NB644_643 := bM BK643 hg; replace BK643 := KB BK643 hb; clear hb hbox hg; have hnb19 := NB643_644.out; have hnc19 := NB644_643.out; have hcz20 := cz4 BK643; have hcz21 := cz4 BK644))
    go_ret
    exact ⟨TE, TB⟩
  ·rw [if_neg c4] at H
   have c4b0 : (a0_1 == a1_1) = false := beq_eq_false_iff_ne.mpr c4
   have c4b1 : (a0_1 != a1_1) = true := bne_iff_ne.mpr c4
   obtain rfl := Option.some.inj H
   go_enter Tryz.func86, Tryz.ntmps86
   go_wp2_with (first | ((with_reducible refine gate_dst (N := 2) rfl ?_); refine bE 2 #[.string a0_0, .int .i64 a0_1, .int .i64 a0_2, .string a0_3] 100 ?_; intro gb643 hg w22 hbox hb; have BK643 := Aside0.mk (hbox); have GE643 := bG hg; replace HB := BS hb; clear hb hbox hg) | ((with_reducible refine gate_dst (N := 3) rfl ?_); refine bE 3 #[.string a1_0, .int .i64 a1_1, .int .i64 a1_2, .string a1_3] 100 ?_; intro gb644 hg w23 hbox hb; have BK644 := Aside0.mk (hbox); have GE644 := bG hg; replace HB := BS hb; have NB643_644 := bN BK643 hg; have NB644_643 := bM BK643 hg; replace BK643 := KB BK643 hb; clear hb hbox hg; have hnb24 := NB643_644.out; have hnc24 := NB644_643.out; have hcz25 := cz4 BK643; have hcz26 := cz4 BK644))
   go_ret
   exact ⟨TE, TB⟩
 ·rw [if_neg c3] at H
  have c3b0 : (a0_0.toList == a1_0.toList) = false := beq_eq_false_iff_ne.mpr c3
  have c3b1 : (a0_0.toList != a1_0.toList) = true := bne_iff_ne.mpr c3
  obtain rfl := Option.some.inj H
  go_enter Tryz.func86, Tryz.ntmps86
  go_wp2_with (first | ((with_reducible refine gate_dst (N := 2) rfl ?_); refine bE 2 #[.string a0_0, .int .i64 a0_1, .int .i64 a0_2, .string a0_3] 100 ?_; intro gb643 hg w27 hbox hb; have BK643 := Aside0.mk (hbox); have GE643 := bG hg; replace HB := BS hb; clear hb hbox hg) | ((with_reducible refine gate_dst (N := 3) rfl ?_); refine bE 3 #[.string a1_0, .int .i64 a1_1, .int .i64 a1_2, .string a1_3] 100 ?_; intro gb644 hg w28 hbox hb; have BK644 := Aside0.mk (hbox); have GE644 := bG hg; replace HB := BS hb; have NB643_644 := bN BK643 hg; have NB644_643 := bM BK643 hg; replace BK643 := KB BK643 hb; clear hb hbox hg; have hnb29 := NB643_644.out; have hnc29 := NB644_643.out; have hcz30 := cz4 BK643; have hcz31 := cz4 BK644))
  go_ret
  exact ⟨TE, TB⟩
end
section
/-! ### laws_eqRecordS: function 35 -/
def laws_eqRecordS.l0 : Nat → List (S_Record) → List (S_Record) → Int → Option (Bool)
 | 0, _, _, _ => none
 | k + 1, x0, x1, x5 => if x5 < (x0.length : Int) then (if 0 ≤ x5 then (if x5 < (x1.length : Int) then ((laws_eqRecord.f ((rd_TRecord x0 x5).f0) ((rd_TRecord x0 x5).f1) ((rd_TRecord x0 x5).f2) ((rd_TRecord x0 x5).f3) ((rd_TRecord x1 x5).f0) ((rd_TRecord x1 x5).f1) ((rd_TRecord x1 x5).f2) ((rd_TRecord x1 x5).f3)).bind fun t647 => (if t647 = true then (laws_eqRecordS.l0 k x0 x1 (wrap64 (x5 + 1))) else (some false))) else (none)) else (none)) else (some true)
def laws_eqRecordS.f (k : Nat) (l0 : List (S_Record)) (l1 : List (S_Record)) : Option (Bool) := if (l0.length : Int) = (l1.length : Int) then (laws_eqRecordS.l0 k l0 l1 0) else (some false)
def laws_eqRecordS.T6 : Bool × List (List Nat × List Nat) := (true, [([], []), ([], []), ([0, 1], [0, 1]), ([2], [2]), ([], []), ([], []), ([4, 5], [4, 5]), ([6], [6]), ([3, 7], [3, 7]), ([8], [8])])
def laws_eqRecordS.B6 : List Nat := [0, 0, 3, 7, 0, 0, 48, 112, 255, 511]
theorem laws_eqRecordS.tab6 : rtab .any (opsOf Tryz.f35 6) = laws_eqRecordS.T6 := by kernel_rfl
theorem laws_eqRecordS.bits6 : waitsOk laws_eqRecordS.T6.2 laws_eqRecordS.B6 = true := by kernel_rfl
theorem laws_eqRecordS.calls (k : Nat) (A0 : Option Addr) (c0 : Nat) (l0 : List (S_Record)) (A1 : Option Addr) (c1 : Nat) (l1 : List (S_Record)) (r : Bool) (w : World) (hr0 : Kd.C k_Record w A0 l0.length l0) (hc0 : l0.length ≤ c0) (hr1 : Kd.C k_Record w A1 l1.length l1) (hc1 : l1.length ≤ c1) (h : laws_eqRecordS.f k l0 l1 = some r) :
  Calls Tryz.prog 35 #[.slice A0 l0.length c0, .slice A1 l1.length c1] w fun e w' => e = .returned (.bool r) ∧ Below w.heap.size w w' := by
 have hu100 := Tryz.underlying100
 have HR0 := Aside0.mk hr0
 have HC0 := Aside0.mk hc0
 clear hr0 hc0
 have HR1 := Aside0.mk hr1
 have HC1 := Aside0.mk hc1
 clear hr1 hc1
 have HB := Aside0.mk (Below.refl w.heap.size w)
 have H : (if (l0.length : Int) = (l1.length : Int) then (laws_eqRecordS.l0 k l0 l1 0) else (some false)) = some r := h
 clear h
 by_cases c3 : (l0.length : Int) = (l1.length : Int)
 ·rw [if_pos c3] at H
  have c3b0 : ((l0.length : Int) == (l1.length : Int)) = true := beq_iff_eq.mpr c3
  have c3b1 : ((l0.length : Int) != (l1.length : Int)) = false := bne_eq_false_iff_eq.mpr c3
  have c3b2 : (l0.length == l1.length) = true := by first | simpa using c3 | (simp at c3 ⊢; omega)
  clear c3
  have H' := Aside0.mk H
  clear H
  go_enter Tryz.func35, Tryz.ntmps35
  go_wp2
  go_loopg [5] k (fun kq v5 w' => ∃ (x5_1 : Int), v5 = .int .i64 x5_1 ∧ Aside0 (laws_eqRecordS.l0 kq l0 l1 x5_1 = some r) ∧ Aside0 (kq ≤ k) ∧ Aside0 (Below w.heap.size w w'))
  case atStart => exact ⟨(0), TF, H', ⟨Nat.le_refl _⟩, ⟨TB⟩⟩
  case round =>
   clear H'
   try clear c1
   try clear p2
   try clear c3
   try clear c3b0
   try clear c3b1
   try clear c3b2
   obtain ⟨x5_1, rfl, HA, HK1, HB⟩ := hrel
   cases gk with
   | zero => exact absurd HA.out (by simp [laws_eqRecordS.l0])
   | succ k1 =>
    have H := HA.out
    clear HA
    simp only [laws_eqRecordS.l0] at H
    by_cases c4 : x5_1 < (l0.length : Int)
    ·rw [if_pos c4] at H
     have c4b0 : decide (x5_1 < (l0.length : Int)) = true := decide_eq_true c4
     clear c4
     obtain ⟨c5, H⟩ := ifn H
     have c5b0 : decide (0 ≤ x5_1) = true := decide_eq_true c5
     clear c5
     obtain ⟨c6, H⟩ := ifn H
     have c6b0 : decide (x5_1 < (l1.length : Int)) = true := decide_eq_true c6
     clear c6
     obtain ⟨t647, A7, H⟩ := bnd H
     by_cases c8 : t647 = true
     ·subst c8
      replace H := ift H
      have H' := Aside0.mk H
      clear H
      try go_wp2
      replace HB := Aside0.mk (below_drew1 HB.out)
      have p645 : 0 ≤ (x5_1 : Int) := TD
      have q645 : x5_1 < (l0.length : Int) := TD
      obtain ⟨ad645, e645, hx645_0, hx645_1, hx645_2, hx645_3⟩ := at_TRecord HR0.out x5_1 p645 q645
      have hw645_3 := hx645_3
      have hw645_2 := hx645_2
      have hw645_1 := hx645_1
      have hw645_0 := hx645_0
      cases e645
      replace hx645_0 := hBc HB hx645_0
      replace hx645_1 := hBc HB hx645_1
      replace hx645_2 := hBc HB hx645_2
      replace hx645_3 := hBc HB hx645_3
      replace p645 := eq_true p645
      replace q645 := eq_true q645
      have p646 : 0 ≤ (x5_1 : Int) := TD
      have q646 : x5_1 < (l1.length : Int) := TD
      obtain ⟨ad646, e646, hx646_0, hx646_1, hx646_2, hx646_3⟩ := at_TRecord HR1.out x5_1 p646 q646
      have hw646_3 := hx646_3
      have hw646_2 := hx646_2
      have hw646_1 := hx646_1
      have hw646_0 := hx646_0
      cases e646
      replace hx646_0 := hBc HB hx646_0
      replace hx646_1 := hBc HB hx646_1
      replace hx646_2 := hBc HB hx646_2
      replace hx646_3 := hBc HB hx646_3
      replace p646 := eq_true p646
      replace q646 := eq_true q646
      refine start_ (n := 10) (S := fun w' => w'.cell? (ad645.add ((x5_1).toNat * 4)) = some (.string ((rd_TRecord l0 x5_1).f0)) ∧ w'.cell? ⟨(ad645.add ((x5_1).toNat * 4)).block, (ad645.add ((x5_1).toNat * 4)).off + 1, none⟩ = some (.int .i64 ((rd_TRecord l0 x5_1).f1)) ∧ w'.cell? ⟨(ad645.add ((x5_1).toNat * 4)).block, (ad645.add ((x5_1).toNat * 4)).off + 2, none⟩ = some (.int .i64 ((rd_TRecord l0 x5_1).f2)) ∧ w'.cell? ⟨(ad645.add ((x5_1).toNat * 4)).block, (ad645.add ((x5_1).toNat * 4)).off + 3, none⟩ = some (.string ((rd_TRecord l0 x5_1).f3)) ∧ w'.cell? (ad646.add ((x5_1).toNat * 4)) = some (.string ((rd_TRecord l1 x5_1).f0)) ∧ w'.cell? ⟨(ad646.add ((x5_1).toNat * 4)).block, (ad646.add ((x5_1).toNat * 4)).off + 1, none⟩ = some (.int .i64 ((rd_TRecord l1 x5_1).f1)) ∧ w'.cell? ⟨(ad646.add ((x5_1).toNat * 4)).block, (ad646.add ((x5_1).toNat * 4)).off + 2, none⟩ = some (.int .i64 ((rd_TRecord l1 x5_1).f2)) ∧ w'.cell? ⟨(ad646.add ((x5_1).toNat * 4)).block, (ad646.add ((x5_1).toNat * 4)).off + 3, none⟩ = some (.string ((rd_TRecord l1 x5_1).f3))) (ds := []) #[false, false, false, false, false, false, false, false, false, false] KR rfl rfl ⟨((HB.out.cell (World.block_lt_of_cell? w _ hw645_0)).trans hw645_0), ((HB.out.cell (World.block_lt_of_cell? w _ hw645_1)).trans hw645_1), ((HB.out.cell (World.block_lt_of_cell? w _ hw645_2)).trans hw645_2), ((HB.out.cell (World.block_lt_of_cell? w _ hw645_3)).trans hw645_3), ((HB.out.cell (World.block_lt_of_cell? w _ hw646_0)).trans hw646_0), ((HB.out.cell (World.block_lt_of_cell? w _ hw646_1)).trans hw646_1), ((HB.out.cell (World.block_lt_of_cell? w _ hw646_2)).trans hw646_2), ((HB.out.cell (World.block_lt_of_cell? w _ hw646_3)).trans hw646_3)⟩ (fun hHeld => ?_); refine with_tabW laws_eqRecordS.tab6 laws_eqRecordS.bits6 (fun HT_ HW_ => ?_)
      generalize wr.drew = w9 at HB hx645_0 hx645_1 hx645_2 hx645_3 hx646_0 hx646_1 hx646_2 hx646_3 hHeld ⊢
      refine pA 0 17 (mL 10 1) HT_ rfl rfl ?_
      refine pA 1 18 (mL 10 3) HT_ rfl rfl ?_
      refine pA 2 19 (mL 10 7) HT_ rfl rfl ?_
      refine pA 4 21 (mL 10 23) HT_ rfl rfl ?_
      refine pA 5 22 (mL 10 55) HT_ rfl rfl ?_
      refine pA 6 23 (mL 10 119) HT_ rfl rfl ?_
      refine tA 3 20 (mL 10 127) HT_ HW_ hHeld rfl rfl (by rintro w' ⟨s0, s1, s2, s3, s4, s5, s6, s7⟩; go_simp; with_reducible rfl) ?_
      refine tA 7 24 (mL 10 255) HT_ HW_ hHeld rfl rfl (by rintro w' ⟨s0, s1, s2, s3, s4, s5, s6, s7⟩; go_simp; with_reducible rfl) ?_
      refine one_ (i := 8) (N := some 25) (mL 10 511) rfl rfl (one_of HT_.out KR) (by decide) (fun K hK => ?_)
      refine goes_ Tryz.func86 KR rfl #[.agg #[.string ((rd_TRecord l0 x5_1).f0), .int .i64 ((rd_TRecord l0 x5_1).f1), .int .i64 ((rd_TRecord l0 x5_1).f2), .string ((rd_TRecord l0 x5_1).f3)], .agg #[.string ((rd_TRecord l1 x5_1).f0), .int .i64 ((rd_TRecord l1 x5_1).f1), .int .i64 ((rd_TRecord l1 x5_1).f2), .string ((rd_TRecord l1 x5_1).f3)]] (by rfl) rfl rfl TA ?_
      with_reducible refine (laws_eqRecord.calls ((rd_TRecord l0 x5_1).f0) ((rd_TRecord l0 x5_1).f1) ((rd_TRecord l0 x5_1).f2) ((rd_TRecord l0 x5_1).f3) ((rd_TRecord l1 x5_1).f0) ((rd_TRecord l1 x5_1).f1) ((rd_TRecord l1 x5_1).f2) ((rd_TRecord l1 x5_1).f3) true _ A7.out).mono ?_
      rintro e w10 ⟨rfl, hb⟩
      refine ⟨_, rfl, ?_⟩
      replace HB := BS hb
      (try clear hb)
      (try clear hb2)
      (try clear hk)
      (try clear hi)
      refine hK.out _ _ ⟨((HB.out.cell (World.block_lt_of_cell? w _ hw645_0)).trans hw645_0), ((HB.out.cell (World.block_lt_of_cell? w _ hw645_1)).trans hw645_1), ((HB.out.cell (World.block_lt_of_cell? w _ hw645_2)).trans hw645_2), ((HB.out.cell (World.block_lt_of_cell? w _ hw645_3)).trans hw645_3), ((HB.out.cell (World.block_lt_of_cell? w _ hw646_0)).trans hw646_0), ((HB.out.cell (World.block_lt_of_cell? w _ hw646_1)).trans hw646_1), ((HB.out.cell (World.block_lt_of_cell? w _ hw646_2)).trans hw646_2), ((HB.out.cell (World.block_lt_of_cell? w _ hw646_3)).trans hw646_3)⟩ (fun hHeld => ?_)
      clear hK K
      refine nA ?_
      refine pA 9 26 (mL 10 1023) HT_ rfl rfl ?_
      refine done_ (done_of HT_.out KR) ?_
      try go_wp2
      go_roundg k1
      case measure => have := HK1.out; omega
      case rel => exact ⟨(wrap64 (x5_1 + 1)), TF, H', ⟨TM⟩, ⟨TB⟩⟩
     ·replace c8 := Bool.eq_false_iff.mpr c8
      subst c8
      replace H := iff' H
      obtain rfl := Option.some.inj H
      try go_wp2
      replace HB := Aside0.mk (below_drew1 HB.out)
      have p645 : 0 ≤ (x5_1 : Int) := TD
      have q645 : x5_1 < (l0.length : Int) := TD
      obtain ⟨ad645, e645, hx645_0, hx645_1, hx645_2, hx645_3⟩ := at_TRecord HR0.out x5_1 p645 q645
      have hw645_3 := hx645_3
      have hw645_2 := hx645_2
      have hw645_1 := hx645_1
      have hw645_0 := hx645_0
      cases e645
      replace hx645_0 := hBc HB hx645_0
      replace hx645_1 := hBc HB hx645_1
      replace hx645_2 := hBc HB hx645_2
      replace hx645_3 := hBc HB hx645_3
      replace p645 := eq_true p645
      replace q645 := eq_true q645
      have p646 : 0 ≤ (x5_1 : Int) := TD
      have q646 : x5_1 < (l1.length : Int) := TD
      obtain ⟨ad646, e646, hx646_0, hx646_1, hx646_2, hx646_3⟩ := at_TRecord HR1.out x5_1 p646 q646
      have hw646_3 := hx646_3
      have hw646_2 := hx646_2
      have hw646_1 := hx646_1
      have hw646_0 := hx646_0
      cases e646
      replace hx646_0 := hBc HB hx646_0
      replace hx646_1 := hBc HB hx646_1
      replace hx646_2 := hBc HB hx646_2
      replace hx646_3 := hBc HB hx646_3
      replace p646 := eq_true p646
      replace q646 := eq_true q646
      refine start_ (n := 10) (S := fun w' => w'.cell? (ad645.add ((x5_1).toNat * 4)) = some (.string ((rd_TRecord l0 x5_1).f0)) ∧ w'.cell? ⟨(ad645.add ((x5_1).toNat * 4)).block, (ad645.add ((x5_1).toNat * 4)).off + 1, none⟩ = some (.int .i64 ((rd_TRecord l0 x5_1).f1)) ∧ w'.cell? ⟨(ad645.add ((x5_1).toNat * 4)).block, (ad645.add ((x5_1).toNat * 4)).off + 2, none⟩ = some (.int .i64 ((rd_TRecord l0 x5_1).f2)) ∧ w'.cell? ⟨(ad645.add ((x5_1).toNat * 4)).block, (ad645.add ((x5_1).toNat * 4)).off + 3, none⟩ = some (.string ((rd_TRecord l0 x5_1).f3)) ∧ w'.cell? (ad646.add ((x5_1).toNat * 4)) = some (.string ((rd_TRecord l1 x5_1).f0)) ∧ w'.cell? ⟨(ad646.add ((x5_1).toNat * 4)).block, (ad646.add ((x5_1).toNat * 4)).off + 1, none⟩ = some (.int .i64 ((rd_TRecord l1 x5_1).f1)) ∧ w'.cell? ⟨(ad646.add ((x5_1).toNat * 4)).block, (ad646.add ((x5_1).toNat * 4)).off + 2, none⟩ = some (.int .i64 ((rd_TRecord l1 x5_1).f2)) ∧ w'.cell? ⟨(ad646.add ((x5_1).toNat * 4)).block, (ad646.add ((x5_1).toNat * 4)).off + 3, none⟩ = some (.string ((rd_TRecord l1 x5_1).f3))) (ds := []) #[false, false, false, false, false, false, false, false, false, false] KR rfl rfl ⟨((HB.out.cell (World.block_lt_of_cell? w _ hw645_0)).trans hw645_0), ((HB.out.cell (World.block_lt_of_cell? w _ hw645_1)).trans hw645_1), ((HB.out.cell (World.block_lt_of_cell? w _ hw645_2)).trans hw645_2), ((HB.out.cell (World.block_lt_of_cell? w _ hw645_3)).trans hw645_3), ((HB.out.cell (World.block_lt_of_cell? w _ hw646_0)).trans hw646_0), ((HB.out.cell (World.block_lt_of_cell? w _ hw646_1)).trans hw646_1), ((HB.out.cell (World.block_lt_of_cell? w _ hw646_2)).trans hw646_2), ((HB.out.cell (World.block_lt_of_cell? w _ hw646_3)).trans hw646_3)⟩ (fun hHeld => ?_); refine with_tabW laws_eqRecordS.tab6 laws_eqRecordS.bits6 (fun HT_ HW_ => ?_)
      generalize wr.drew = w11 at HB hx645_0 hx645_1 hx645_2 hx645_3 hx646_0 hx646_1 hx646_2 hx646_3 hHeld ⊢
      refine pA 0 17 (mL 10 1) HT_ rfl rfl ?_
      refine pA 1 18 (mL 10 3) HT_ rfl rfl ?_
      refine pA 2 19 (mL 10 7) HT_ rfl rfl ?_
      refine pA 4 21 (mL 10 23) HT_ rfl rfl ?_
      refine pA 5 22 (mL 10 55) HT_ rfl rfl ?_
      refine pA 6 23 (mL 10 119) HT_ rfl rfl ?_
      refine tA 3 20 (mL 10 127) HT_ HW_ hHeld rfl rfl (by rintro w' ⟨s0, s1, s2, s3, s4, s5, s6, s7⟩; go_simp; with_reducible rfl) ?_
      refine tA 7 24 (mL 10 255) HT_ HW_ hHeld rfl rfl (by rintro w' ⟨s0, s1, s2, s3, s4, s5, s6, s7⟩; go_simp; with_reducible rfl) ?_
      refine one_ (i := 8) (N := some 25) (mL 10 511) rfl rfl (one_of HT_.out KR) (by decide) (fun K hK => ?_)
      refine goes_ Tryz.func86 KR rfl #[.agg #[.string ((rd_TRecord l0 x5_1).f0), .int .i64 ((rd_TRecord l0 x5_1).f1), .int .i64 ((rd_TRecord l0 x5_1).f2), .string ((rd_TRecord l0 x5_1).f3)], .agg #[.string ((rd_TRecord l1 x5_1).f0), .int .i64 ((rd_TRecord l1 x5_1).f1), .int .i64 ((rd_TRecord l1 x5_1).f2), .string ((rd_TRecord l1 x5_1).f3)]] (by rfl) rfl rfl TA ?_
      with_reducible refine (laws_eqRecord.calls ((rd_TRecord l0 x5_1).f0) ((rd_TRecord l0 x5_1).f1) ((rd_TRecord l0 x5_1).f2) ((rd_TRecord l0 x5_1).f3) ((rd_TRecord l1 x5_1).f0) ((rd_TRecord l1 x5_1).f1) ((rd_TRecord l1 x5_1).f2) ((rd_TRecord l1 x5_1).f3) false _ A7.out).mono ?_
      rintro e w12 ⟨rfl, hb⟩
      refine ⟨_, rfl, ?_⟩
      replace HB := BS hb
      (try clear hb)
      (try clear hb2)
      (try clear hk)
      (try clear hi)
      refine hK.out _ _ ⟨((HB.out.cell (World.block_lt_of_cell? w _ hw645_0)).trans hw645_0), ((HB.out.cell (World.block_lt_of_cell? w _ hw645_1)).trans hw645_1), ((HB.out.cell (World.block_lt_of_cell? w _ hw645_2)).trans hw645_2), ((HB.out.cell (World.block_lt_of_cell? w _ hw645_3)).trans hw645_3), ((HB.out.cell (World.block_lt_of_cell? w _ hw646_0)).trans hw646_0), ((HB.out.cell (World.block_lt_of_cell? w _ hw646_1)).trans hw646_1), ((HB.out.cell (World.block_lt_of_cell? w _ hw646_2)).trans hw646_2), ((HB.out.cell (World.block_lt_of_cell? w _ hw646_3)).trans hw646_3)⟩ (fun hHeld => ?_)
      clear hK K
      refine nA ?_
      refine pA 9 26 (mL 10 1023) HT_ rfl rfl ?_
      refine done_ (done_of HT_.out KR) ?_
      try go_wp2
      go_ret
      exact ⟨TE, TB⟩
    ·rw [if_neg c4] at H
     have c4b0 : decide (x5_1 < (l0.length : Int)) = false := decide_eq_false c4
     clear c4
     obtain rfl := Option.some.inj H
     go_wp2
     go_ret
     exact ⟨TE, TB⟩
 ·rw [if_neg c3] at H
  have c3b0 : ((l0.length : Int) == (l1.length : Int)) = false := beq_eq_false_iff_ne.mpr c3
  have c3b1 : ((l0.length : Int) != (l1.length : Int)) = true := bne_iff_ne.mpr c3
  have c3b2 : (l0.length == l1.length) = false := by first | simpa using c3 | (simp at c3 ⊢; omega)
  obtain rfl := Option.some.inj H
  go_enter Tryz.func35, Tryz.ntmps35
  go_wp2
  go_ret
  exact ⟨TE, TB⟩
end
section
/-! ### laws_eqZone: function 17 -/
def laws_eqZone.f (k : Nat) (a0_0 : ByteArray) (a0_1 : Int) (l0_2 : List (S_Record)) (a1_0 : ByteArray) (a1_1 : Int) (l1_2 : List (S_Record)) : Option (Bool) := if a0_0.toList = a1_0.toList then (if a0_1 = a1_1 then ((laws_eqRecordS.f k l0_2 l1_2).bind fun t654 => (if t654 = true then (some true) else (some false))) else (some false)) else (some false)
theorem laws_eqZone.calls (k : Nat) (a0_0 : ByteArray) (a0_1 : Int) (A0_2 : Option Addr) (c0_2 : Nat) (l0_2 : List (S_Record)) (a1_0 : ByteArray) (a1_1 : Int) (A1_2 : Option Addr) (c1_2 : Nat) (l1_2 : List (S_Record)) (r : Bool) (w : World) (hr0_2 : Kd.C k_Record w A0_2 l0_2.length l0_2) (hc0_2 : l0_2.length ≤ c0_2) (hr1_2 : Kd.C k_Record w A1_2 l1_2.length l1_2) (hc1_2 : l1_2.length ≤ c1_2) (h : laws_eqZone.f k a0_0 a0_1 l0_2 a1_0 a1_1 l1_2 = some r) :
  Calls Tryz.prog 17 #[.agg #[.string a0_0, .int .i64 a0_1, .slice A0_2 l0_2.length c0_2], .agg #[.string a1_0, .int .i64 a1_1, .slice A1_2 l1_2.length c1_2]] w fun e w' => e = .returned (.bool r) ∧ Below w.heap.size w w' := by
 have hu30 := Tryz.underlying30
 have HR0_2 := Aside0.mk hr0_2
 have HC0_2 := Aside0.mk hc0_2
 clear hr0_2 hc0_2
 have HR1_2 := Aside0.mk hr1_2
 have HC1_2 := Aside0.mk hc1_2
 clear hr1_2 hc1_2
 have HB := Aside0.mk (Below.refl w.heap.size w)
 have H : (if a0_0.toList = a1_0.toList then (if a0_1 = a1_1 then ((laws_eqRecordS.f k l0_2 l1_2).bind fun t654 => (if t654 = true then (some true) else (some false))) else (some false)) else (some false)) = some r := h
 clear h
 by_cases c3 : a0_0.toList = a1_0.toList
 ·rw [if_pos c3] at H
  have c3b0 : (a0_0.toList == a1_0.toList) = true := beq_iff_eq.mpr c3
  have c3b1 : (a0_0.toList != a1_0.toList) = false := bne_eq_false_iff_eq.mpr c3
  clear c3
  by_cases c4 : a0_1 = a1_1
  ·rw [if_pos c4] at H
   have c4b0 : (a0_1 == a1_1) = true := beq_iff_eq.mpr c4
   have c4b1 : (a0_1 != a1_1) = false := bne_eq_false_iff_eq.mpr c4
   clear c4
   obtain ⟨t654, A5, H⟩ := bnd H
   by_cases c6 : t654 = true
   ·subst c6
    replace H := ift H
    obtain rfl := Option.some.inj H
    go_enter Tryz.func17, Tryz.ntmps17
    go_wp2_with (first | ((with_reducible refine gate_dst (N := 2) rfl ?_); refine bE 2 #[.string a0_0, .int .i64 a0_1, .slice A0_2 l0_2.length c0_2] 30 ?_; intro gb652 hg w7 hbox hb; have BK652 := Aside0.mk (hbox); have GE652 := bG hg; replace HB := BS hb; clear hb hbox hg) | ((with_reducible refine gate_dst (N := 3) rfl ?_); refine bE 3 #[.string a1_0, .int .i64 a1_1, .slice A1_2 l1_2.length c1_2] 30 ?_; intro gb653 hg w8 hbox hb; have BK653 := Aside0.mk (hbox); have GE653 := bG hg; replace HB := BS hb; have NB652_653 := bN BK652 hg; have NB653_652 := bM BK652 hg; replace BK652 := KB BK652 hb; clear hb hbox hg; have hnb9 := NB652_653.out; have hnc9 := NB653_652.out; have hcz10 := cz3 BK652; have hcz11 := cz3 BK653) | ((with_reducible refine gate_callee (f := 35) rfl ?_); refine goesL_ (some 19) rfl rfl Tryz.func35 KR rfl #[.slice A0_2 l0_2.length c0_2, .slice A1_2 l1_2.length c1_2] rfl TA ?_; (with_reducible refine (laws_eqRecordS.calls k _ _ l0_2 _ _ l1_2 true _ ?side1 ?side2 ?side3 ?side4 A5.out).mono ?_); (case side1 => exact CW ((Kd.C_below HR0_2.out HB.out))); (case side2 => exact HC0_2.out); (case side3 => exact CW ((Kd.C_below HR1_2.out HB.out))); (case side4 => exact HC1_2.out); rintro e w12 ⟨rfl, hb⟩; refine ⟨_, rfl, ?_⟩; replace BK652 := KB BK652 hb; replace BK653 := KB BK653 hb; replace HB := BS hb; (try clear hb); (try clear hb2); (try clear hk); (try clear hi)))
    go_ret
    exact ⟨TE, TB⟩
   ·replace c6 := Bool.eq_false_iff.mpr c6
    subst c6
    replace H := iff' H
    obtain rfl := Option.some.inj H
    go_enter Tryz.func17, Tryz.ntmps17
    go_wp2_with (first | ((with_reducible refine gate_dst (N := 2) rfl ?_); refine bE 2 #[.string a0_0, .int .i64 a0_1, .slice A0_2 l0_2.length c0_2] 30 ?_; intro gb652 hg w13 hbox hb; have BK652 := Aside0.mk (hbox); have GE652 := bG hg; replace HB := BS hb; clear hb hbox hg) | ((with_reducible refine gate_dst (N := 3) rfl ?_); refine bE 3 #[.string a1_0, .int .i64 a1_1, .slice A1_2 l1_2.length c1_2] 30 ?_; intro gb653 hg w14 hbox hb; have BK653 := Aside0.mk (hbox); have GE653 := bG hg; replace HB := BS hb; have NB652_653 := bN BK652 hg; have NB653_652 := bM BK652 hg; replace BK652 := KB BK652 hb; clear hb hbox hg; have hnb15 := NB652_653.out; have hnc15 := NB653_652.out; have hcz16 := cz3 BK652; have hcz17 := cz3 BK653) | ((with_reducible refine gate_callee (f := 35) rfl ?_); refine goesL_ (some 19) rfl rfl Tryz.func35 KR rfl #[.slice A0_2 l0_2.length c0_2, .slice A1_2 l1_2.length c1_2] rfl TA ?_; (with_reducible refine (laws_eqRecordS.calls k _ _ l0_2 _ _ l1_2 false _ ?side1 ?side2 ?side3 ?side4 A5.out).mono ?_); (case side1 => exact CW ((Kd.C_below HR0_2.out HB.out))); (case side2 => exact HC0_2.out); (case side3 => exact CW ((Kd.C_below HR1_2.out HB.out))); (case side4 => exact HC1_2.out); rintro e w18 ⟨rfl, hb⟩; refine ⟨_, rfl, ?_⟩; replace BK652 := KB BK652 hb; replace BK653 := KB BK653 hb; replace HB := BS hb; (try clear hb); (try clear hb2); (try clear hk); (try clear hi)))
    go_ret
    exact ⟨TE, TB⟩
  ·rw [if_neg c4] at H
   have c4b0 : (a0_1 == a1_1) = false := beq_eq_false_iff_ne.mpr c4
   have c4b1 : (a0_1 != a1_1) = true := bne_iff_ne.mpr c4
   obtain rfl := Option.some.inj H
   go_enter Tryz.func17, Tryz.ntmps17
   go_wp2_with (first | ((with_reducible refine gate_dst (N := 2) rfl ?_); refine bE 2 #[.string a0_0, .int .i64 a0_1, .slice A0_2 l0_2.length c0_2] 30 ?_; intro gb652 hg w19 hbox hb; have BK652 := Aside0.mk (hbox); have GE652 := bG hg; replace HB := BS hb; clear hb hbox hg) | ((with_reducible refine gate_dst (N := 3) rfl ?_); refine bE 3 #[.string a1_0, .int .i64 a1_1, .slice A1_2 l1_2.length c1_2] 30 ?_; intro gb653 hg w20 hbox hb; have BK653 := Aside0.mk (hbox); have GE653 := bG hg; replace HB := BS hb; have NB652_653 := bN BK652 hg; have NB653_652 := bM BK652 hg; replace BK652 := KB BK652 hb; clear hb hbox hg; have hnb21 := NB652_653.out; have hnc21 := NB653_652.out; have hcz22 := cz3 BK652; have hcz23 := cz3 BK653))
   go_ret
   exact ⟨TE, TB⟩
 ·rw [if_neg c3] at H
  have c3b0 : (a0_0.toList == a1_0.toList) = false := beq_eq_false_iff_ne.mpr c3
  have c3b1 : (a0_0.toList != a1_0.toList) = true := bne_iff_ne.mpr c3
  obtain rfl := Option.some.inj H
  go_enter Tryz.func17, Tryz.ntmps17
  go_wp2_with (first | ((with_reducible refine gate_dst (N := 2) rfl ?_); refine bE 2 #[.string a0_0, .int .i64 a0_1, .slice A0_2 l0_2.length c0_2] 30 ?_; intro gb652 hg w24 hbox hb; have BK652 := Aside0.mk (hbox); have GE652 := bG hg; replace HB := BS hb; clear hb hbox hg) | ((with_reducible refine gate_dst (N := 3) rfl ?_); refine bE 3 #[.string a1_0, .int .i64 a1_1, .slice A1_2 l1_2.length c1_2] 30 ?_; intro gb653 hg w25 hbox hb; have BK653 := Aside0.mk (hbox); have GE653 := bG hg; replace HB := BS hb; have NB652_653 := bN BK652 hg; have NB653_652 := bM BK652 hg; replace BK652 := KB BK652 hb; clear hb hbox hg; have hnb26 := NB652_653.out; have hnc26 := NB653_652.out; have hcz27 := cz3 BK652; have hcz28 := cz3 BK653))
  go_ret
  exact ⟨TE, TB⟩
end
section
/-! ### spec_l1Split: function 149 -/
def spec_l1Split.l0 : Nat → ByteArray → Int → List ByteArray → Int → Int → Option (List ByteArray)
 | 0, _, _, _, _, _ => none
 | k + 1, x0, x1, x5, x6, x7 => if x7 < (x0.size : Int) then (if 0 ≤ x7 then (if (bt x0 x7) = x1 then (if 0 ≤ x6 then (if x6 ≤ x7 then (if x7 ≤ (x0.size : Int) then (if x5.length < 8796093022208 then (spec_l1Split.l0 k x0 x1 (x5 ++ [x0.extract (x6 : Int).toNat (x7 : Int).toNat]) (wrap64 (x7 + 1)) (wrap64 (x7 + 1))) else (none)) else (none)) else (none)) else (none)) else (spec_l1Split.l0 k x0 x1 x5 x6 (wrap64 (x7 + 1)))) else (none)) else (if 0 ≤ x6 then (if x6 ≤ (x0.size : Int) then (if x5.length < 8796093022208 then (some (x5 ++ [x0.extract (x6 : Int).toNat x0.size])) else (none)) else (none)) else (none))
def spec_l1Split.f (k : Nat) (a0 : ByteArray) (a1 : Int) : Option (List ByteArray) := spec_l1Split.l0 k a0 a1 ([] : List ByteArray) 0 0
theorem spec_l1Split.calls (k : Nat) (a0 : ByteArray) (a1 : Int) (r : List ByteArray) (w : World) (h : spec_l1Split.f k a0 a1 = some r) :
  Calls Tryz.prog 149 #[.string a0, .int .u8 a1] w fun e w' => ∃ v0_ : Value, e = .returned (v0_) ∧ Kd.R Kd.string 9 w' w.heap.size (fun _ => True) v0_ r ∧ Below w.heap.size w w' := by
 have HB := Aside0.mk (Below.refl w.heap.size w)
 have H : (spec_l1Split.l0 k a0 a1 ([] : List ByteArray) 0 0) = some r := h
 clear h
 have H' := Aside0.mk H
 clear H
 go_enter Tryz.func149, Tryz.ntmps149
 go_wp2
 go_loopg [5, 6, 7] k (fun kq v5 v6 v7 w' => ∃ (x5_1 : List ByteArray) (x6_1 : Int) (x7_1 : Int), v6 = .int .i64 x6_1 ∧ v7 = .int .i64 x7_1 ∧ Aside0 (spec_l1Split.l0 kq a0 a1 x5_1 x6_1 x7_1 = some r) ∧ Aside0 (kq ≤ k) ∧ Aside0 (Kd.R Kd.string 9 w' w.heap.size (fun _ => True) v5 x5_1) ∧ Aside0 (Below w.heap.size w w'))
 case atStart => exact ⟨(([] : List ByteArray)), (0), (0), TF, TF, H', ⟨Nat.le_refl _⟩, ⟨TZ⟩, ⟨TB⟩⟩
 case round =>
  clear H'
  try clear c1
  try clear p2
  obtain ⟨x5_1, x6_1, x7_1, rfl, rfl, HA, HK1, HO_5, HB⟩ := hrel
  cases gk with
  | zero => exact absurd HA.out (by simp [spec_l1Split.l0])
  | succ k1 =>
   have H := HA.out
   clear HA
   simp only [spec_l1Split.l0] at H
   by_cases c3 : x7_1 < (a0.size : Int)
   ·rw [if_pos c3] at H
    have c3b0 : decide (x7_1 < (a0.size : Int)) = true := decide_eq_true c3
    clear c3
    obtain ⟨c4, H⟩ := ifn H
    have c4b0 : decide (0 ≤ x7_1) = true := decide_eq_true c4
    clear c4
    by_cases c6 : (bt a0 x7_1) = a1
    ·rw [if_pos c6] at H
     have c6b0 : ((bt a0 x7_1) == a1) = true := beq_iff_eq.mpr c6
     have c6b1 : ((bt a0 x7_1) != a1) = false := bne_eq_false_iff_eq.mpr c6
     clear c6
     obtain ⟨c7, H⟩ := ifn H
     have c7b0 := eq_true c7
     have c7b1 : decide (0 ≤ x6_1) = true := decide_eq_true c7
     clear c7
     obtain ⟨c8, H⟩ := ifn H
     have c8b0 := eq_true c8
     have c8b1 : decide (x6_1 ≤ x7_1) = true := decide_eq_true c8
     clear c8
     obtain ⟨c9, H⟩ := ifn H
     have c9b0 := eq_true c9
     have c9b1 : decide (x7_1 ≤ (a0.size : Int)) = true := decide_eq_true c9
     clear c9
     obtain ⟨c10, H⟩ := ifn H
     have LMc10 := Aside0.mk c10
     clear c10
     obtain ⟨y124, hy124⟩ : ∃ y_ : List ByteArray, y_ = (x5_1 ++ [a0.extract (x6_1 : Int).toNat (x7_1 : Int).toNat]) := ⟨_, rfl⟩
     replace H : (spec_l1Split.l0 k1 a0 a1 y124 (wrap64 (x7_1 + 1)) (wrap64 (x7_1 + 1))) = some r := by first | (rw [hy124]; with_reducible exact H) | (have H2_ := (Option.bind_some _ _).symm.trans H; rw [hy124]; with_reducible exact H2_) | (have H2_ := (Option.bind_some _ _).symm.trans H; with_reducible exact H2_) | with_reducible exact H | (rw [hy124]; exact H) | exact H
     have Ny124 := Aside0.mk hy124
     clear hy124
     have H' := Aside0.mk H
     clear H
     have p5 : 0 ≤ (x7_1 : Int) := TD
     have q5 : x7_1 < (a0.size : Int) := TD
     have hx5 := bt_at a0 x7_1
     replace p5 := eq_true p5
     replace q5 := eq_true q5
     go_wp2_with (first | ((with_reducible refine gate_builtin (b := .append) (xs := #[.tmp 19, .tmp 24]) rfl ?_); at_builtin; refine Kd.R_append Kd.string (w0 := w) w.heap.size rfl (.tmp 19) (.tmp 24) 104 9 (.string ⟨#[]⟩) 16 rfl Tryz.underlying104 info9 rfl (by decide) (by omega) u5 x5_1 (a0.extract (x6_1 : Int).toNat (x7_1 : Int).toNat) [.string (a0.extract (x6_1 : Int).toNat (x7_1 : Int).toNat)] (fun _ => True) (fun _ => False) rfl rfl ?aP (fun _ hk => hk.elim) ?aF ?aO ?aB ?aS ?aL ?_; (case aP => exact rfl); (case aB => exact TB); (case aF => exact (fun _ _ => trivial)); (case aO => exact (RW HO_5).out); (case aS => exact (below_size TB)); (case aL => have := LMc10.out; omega); intro v125 w11 ho hb hg hat; rw [← Ny124.out] at ho; have n0_ := Aside0.mk (hb); have n1_ := Aside0.mk (ho); clear HB; clear HO_5; have HB := n0_; have HO126 := n1_; clear n0_ n1_; clear ho hb hg hat))
     go_roundg k1
     case measure => have := HK1.out; omega
     case rel => exact ⟨(y124), (wrap64 (x7_1 + 1)), (wrap64 (x7_1 + 1)), TF, TF, H', ⟨TM⟩, RW HO126, ⟨TB⟩⟩
    ·rw [if_neg c6] at H
     have c6b0 : ((bt a0 x7_1) == a1) = false := beq_eq_false_iff_ne.mpr c6
     have c6b1 : ((bt a0 x7_1) != a1) = true := bne_iff_ne.mpr c6
     have H' := Aside0.mk H
     clear H
     have p5 : 0 ≤ (x7_1 : Int) := TD
     have q5 : x7_1 < (a0.size : Int) := TD
     have hx5 := bt_at a0 x7_1
     replace p5 := eq_true p5
     replace q5 := eq_true q5
     go_wp2
     go_roundg k1
     case measure => have := HK1.out; omega
     case rel => exact ⟨(x5_1), (x6_1), (wrap64 (x7_1 + 1)), TF, TF, H', ⟨TM⟩, RW HO_5, ⟨TB⟩⟩
   ·rw [if_neg c3] at H
    have c3b0 : decide (x7_1 < (a0.size : Int)) = false := decide_eq_false c3
    clear c3
    obtain ⟨c12, H⟩ := ifn H
    have c12b0 := eq_true c12
    have c12b1 : decide (0 ≤ x6_1) = true := decide_eq_true c12
    clear c12
    obtain ⟨c13, H⟩ := ifn H
    have c13b0 := eq_true c13
    have c13b1 : decide (x6_1 ≤ (a0.size : Int)) = true := decide_eq_true c13
    clear c13
    obtain ⟨c14, H⟩ := ifn H
    have LMc14 := Aside0.mk c14
    clear c14
    obtain ⟨y127, hy127⟩ : ∃ y_ : List ByteArray, y_ = (x5_1 ++ [a0.extract (x6_1 : Int).toNat a0.size]) := ⟨_, rfl⟩
    replace H : (some y127) = some r := by first | (rw [hy127]; with_reducible exact H) | (have H2_ := (Option.bind_some _ _).symm.trans H; rw [hy127]; with_reducible exact H2_) | (have H2_ := (Option.bind_some _ _).symm.trans H; with_reducible exact H2_) | with_reducible exact H | (rw [hy127]; exact H) | exact H
    have Ny127 := Aside0.mk hy127
    clear hy127
    obtain rfl := Option.some.inj H
    go_wp2_with (first | ((with_reducible refine gate_builtin (b := .append) (xs := #[.tmp 28, .tmp 32]) rfl ?_); at_builtin; refine Kd.R_append Kd.string (w0 := w) w.heap.size rfl (.tmp 28) (.tmp 32) 104 9 (.string ⟨#[]⟩) 16 rfl Tryz.underlying104 info9 rfl (by decide) (by omega) u5 x5_1 (a0.extract (x6_1 : Int).toNat a0.size) [.string (a0.extract (x6_1 : Int).toNat a0.size)] (fun _ => True) (fun _ => False) rfl rfl ?aP (fun _ hk => hk.elim) ?aF ?aO ?aB ?aS ?aL ?_; (case aP => exact rfl); (case aB => exact TB); (case aF => exact (fun _ _ => trivial)); (case aO => exact (RW HO_5).out); (case aS => exact (below_size TB)); (case aL => have := LMc14.out; omega); intro v128 w15 ho hb hg hat; rw [← Ny127.out] at ho; have n0_ := Aside0.mk (hb); have n1_ := Aside0.mk (ho); clear HB; clear HO_5; have HB := n0_; have HO129 := n1_; clear n0_ n1_; clear ho hb hg hat))
    go_ret
    exact ⟨_, TE, (RW HO129).out, TB⟩
end
section
/-! ### spec_l1In: function 66 -/
def spec_l1In.f (a0 : Int) (a1 : Int) (a2 : Int) : Option (Bool) := if a0 ≥ a1 then (some (decide (a0 ≤ a2))) else (some false)
theorem spec_l1In.calls (a0 : Int) (a1 : Int) (a2 : Int) (r : Bool) (w : World) (h : spec_l1In.f a0 a1 a2 = some r) :
  Calls Tryz.prog 66 #[.int .i64 a0, .int .i64 a1, .int .i64 a2] w fun e w' => e = .returned (.bool r) ∧ Drawn0 w w' := by
 have H : (if a0 ≥ a1 then (some (decide (a0 ≤ a2))) else (some false)) = some r := h
 clear h
 by_cases c4 : a0 ≥ a1
 ·rw [if_pos c4] at H
  have c4b0 : decide (a1 ≤ a0) = true := decide_eq_true c4
  clear c4
  obtain rfl := Option.some.inj H
  go_enter Tryz.func66, Tryz.ntmps66
  go_wp2
  go_ret
  exact ⟨TF, TN⟩
 ·rw [if_neg c4] at H
  have c4b0 : decide (a1 ≤ a0) = false := decide_eq_false c4
  clear c4
  obtain rfl := Option.some.inj H
  go_enter Tryz.func66, Tryz.ntmps66
  go_wp2
  go_ret
  exact ⟨TF, TN⟩
end
section
/-! ### spec_l1Label: function 150 -/
def spec_l1Label.l0 : Nat → ByteArray → Int → Option (Bool)
 | 0, _, _ => none
 | k + 1, x0, x3 => if x3 < (x0.size : Int) then (if 0 ≤ x3 then (if (bt x0 x3) ≥ 97 then (if (bt x0 x3) ≤ 122 then (spec_l1Label.l0 k x0 (wrap64 (x3 + 1))) else (if (bt x0 x3) ≥ 48 then (if (bt x0 x3) ≤ 57 then (spec_l1Label.l0 k x0 (wrap64 (x3 + 1))) else (if (bt x0 x3) = 45 then (spec_l1Label.l0 k x0 (wrap64 (x3 + 1))) else (if ((bt x0 x3) = 95) then (spec_l1Label.l0 k x0 (wrap64 (x3 + 1))) else (some false)))) else (if (bt x0 x3) = 45 then (spec_l1Label.l0 k x0 (wrap64 (x3 + 1))) else (if ((bt x0 x3) = 95) then (spec_l1Label.l0 k x0 (wrap64 (x3 + 1))) else (some false))))) else (if (bt x0 x3) ≥ 48 then (if (bt x0 x3) ≤ 57 then (spec_l1Label.l0 k x0 (wrap64 (x3 + 1))) else (if (bt x0 x3) = 45 then (spec_l1Label.l0 k x0 (wrap64 (x3 + 1))) else (if ((bt x0 x3) = 95) then (spec_l1Label.l0 k x0 (wrap64 (x3 + 1))) else (some false)))) else (if (bt x0 x3) = 45 then (spec_l1Label.l0 k x0 (wrap64 (x3 + 1))) else (if ((bt x0 x3) = 95) then (spec_l1Label.l0 k x0 (wrap64 (x3 + 1))) else (some false))))) else (none)) else ((spec_l1In.f (x0.size : Int) 1 20).bind fun t130 => (some t130))
def spec_l1Label.f (k : Nat) (a0 : ByteArray) : Option (Bool) := if a0.toList = ([42] : List UInt8) then (some true) else (spec_l1Label.l0 k a0 0)
theorem spec_l1Label.calls (k : Nat) (a0 : ByteArray) (r : Bool) (w : World) (h : spec_l1Label.f k a0 = some r) :
  Calls Tryz.prog 150 #[.string a0] w fun e w' => e = .returned (.bool r) ∧ Drawn0 w w' := by
 have H : (if a0.toList = ([42] : List UInt8) then (some true) else (spec_l1Label.l0 k a0 0)) = some r := h
 clear h
 by_cases c2 : a0.toList = ([42] : List UInt8)
 ·rw [if_pos c2] at H
  have c2b0 : (a0.toList == ([42] : List UInt8)) = true := beq_iff_eq.mpr c2
  have c2b1 : (a0.toList != ([42] : List UInt8)) = false := bne_eq_false_iff_eq.mpr c2
  clear c2
  obtain rfl := Option.some.inj H
  go_enter Tryz.func150, Tryz.ntmps150
  go_wp2
  go_ret
  exact ⟨TF, TN⟩
 ·rw [if_neg c2] at H
  have c2b0 : (a0.toList == ([42] : List UInt8)) = false := beq_eq_false_iff_ne.mpr c2
  have c2b1 : (a0.toList != ([42] : List UInt8)) = true := bne_iff_ne.mpr c2
  have H' := Aside0.mk H
  clear H
  go_enter Tryz.func150, Tryz.ntmps150
  go_wp2
  go_loopg [3] k (fun kq v3 w' => ∃ (x3_1 : Int), v3 = .int .i64 x3_1 ∧ Aside0 (spec_l1Label.l0 kq a0 x3_1 = some r) ∧ Aside0 (kq ≤ k) ∧ Drawn0 w w')
  case atStart => exact ⟨(0), TF, H', ⟨Nat.le_refl _⟩, TN⟩
  case round =>
   clear H'
   try clear c1
   try clear c2
   try clear c2b0
   try clear c2b1
   try clear p2
   obtain ⟨x3_1, rfl, HA, HK1, ⟨m1, rfl⟩⟩ := hrel
   cases gk with
   | zero => exact absurd HA.out (by simp [spec_l1Label.l0])
   | succ k1 =>
    have H := HA.out
    clear HA
    simp only [spec_l1Label.l0] at H
    by_cases c3 : x3_1 < (a0.size : Int)
    ·rw [if_pos c3] at H
     have c3b0 : decide (x3_1 < (a0.size : Int)) = true := decide_eq_true c3
     clear c3
     obtain ⟨c4, H⟩ := ifn H
     have c4b0 : decide (0 ≤ x3_1) = true := decide_eq_true c4
     clear c4
     by_cases c6 : (bt a0 x3_1) ≥ 97
     ·rw [if_pos c6] at H
      have c6b0 : decide (97 ≤ (bt a0 x3_1)) = true := decide_eq_true c6
      clear c6
      by_cases c7 : (bt a0 x3_1) ≤ 122
      ·rw [if_pos c7] at H
       have c7b0 : decide ((bt a0 x3_1) ≤ 122) = true := decide_eq_true c7
       clear c7
       have H' := Aside0.mk H
       clear H
       have p5 : 0 ≤ (x3_1 : Int) := TD
       have q5 : x3_1 < (a0.size : Int) := TD
       have hx5 := bt_at a0 x3_1
       replace p5 := eq_true p5
       replace q5 := eq_true q5
       go_wp2
       go_roundg k1
       case measure => have := HK1.out; omega
       case rel => exact ⟨(wrap64 (x3_1 + 1)), TF, H', ⟨TM⟩, TN⟩
      ·rw [if_neg c7] at H
       have c7b0 : decide ((bt a0 x3_1) ≤ 122) = false := decide_eq_false c7
       clear c7
       by_cases c8 : (bt a0 x3_1) ≥ 48
       ·rw [if_pos c8] at H
        have c8b0 : decide (48 ≤ (bt a0 x3_1)) = true := decide_eq_true c8
        clear c8
        by_cases c9 : (bt a0 x3_1) ≤ 57
        ·rw [if_pos c9] at H
         have c9b0 : decide ((bt a0 x3_1) ≤ 57) = true := decide_eq_true c9
         clear c9
         have H' := Aside0.mk H
         clear H
         have p5 : 0 ≤ (x3_1 : Int) := TD
         have q5 : x3_1 < (a0.size : Int) := TD
         have hx5 := bt_at a0 x3_1
         replace p5 := eq_true p5
         replace q5 := eq_true q5
         go_wp2
         go_roundg k1
         case measure => have := HK1.out; omega
         case rel => exact ⟨(wrap64 (x3_1 + 1)), TF, H', ⟨TM⟩, TN⟩
        ·rw [if_neg c9] at H
         have c9b0 : decide ((bt a0 x3_1) ≤ 57) = false := decide_eq_false c9
         clear c9
         by_cases c10 : (bt a0 x3_1) = 45
         ·rw [if_pos c10] at H
          have c10b0 : ((bt a0 x3_1) == 45) = true := beq_iff_eq.mpr c10
          have c10b1 : ((bt a0 x3_1) != 45) = false := bne_eq_false_iff_eq.mpr c10
          clear c10
          have H' := Aside0.mk H
          clear H
          have p5 : 0 ≤ (x3_1 : Int) := TD
          have q5 : x3_1 < (a0.size : Int) := TD
          have hx5 := bt_at a0 x3_1
          replace p5 := eq_true p5
          replace q5 := eq_true q5
          go_wp2
          go_roundg k1
          case measure => have := HK1.out; omega
          case rel => exact ⟨(wrap64 (x3_1 + 1)), TF, H', ⟨TM⟩, TN⟩
         ·rw [if_neg c10] at H
          have c10b0 : ((bt a0 x3_1) == 45) = false := beq_eq_false_iff_ne.mpr c10
          have c10b1 : ((bt a0 x3_1) != 45) = true := bne_iff_ne.mpr c10
          by_cases c11 : ((bt a0 x3_1) = 95)
          ·rw [if_pos c11] at H
           have c11b0 : ((bt a0 x3_1) == 95) = true := beq_iff_eq.mpr c11
           have c11b1 : ((bt a0 x3_1) != 95) = false := bne_eq_false_iff_eq.mpr c11
           clear c11
           have H' := Aside0.mk H
           clear H
           have p5 : 0 ≤ (x3_1 : Int) := TD
           have q5 : x3_1 < (a0.size : Int) := TD
           have hx5 := bt_at a0 x3_1
           replace p5 := eq_true p5
           replace q5 := eq_true q5
           go_wp2
           go_roundg k1
           case measure => have := HK1.out; omega
           case rel => exact ⟨(wrap64 (x3_1 + 1)), TF, H', ⟨TM⟩, TN⟩
          ·rw [if_neg c11] at H
           have c11b0 : ((bt a0 x3_1) == 95) = false := beq_eq_false_iff_ne.mpr c11
           have c11b1 : ((bt a0 x3_1) != 95) = true := bne_iff_ne.mpr c11
           obtain rfl := Option.some.inj H
           have p5 : 0 ≤ (x3_1 : Int) := TD
           have q5 : x3_1 < (a0.size : Int) := TD
           have hx5 := bt_at a0 x3_1
           replace p5 := eq_true p5
           replace q5 := eq_true q5
           go_wp2
           go_ret
           exact ⟨TF, TN⟩
       ·rw [if_neg c8] at H
        have c8b0 : decide (48 ≤ (bt a0 x3_1)) = false := decide_eq_false c8
        clear c8
        by_cases c12 : (bt a0 x3_1) = 45
        ·rw [if_pos c12] at H
         have c12b0 : ((bt a0 x3_1) == 45) = true := beq_iff_eq.mpr c12
         have c12b1 : ((bt a0 x3_1) != 45) = false := bne_eq_false_iff_eq.mpr c12
         clear c12
         have H' := Aside0.mk H
         clear H
         have p5 : 0 ≤ (x3_1 : Int) := TD
         have q5 : x3_1 < (a0.size : Int) := TD
         have hx5 := bt_at a0 x3_1
         replace p5 := eq_true p5
         replace q5 := eq_true q5
         go_wp2
         go_roundg k1
         case measure => have := HK1.out; omega
         case rel => exact ⟨(wrap64 (x3_1 + 1)), TF, H', ⟨TM⟩, TN⟩
        ·rw [if_neg c12] at H
         have c12b0 : ((bt a0 x3_1) == 45) = false := beq_eq_false_iff_ne.mpr c12
         have c12b1 : ((bt a0 x3_1) != 45) = true := bne_iff_ne.mpr c12
         by_cases c13 : ((bt a0 x3_1) = 95)
         ·rw [if_pos c13] at H
          have c13b0 : ((bt a0 x3_1) == 95) = true := beq_iff_eq.mpr c13
          have c13b1 : ((bt a0 x3_1) != 95) = false := bne_eq_false_iff_eq.mpr c13
          clear c13
          have H' := Aside0.mk H
          clear H
          have p5 : 0 ≤ (x3_1 : Int) := TD
          have q5 : x3_1 < (a0.size : Int) := TD
          have hx5 := bt_at a0 x3_1
          replace p5 := eq_true p5
          replace q5 := eq_true q5
          go_wp2
          go_roundg k1
          case measure => have := HK1.out; omega
          case rel => exact ⟨(wrap64 (x3_1 + 1)), TF, H', ⟨TM⟩, TN⟩
         ·rw [if_neg c13] at H
          have c13b0 : ((bt a0 x3_1) == 95) = false := beq_eq_false_iff_ne.mpr c13
          have c13b1 : ((bt a0 x3_1) != 95) = true := bne_iff_ne.mpr c13
          obtain rfl := Option.some.inj H
          have p5 : 0 ≤ (x3_1 : Int) := TD
          have q5 : x3_1 < (a0.size : Int) := TD
          have hx5 := bt_at a0 x3_1
          replace p5 := eq_true p5
          replace q5 := eq_true q5
          go_wp2
          go_ret
          exact ⟨TF, TN⟩
     ·rw [if_neg c6] at H
      have c6b0 : decide (97 ≤ (bt a0 x3_1)) = false := decide_eq_false c6
      clear c6
      by_cases c14 : (bt a0 x3_1) ≥ 48
      ·rw [if_pos c14] at H
       have c14b0 : decide (48 ≤ (bt a0 x3_1)) = true := decide_eq_true c14
       clear c14
       by_cases c15 : (bt a0 x3_1) ≤ 57
       ·rw [if_pos c15] at H
        have c15b0 : decide ((bt a0 x3_1) ≤ 57) = true := decide_eq_true c15
        clear c15
        have H' := Aside0.mk H
        clear H
        have p5 : 0 ≤ (x3_1 : Int) := TD
        have q5 : x3_1 < (a0.size : Int) := TD
        have hx5 := bt_at a0 x3_1
        replace p5 := eq_true p5
        replace q5 := eq_true q5
        go_wp2
        go_roundg k1
        case measure => have := HK1.out; omega
        case rel => exact ⟨(wrap64 (x3_1 + 1)), TF, H', ⟨TM⟩, TN⟩
       ·rw [if_neg c15] at H
        have c15b0 : decide ((bt a0 x3_1) ≤ 57) = false := decide_eq_false c15
        clear c15
        by_cases c16 : (bt a0 x3_1) = 45
        ·rw [if_pos c16] at H
         have c16b0 : ((bt a0 x3_1) == 45) = true := beq_iff_eq.mpr c16
         have c16b1 : ((bt a0 x3_1) != 45) = false := bne_eq_false_iff_eq.mpr c16
         clear c16
         have H' := Aside0.mk H
         clear H
         have p5 : 0 ≤ (x3_1 : Int) := TD
         have q5 : x3_1 < (a0.size : Int) := TD
         have hx5 := bt_at a0 x3_1
         replace p5 := eq_true p5
         replace q5 := eq_true q5
         go_wp2
         go_roundg k1
         case measure => have := HK1.out; omega
         case rel => exact ⟨(wrap64 (x3_1 + 1)), TF, H', ⟨TM⟩, TN⟩
        ·rw [if_neg c16] at H
         have c16b0 : ((bt a0 x3_1) == 45) = false := beq_eq_false_iff_ne.mpr c16
         have c16b1 : ((bt a0 x3_1) != 45) = true := bne_iff_ne.mpr c16
         by_cases c17 : ((bt a0 x3_1) = 95)
         ·rw [if_pos c17] at H
          have c17b0 : ((bt a0 x3_1) == 95) = true := beq_iff_eq.mpr c17
          have c17b1 : ((bt a0 x3_1) != 95) = false := bne_eq_false_iff_eq.mpr c17
          clear c17
          have H' := Aside0.mk H
          clear H
          have p5 : 0 ≤ (x3_1 : Int) := TD
          have q5 : x3_1 < (a0.size : Int) := TD
          have hx5 := bt_at a0 x3_1
          replace p5 := eq_true p5
          replace q5 := eq_true q5
          go_wp2
          go_roundg k1
          case measure => have := HK1.out; omega
          case rel => exact ⟨(wrap64 (x3_1 + 1)), TF, H', ⟨TM⟩, TN⟩
         ·rw [if_neg c17] at H
          have c17b0 : ((bt a0 x3_1) == 95) = false := beq_eq_false_iff_ne.mpr c17
          have c17b1 : ((bt a0 x3_1) != 95) = true := bne_iff_ne.mpr c17
          obtain rfl := Option.some.inj H
          have p5 : 0 ≤ (x3_1 : Int) := TD
          have q5 : x3_1 < (a0.size : Int) := TD
          have hx5 := bt_at a0 x3_1
          replace p5 := eq_true p5
          replace q5 := eq_true q5
          go_wp2
          go_ret
          exact ⟨TF, TN⟩
      ·rw [if_neg c14] at H
       have c14b0 : decide (48 ≤ (bt a0 x3_1)) = false := decide_eq_false c14
       clear c14
       by_cases c18 : (bt a0 x3_1) = 45
       ·rw [if_pos c18] at H
        have c18b0 : ((bt a0 x3_1) == 45) = true := beq_iff_eq.mpr c18
        have c18b1 : ((bt a0 x3_1) != 45) = false := bne_eq_false_iff_eq.mpr c18
        clear c18
        have H' := Aside0.mk H
        clear H
        have p5 : 0 ≤ (x3_1 : Int) := TD
        have q5 : x3_1 < (a0.size : Int) := TD
        have hx5 := bt_at a0 x3_1
        replace p5 := eq_true p5
        replace q5 := eq_true q5
        go_wp2
        go_roundg k1
        case measure => have := HK1.out; omega
        case rel => exact ⟨(wrap64 (x3_1 + 1)), TF, H', ⟨TM⟩, TN⟩
       ·rw [if_neg c18] at H
        have c18b0 : ((bt a0 x3_1) == 45) = false := beq_eq_false_iff_ne.mpr c18
        have c18b1 : ((bt a0 x3_1) != 45) = true := bne_iff_ne.mpr c18
        by_cases c19 : ((bt a0 x3_1) = 95)
        ·rw [if_pos c19] at H
         have c19b0 : ((bt a0 x3_1) == 95) = true := beq_iff_eq.mpr c19
         have c19b1 : ((bt a0 x3_1) != 95) = false := bne_eq_false_iff_eq.mpr c19
         clear c19
         have H' := Aside0.mk H
         clear H
         have p5 : 0 ≤ (x3_1 : Int) := TD
         have q5 : x3_1 < (a0.size : Int) := TD
         have hx5 := bt_at a0 x3_1
         replace p5 := eq_true p5
         replace q5 := eq_true q5
         go_wp2
         go_roundg k1
         case measure => have := HK1.out; omega
         case rel => exact ⟨(wrap64 (x3_1 + 1)), TF, H', ⟨TM⟩, TN⟩
        ·rw [if_neg c19] at H
         have c19b0 : ((bt a0 x3_1) == 95) = false := beq_eq_false_iff_ne.mpr c19
         have c19b1 : ((bt a0 x3_1) != 95) = true := bne_iff_ne.mpr c19
         obtain rfl := Option.some.inj H
         have p5 : 0 ≤ (x3_1 : Int) := TD
         have q5 : x3_1 < (a0.size : Int) := TD
         have hx5 := bt_at a0 x3_1
         replace p5 := eq_true p5
         replace q5 := eq_true q5
         go_wp2
         go_ret
         exact ⟨TF, TN⟩
    ·rw [if_neg c3] at H
     have c3b0 : decide (x3_1 < (a0.size : Int)) = false := decide_eq_false c3
     clear c3
     obtain ⟨t130, A20, H⟩ := bnd H
     obtain rfl := Option.some.inj H
     go_wp2_with (first | ((with_reducible refine gate_callee (f := 66) rfl ?_); refine goesL_ (some 41) rfl rfl Tryz.func66 KR rfl #[.int .i64 (a0.size : Int), .int .i64 1, .int .i64 20] rfl TA ?_; (with_reducible refine (spec_l1In.calls (a0.size : Int) 1 20 t130 _ A20.out).mono ?_); rintro e w' ⟨rfl, ⟨nd, rfl⟩⟩; refine ⟨_, rfl, ?_⟩))
     go_ret
     exact ⟨TF, TN⟩
end
section
/-! ### spec_l1Labels: function 108 -/
def spec_l1Labels.l0 : Nat → ByteArray → List ByteArray → List ByteArray → Int → Int → Option (List ByteArray × Bool)
 | 0, _, _, _, _, _ => none
 | k + 1, x0, x4, x11, x12, x13 => if x13 < x12 then (if 0 ≤ x13 then (if x13 < (x11.length : Int) then ((spec_l1Label.f k (rdOf ByteArray.empty x11 x13)).bind fun t135 => (if t135 = true then (spec_l1Labels.l0 k x0 x4 x11 x12 (wrap64 (x13 + 1))) else (some (([] : List ByteArray), false)))) else (none)) else (none)) else (if (x0.size : Int) ≤ 60 then (some (x4, decide ((x4.length : Int) ≤ 8))) else (some (x4, false)))
def spec_l1Labels.f (k : Nat) (a0 : ByteArray) : Option (List ByteArray × Bool) := if a0.toList = ([] : List UInt8) then (some (([] : List ByteArray), true)) else ((spec_l1Split.f k a0 46).bind fun t131 => (spec_l1Labels.l0 k a0 t131 t131 (t131.length : Int) 0))
theorem spec_l1Labels.calls (k : Nat) (a0 : ByteArray) (r1 : List ByteArray) (r2 : Bool) (w : World) (h : spec_l1Labels.f k a0 = some (r1, r2)) :
  Calls Tryz.prog 108 #[.string a0] w fun e w' => ∃ v0_ : Value, e = .returned (.tuple #[v0_, .bool r2]) ∧ Kd.R Kd.string 9 w' w.heap.size (fun _ => True) v0_ r1 ∧ Below w.heap.size w w' := by
 have HB := Aside0.mk (Below.refl w.heap.size w)
 have H : (if a0.toList = ([] : List UInt8) then (some (([] : List ByteArray), true)) else ((spec_l1Split.f k a0 46).bind fun t131 => (spec_l1Labels.l0 k a0 t131 t131 (t131.length : Int) 0))) = some (r1, r2) := h
 clear h
 by_cases c2 : a0.toList = ([] : List UInt8)
 ·rw [if_pos c2] at H
  have c2b0 : (a0.toList == ([] : List UInt8)) = true := beq_iff_eq.mpr c2
  have c2b1 : (a0.toList != ([] : List UInt8)) = false := bne_eq_false_iff_eq.mpr c2
  clear c2
  simp only [Option.some.injEq, Prod.mk.injEq] at H
  obtain ⟨rfl, rfl⟩ := H
  go_enter Tryz.func108, Tryz.ntmps108
  go_wp2
  go_ret2
  exact ⟨_, by first | rfl | (simp [errW_none, errW_some] <;> rfl) | (simp [*, errW_none, errW_some] <;> rfl) | (simp [errW_none, errW_some]; rw [Bool.eq_iff_iff]; simp), TZ, TB⟩
 ·rw [if_neg c2] at H
  have c2b0 : (a0.toList == ([] : List UInt8)) = false := beq_eq_false_iff_ne.mpr c2
  have c2b1 : (a0.toList != ([] : List UInt8)) = true := bne_iff_ne.mpr c2
  obtain ⟨t131, A3, H⟩ := bnd H
  have H' := Aside0.mk H
  clear H
  go_enter Tryz.func108, Tryz.ntmps108
  go_wp2_with (first | ((with_reducible refine gate_callee (f := 149) rfl ?_); refine goesL_ (some 10) rfl rfl Tryz.func149 KR rfl #[.string a0, .int .u8 46] rfl TA ?_; (with_reducible refine (spec_l1Split.calls k a0 46 t131 _ A3.out).mono ?_); rintro e w4 ⟨v132, rfl, ho0, hb⟩; refine ⟨_, rfl, ?_⟩; have HO133 := RL ho0; replace HB := BS hb; (try clear hb); (try clear hb2); (try clear hk); (try clear hi); (try clear ho0); obtain ⟨Ao5, co5, eo5⟩ := Kd.R_slice HO133.out; subst eo5))
  go_loopg [13] k (fun kq v13 w' => ∃ (x13_1 : Int), v13 = .int .i64 x13_1 ∧ Aside0 (spec_l1Labels.l0 kq a0 t131 t131 (t131.length : Int) x13_1 = some (r1, r2)) ∧ Aside0 (kq ≤ k) ∧ Aside0 (Kd.R Kd.string 9 w' w.heap.size (fun _ => True) (.slice Ao5 t131.length co5) t131) ∧ Aside0 (Kd.R Kd.string 9 w' w.heap.size (fun _ => True) (.slice Ao5 t131.length co5) t131) ∧ Aside0 (Below w.heap.size w w'))
  case atStart => exact ⟨(0), TF, H', ⟨Nat.le_refl _⟩, RW HO133, RW HO133, ⟨TB⟩⟩
  case round =>
   clear H'
   try clear c1
   try clear c2
   try clear c2b0
   try clear c2b1
   try clear p2
   obtain ⟨x13_1, rfl, HA, HK1, HO_4, HO_11, HB⟩ := hrel
   cases gk with
   | zero => exact absurd HA.out (by simp [spec_l1Labels.l0])
   | succ k1 =>
    have H := HA.out
    clear HA
    simp only [spec_l1Labels.l0] at H
    by_cases c6 : x13_1 < (t131.length : Int)
    ·rw [if_pos c6] at H
     have c6b0 : decide (x13_1 < (t131.length : Int)) = true := decide_eq_true c6
     clear c6
     obtain ⟨c7, H⟩ := ifn H
     have c7b0 : decide (0 ≤ x13_1) = true := decide_eq_true c7
     clear c7
     obtain ⟨c8, H⟩ := ifn H
     have c8b0 : decide (x13_1 < (t131.length : Int)) = true := decide_eq_true c8
     clear c8
     obtain ⟨t135, A9, H⟩ := bnd H
     by_cases c10 : t135 = true
     ·subst c10
      replace H := ift H
      have H' := Aside0.mk H
      clear H
      have p134 : 0 ≤ (x13_1 : Int) := TD
      have q134 : x13_1 < (t131.length : Int) := TD
      obtain ⟨ad134, e134, hx134_0⟩ := Kd.at_string (Kd.R_reads' HO_11.out).2.2 x13_1 p134 q134
      cases e134
      replace p134 := eq_true p134
      replace q134 := eq_true q134
      go_wp2_with (first | ((with_reducible refine gate_callee (f := 150) rfl ?_); refine goesL_ (some 18) rfl rfl Tryz.func150 KR rfl #[.string (rdOf ByteArray.empty t131 x13_1)] rfl TA ?_; (with_reducible refine (spec_l1Label.calls k1 (rdOf ByteArray.empty t131 x13_1) true _ A9.out).mono ?_); rintro e w' ⟨rfl, ⟨nd, rfl⟩⟩; refine ⟨_, rfl, ?_⟩))
      go_roundg k1
      case measure => have := HK1.out; omega
      case rel => exact ⟨(wrap64 (x13_1 + 1)), TF, H', ⟨TM⟩, RW HO_4, RW HO_11, ⟨TB⟩⟩
     ·replace c10 := Bool.eq_false_iff.mpr c10
      subst c10
      replace H := iff' H
      simp only [Option.some.injEq, Prod.mk.injEq] at H
      obtain ⟨rfl, rfl⟩ := H
      have p134 : 0 ≤ (x13_1 : Int) := TD
      have q134 : x13_1 < (t131.length : Int) := TD
      obtain ⟨ad134, e134, hx134_0⟩ := Kd.at_string (Kd.R_reads' HO_11.out).2.2 x13_1 p134 q134
      cases e134
      replace p134 := eq_true p134
      replace q134 := eq_true q134
      go_wp2_with (first | ((with_reducible refine gate_callee (f := 150) rfl ?_); refine goesL_ (some 18) rfl rfl Tryz.func150 KR rfl #[.string (rdOf ByteArray.empty t131 x13_1)] rfl TA ?_; (with_reducible refine (spec_l1Label.calls k1 (rdOf ByteArray.empty t131 x13_1) false _ A9.out).mono ?_); rintro e w' ⟨rfl, ⟨nd, rfl⟩⟩; refine ⟨_, rfl, ?_⟩))
      go_ret2
      exact ⟨_, by first | rfl | (simp [errW_none, errW_some] <;> rfl) | (simp [*, errW_none, errW_some] <;> rfl) | (simp [errW_none, errW_some]; rw [Bool.eq_iff_iff]; simp), TZ, TB⟩
    ·rw [if_neg c6] at H
     have c6b0 : decide (x13_1 < (t131.length : Int)) = false := decide_eq_false c6
     clear c6
     by_cases c11 : (a0.size : Int) ≤ 60
     ·rw [if_pos c11] at H
      have c11b0 : decide ((a0.size : Int) ≤ 60) = true := decide_eq_true c11
      have c11b1 : decide (a0.size ≤ 60) = true := decide_eq_true (by omega)
      clear c11
      simp only [Option.some.injEq, Prod.mk.injEq] at H
      obtain ⟨rfl, rfl⟩ := H
      go_wp2
      go_ret2
      exact ⟨_, by first | rfl | (simp [errW_none, errW_some] <;> rfl) | (simp [*, errW_none, errW_some] <;> rfl) | (simp [errW_none, errW_some]; rw [Bool.eq_iff_iff]; simp), (RW HO_4).out, TB⟩
     ·rw [if_neg c11] at H
      have c11b0 : decide ((a0.size : Int) ≤ 60) = false := decide_eq_false c11
      have c11b1 : decide (a0.size ≤ 60) = false := decide_eq_false (by omega)
      clear c11
      simp only [Option.some.injEq, Prod.mk.injEq] at H
      obtain ⟨rfl, rfl⟩ := H
      go_wp2
      go_ret2
      exact ⟨_, by first | rfl | (simp [errW_none, errW_some] <;> rfl) | (simp [*, errW_none, errW_some] <;> rfl) | (simp [errW_none, errW_some]; rw [Bool.eq_iff_iff]; simp), (RW HO_4).out, TB⟩
end
section
/-! ### spec_GoodName: function 58 -/
def spec_GoodName.f (k : Nat) (a0 : ByteArray) : Option (Bool) := (spec_l1Labels.f k a0).bind fun bt187 => (some bt187.2)
theorem spec_GoodName.calls (k : Nat) (a0 : ByteArray) (r : Bool) (w : World) (h : spec_GoodName.f k a0 = some r) :
  Calls Tryz.prog 58 #[.string a0] w fun e w' => e = .returned (.bool r) ∧ Below w.heap.size w w' := by
 have HB := Aside0.mk (Below.refl w.heap.size w)
 have H : ((spec_l1Labels.f k a0).bind fun bt187 => (some bt187.2)) = some r := h
 clear h
 obtain ⟨⟨t187, t188⟩, A2, H⟩ := bnd H
 try dsimp only at H
 obtain rfl := Option.some.inj H
 go_enter Tryz.func58, Tryz.ntmps58
 go_wp2_with (first | ((with_reducible refine gate_callee (f := 108) rfl ?_); refine goesL_ (some 7) rfl rfl Tryz.func108 KR rfl #[.string a0] rfl TA ?_; (with_reducible refine (spec_l1Labels.calls k a0 t187 t188 _ A2.out).mono ?_); rintro e w3 ⟨v189, rfl, ho0, hb⟩; refine ⟨_, rfl, ?_⟩; have HO190 := RL ho0; replace HB := BS hb; (try clear hb); (try clear hb2); (try clear hk); (try clear hi); (try clear ho0)))
 go_ret
 exact ⟨TE, TB⟩
end
section
/-! ### spec_l1Below: function 59 -/
def spec_l1Below.f (a0 : ByteArray) (a1 : ByteArray) : Option (Bool) := if a1.toList = ([] : List UInt8) then (some true) else (if a0.toList = a1.toList then (some true) else (if (wrap64 ((a0.size : Int) - (a1.size : Int))) > 0 then (if 0 ≤ (wrap64 ((a0.size : Int) - (a1.size : Int))) then (if (wrap64 ((a0.size : Int) - (a1.size : Int))) ≤ (a0.size : Int) then (if (a0.extract ((wrap64 ((a0.size : Int) - (a1.size : Int))) : Int).toNat a0.size).toList = a1.toList then (if 0 ≤ (wrap64 ((wrap64 ((a0.size : Int) - (a1.size : Int))) - 1)) then (if (wrap64 ((wrap64 ((a0.size : Int) - (a1.size : Int))) - 1)) < (a0.size : Int) then (some ((bt a0 (wrap64 ((wrap64 ((a0.size : Int) - (a1.size : Int))) - 1))) == 46)) else (none)) else (none)) else (some false)) else (none)) else (none)) else (some false)))
theorem spec_l1Below.calls (a0 : ByteArray) (a1 : ByteArray) (r : Bool) (w : World) (h : spec_l1Below.f a0 a1 = some r) :
  Calls Tryz.prog 59 #[.string a0, .string a1] w fun e w' => e = .returned (.bool r) ∧ Drawn0 w w' := by
 have H : (if a1.toList = ([] : List UInt8) then (some true) else (if a0.toList = a1.toList then (some true) else (if (wrap64 ((a0.size : Int) - (a1.size : Int))) > 0 then (if 0 ≤ (wrap64 ((a0.size : Int) - (a1.size : Int))) then (if (wrap64 ((a0.size : Int) - (a1.size : Int))) ≤ (a0.size : Int) then (if (a0.extract ((wrap64 ((a0.size : Int) - (a1.size : Int))) : Int).toNat a0.size).toList = a1.toList then (if 0 ≤ (wrap64 ((wrap64 ((a0.size : Int) - (a1.size : Int))) - 1)) then (if (wrap64 ((wrap64 ((a0.size : Int) - (a1.size : Int))) - 1)) < (a0.size : Int) then (some ((bt a0 (wrap64 ((wrap64 ((a0.size : Int) - (a1.size : Int))) - 1))) == 46)) else (none)) else (none)) else (some false)) else (none)) else (none)) else (some false)))) = some r := h
 clear h
 by_cases c3 : a1.toList = ([] : List UInt8)
 ·rw [if_pos c3] at H
  have c3b0 : (a1.toList == ([] : List UInt8)) = true := beq_iff_eq.mpr c3
  have c3b1 : (a1.toList != ([] : List UInt8)) = false := bne_eq_false_iff_eq.mpr c3
  clear c3
  obtain rfl := Option.some.inj H
  go_enter Tryz.func59, Tryz.ntmps59
  go_wp2
  go_ret
  exact ⟨TF, TN⟩
 ·rw [if_neg c3] at H
  have c3b0 : (a1.toList == ([] : List UInt8)) = false := beq_eq_false_iff_ne.mpr c3
  have c3b1 : (a1.toList != ([] : List UInt8)) = true := bne_iff_ne.mpr c3
  by_cases c4 : a0.toList = a1.toList
  ·rw [if_pos c4] at H
   have c4b0 : (a0.toList == a1.toList) = true := beq_iff_eq.mpr c4
   have c4b1 : (a0.toList != a1.toList) = false := bne_eq_false_iff_eq.mpr c4
   clear c4
   obtain rfl := Option.some.inj H
   go_enter Tryz.func59, Tryz.ntmps59
   go_wp2
   go_ret
   exact ⟨TF, TN⟩
  ·rw [if_neg c4] at H
   have c4b0 : (a0.toList == a1.toList) = false := beq_eq_false_iff_ne.mpr c4
   have c4b1 : (a0.toList != a1.toList) = true := bne_iff_ne.mpr c4
   by_cases c5 : (wrap64 ((a0.size : Int) - (a1.size : Int))) > 0
   ·rw [if_pos c5] at H
    have c5b0 : decide (0 < (wrap64 ((a0.size : Int) - (a1.size : Int)))) = true := decide_eq_true c5
    clear c5
    obtain ⟨ji6, hji6⟩ : ∃ j_ : Int, (wrap64 ((a0.size : Int) - (a1.size : Int))) = j_ := ⟨_, rfl⟩
    replace H : (if 0 ≤ (ji6) then (if (ji6) ≤ (a0.size : Int) then (if (a0.extract ((ji6) : Int).toNat a0.size).toList = a1.toList then (if 0 ≤ (wrap64 ((ji6) - 1)) then (if (wrap64 ((ji6) - 1)) < (a0.size : Int) then (some ((bt a0 (wrap64 ((ji6) - 1))) == 46)) else (none)) else (none)) else (some false)) else (none)) else (none)) = some r := by first | (rw [hji6] at H; exact H) | (simp only [hji6] at H ⊢; exact H)
    (try rw [hji6] at c5b0)
    have hji6w : (IntKind.i64.wrap ((a0.size : Int) - (a1.size : Int))) = ji6 := (i64_w _).trans hji6
    obtain ⟨c7, H⟩ := ifn H
    have c7b0 := eq_true c7
    have c7b1 : decide (0 ≤ (ji6)) = true := decide_eq_true c7
    clear c7
    obtain ⟨c8, H⟩ := ifn H
    have c8b0 := eq_true c8
    have c8b1 : decide ((ji6) ≤ (a0.size : Int)) = true := decide_eq_true c8
    clear c8
    by_cases c9 : (a0.extract ((ji6) : Int).toNat a0.size).toList = a1.toList
    ·rw [if_pos c9] at H
     have c9b0 : ((a0.extract ((ji6) : Int).toNat a0.size).toList == a1.toList) = true := beq_iff_eq.mpr c9
     have c9b1 : ((a0.extract ((ji6) : Int).toNat a0.size).toList != a1.toList) = false := bne_eq_false_iff_eq.mpr c9
     clear c9
     obtain ⟨ji10, hji10⟩ : ∃ j_ : Int, (wrap64 ((ji6) - 1)) = j_ := ⟨_, rfl⟩
     replace H : (if 0 ≤ (ji10) then (if (ji10) < (a0.size : Int) then (some ((bt a0 (ji10)) == 46)) else (none)) else (none)) = some r := by first | (rw [hji10] at H; exact H) | (simp only [hji10] at H ⊢; exact H)
     have hji10w : (IntKind.i64.wrap ((ji6) - 1)) = ji10 := (i64_w _).trans hji10
     obtain ⟨c11, H⟩ := ifn H
     have c11b0 : decide (0 ≤ (ji10)) = true := decide_eq_true c11
     clear c11
     obtain ⟨c12, H⟩ := ifn H
     have c12b0 : decide ((ji10) < (a0.size : Int)) = true := decide_eq_true c12
     clear c12
     obtain rfl := Option.some.inj H
     have p13 : 0 ≤ ((ji10) : Int) := TD
     have q13 : (ji10) < (a0.size : Int) := TD
     have hx13 := bt_at a0 (ji10)
     replace p13 := eq_true p13
     replace q13 := eq_true q13
     go_enter Tryz.func59, Tryz.ntmps59
     go_wp2
     go_ret
     exact ⟨by first | rfl | (simp; done) | (simp only [← hji6, ← hji10] <;> (first | rfl | simp)) | (simp [*]; done), TN⟩
    ·rw [if_neg c9] at H
     have c9b0 : ((a0.extract ((ji6) : Int).toNat a0.size).toList == a1.toList) = false := beq_eq_false_iff_ne.mpr c9
     have c9b1 : ((a0.extract ((ji6) : Int).toNat a0.size).toList != a1.toList) = true := bne_iff_ne.mpr c9
     obtain rfl := Option.some.inj H
     go_enter Tryz.func59, Tryz.ntmps59
     go_wp2
     go_ret
     exact ⟨by first | rfl | (simp; done) | (simp only [← hji6] <;> (first | rfl | simp)) | (simp [*]; done), TN⟩
   ·rw [if_neg c5] at H
    have c5b0 : decide (0 < (wrap64 ((a0.size : Int) - (a1.size : Int)))) = false := decide_eq_false c5
    clear c5
    obtain rfl := Option.some.inj H
    go_enter Tryz.func59, Tryz.ntmps59
    go_wp2
    go_ret
    exact ⟨TF, TN⟩
end
section
/-! ### spec_l6Apex: function 145 -/
def spec_l6Apex.l0 : Nat → Bool → List ByteArray → Int → Int → Option (Bool)
 | 0, _, _, _, _ => none
 | k + 1, x4, x12, x13, x14 => if x14 < x13 then (if 0 ≤ x14 then (if x14 < (x12.length : Int) then (if x4 = true then (spec_l6Apex.l0 k ((rdOf ByteArray.empty x12 x14).toList != ([42] : List UInt8)) x12 x13 (wrap64 (x14 + 1))) else (spec_l6Apex.l0 k false x12 x13 (wrap64 (x14 + 1)))) else (none)) else (none)) else (some x4)
def spec_l6Apex.f (k : Nat) (a0 : ByteArray) : Option (Bool) := (spec_l1Labels.f k a0).bind fun bt136 => (spec_l6Apex.l0 k bt136.2 bt136.1 (bt136.1.length : Int) 0)
theorem spec_l6Apex.calls (k : Nat) (a0 : ByteArray) (r : Bool) (w : World) (h : spec_l6Apex.f k a0 = some r) :
  Calls Tryz.prog 145 #[.string a0] w fun e w' => e = .returned (.bool r) ∧ Below w.heap.size w w' := by
 have HB := Aside0.mk (Below.refl w.heap.size w)
 have H : ((spec_l1Labels.f k a0).bind fun bt136 => (spec_l6Apex.l0 k bt136.2 bt136.1 (bt136.1.length : Int) 0)) = some r := h
 clear h
 obtain ⟨⟨t136, t137⟩, A2, H⟩ := bnd H
 try dsimp only at H
 have H' := Aside0.mk H
 clear H
 go_enter Tryz.func145, Tryz.ntmps145
 go_wp2_with (first | ((with_reducible refine gate_callee (f := 108) rfl ?_); refine goesL_ (some 9) rfl rfl Tryz.func108 KR rfl #[.string a0] rfl TA ?_; (with_reducible refine (spec_l1Labels.calls k a0 t136 t137 _ A2.out).mono ?_); rintro e w3 ⟨v138, rfl, ho0, hb⟩; refine ⟨_, rfl, ?_⟩; have HO139 := RL ho0; replace HB := BS hb; (try clear hb); (try clear hb2); (try clear hk); (try clear hi); (try clear ho0); obtain ⟨Ao4, co4, eo4⟩ := Kd.R_slice HO139.out; subst eo4))
 go_loopg [4, 14] k (fun kq v4 v14 w' => ∃ (x4_1 : Bool) (x14_1 : Int), v4 = .bool x4_1 ∧ v14 = .int .i64 x14_1 ∧ Aside0 (spec_l6Apex.l0 kq x4_1 t136 (t136.length : Int) x14_1 = some r) ∧ Aside0 (kq ≤ k) ∧ Aside0 (Kd.R Kd.string 9 w' w.heap.size (fun _ => True) (.slice Ao4 t136.length co4) t136) ∧ Aside0 (Below w.heap.size w w'))
 case atStart => exact ⟨(t137), (0), TF, TF, H', ⟨Nat.le_refl _⟩, RW HO139, ⟨TB⟩⟩
 case round =>
  clear H'
  try clear c1
  try clear p2
  obtain ⟨x4_1, x14_1, rfl, rfl, HA, HK1, HO_12, HB⟩ := hrel
  cases gk with
  | zero => exact absurd HA.out (by simp [spec_l6Apex.l0])
  | succ k1 =>
   have H := HA.out
   clear HA
   simp only [spec_l6Apex.l0] at H
   by_cases c5 : x14_1 < (t136.length : Int)
   ·rw [if_pos c5] at H
    have c5b0 : decide (x14_1 < (t136.length : Int)) = true := decide_eq_true c5
    clear c5
    obtain ⟨c6, H⟩ := ifn H
    have c6b0 : decide (0 ≤ x14_1) = true := decide_eq_true c6
    clear c6
    obtain ⟨c7, H⟩ := ifn H
    have c7b0 : decide (x14_1 < (t136.length : Int)) = true := decide_eq_true c7
    clear c7
    by_cases c8 : x4_1 = true
    ·subst c8
     replace H := ift H
     have H' := Aside0.mk H
     clear H
     have p140 : 0 ≤ (x14_1 : Int) := TD
     have q140 : x14_1 < (t136.length : Int) := TD
     obtain ⟨ad140, e140, hx140_0⟩ := Kd.at_string (Kd.R_reads' HO_12.out).2.2 x14_1 p140 q140
     cases e140
     replace p140 := eq_true p140
     replace q140 := eq_true q140
     go_wp2
     go_roundg k1
     case measure => have := HK1.out; omega
     case rel => exact ⟨(((rdOf ByteArray.empty t136 x14_1).toList != ([42] : List UInt8))), (wrap64 (x14_1 + 1)), TF, TF, H', ⟨TM⟩, RW HO_12, ⟨TB⟩⟩
    ·replace c8 := Bool.eq_false_iff.mpr c8
     subst c8
     replace H := iff' H
     have H' := Aside0.mk H
     clear H
     have p140 : 0 ≤ (x14_1 : Int) := TD
     have q140 : x14_1 < (t136.length : Int) := TD
     obtain ⟨ad140, e140, hx140_0⟩ := Kd.at_string (Kd.R_reads' HO_12.out).2.2 x14_1 p140 q140
     cases e140
     replace p140 := eq_true p140
     replace q140 := eq_true q140
     go_wp2
     go_roundg k1
     case measure => have := HK1.out; omega
     case rel => exact ⟨(false), (wrap64 (x14_1 + 1)), TF, TF, H', ⟨TM⟩, RW HO_12, ⟨TB⟩⟩
   ·rw [if_neg c5] at H
    have c5b0 : decide (x14_1 < (t136.length : Int)) = false := decide_eq_false c5
    clear c5
    obtain rfl := Option.some.inj H
    go_wp2
    go_ret
    exact ⟨TE, TB⟩
end
section
/-! ### spec_l1Int: function 190 -/
mutual
def spec_l1Int.j0 : Nat → ByteArray → Bool → Option (Int)
 | 0, _, _ => none
 | k + 1, x0, x18 => if x18 = true then (some (-1)) else (spec_l1Int.l0 k x0 0 0)
def spec_l1Int.l0 : Nat → ByteArray → Int → Int → Option (Int)
 | 0, _, _, _ => none
 | k + 1, x0, x3, x4 => if x4 < (x0.size : Int) then (if 0 ≤ x4 then (if (bt x0 x4) < 48 then (some (-1)) else (if (bt x0 x4) > 57 then (some (-1)) else (spec_l1Int.l0 k x0 (wrap64 ((wrap64 (10 * x3)) + (((bt x0 x4) - 48) % 256))) (wrap64 (x4 + 1))))) else (none)) else (some x3)
end
def spec_l1Int.f (k : Nat) (a0 : ByteArray) : Option (Int) := (spec_l1In.f (a0.size : Int) 1 10).bind fun t141 => (if t141 = true then (if 0 < (a0.size : Int) then (if (bt a0 0) = 48 then (spec_l1Int.j0 k a0 (decide ((a0.size : Int) > 1))) else (spec_l1Int.j0 k a0 false)) else (none)) else (spec_l1Int.j0 k a0 true))
theorem spec_l1Int.calls (k : Nat) (a0 : ByteArray) (r : Int) (w : World) (h : spec_l1Int.f k a0 = some r) :
  Calls Tryz.prog 190 #[.string a0] w fun e w' => e = .returned (.int .i64 r) ∧ Drawn0 w w' := by
 have H : ((spec_l1In.f (a0.size : Int) 1 10).bind fun t141 => (if t141 = true then (if 0 < (a0.size : Int) then (if (bt a0 0) = 48 then (spec_l1Int.j0 k a0 (decide ((a0.size : Int) > 1))) else (spec_l1Int.j0 k a0 false)) else (none)) else (spec_l1Int.j0 k a0 true))) = some r := h
 clear h
 have HC2 := Aside0.mk H
 clear H
 go_enter Tryz.func190, Tryz.ntmps190
 go_upto_region 1 with (fail)
 go_cut [18] (fun v18 wc => ∃ (kq : Nat) (x18_1 : Bool), v18 = .bool x18_1 ∧ Aside0 (spec_l1Int.j0 kq a0 x18_1 = some r) ∧ Aside0 (kq ≤ k) ∧ Drawn0 w wc)
 case first =>
  have H := HC2.out
  clear HC2
  obtain ⟨t141, A3, H⟩ := bnd H
  by_cases c4 : t141 = true
  ·subst c4
   replace H := ift H
   obtain ⟨c5, H⟩ := ifn H
   have c5b0 : decide (0 < (a0.size : Int)) = true := decide_eq_true c5
   have c5b1 : decide (0 < a0.size) = true := decide_eq_true (by omega)
   clear c5
   (first | rw [c5b0] | (simp only [i64_w, i32_w]; rw [c5b0]) | rw [c5b1] | skip)
   by_cases c7 : (bt a0 0) = 48
   ·rw [if_pos c7] at H
    have c7b0 : ((bt a0 0) == 48) = true := beq_iff_eq.mpr c7
    have c7b1 : ((bt a0 0) != 48) = false := bne_eq_false_iff_eq.mpr c7
    clear c7
    have H' := Aside0.mk H
    clear H
    go_wp2_with (first | ((with_reducible refine gate_callee (f := 66) rfl ?_); refine goesL_ (some 7) rfl rfl Tryz.func66 KR rfl #[.int .i64 (a0.size : Int), .int .i64 1, .int .i64 10] rfl TA ?_; (with_reducible refine (spec_l1In.calls (a0.size : Int) 1 10 true _ A3.out).mono ?_); rintro e w' ⟨rfl, ⟨nd, rfl⟩⟩; refine ⟨_, rfl, ?_⟩; have p6 : 0 ≤ (0 : Int) := (by omega); have q6 : 0 < a0.size := (by have : (0 : Int) < (a0.size : Int) := TD; omega); have hx6 : ∀ h : 0 < a0.size, ((a0[0]'h).toNat : Int) = bt a0 0 := bt_at a0 0; clear p6; have qi6 : (0 < (a0.size : Int)) = True := eq_true TD; replace q6 := eq_true q6))
    go_meet
    case rel => exact ⟨_, (decide ((a0.size : Int) > 1)), TF, H', ⟨by first | omega | exact Nat.le_refl _⟩, TN⟩
   ·rw [if_neg c7] at H
    have c7b0 : ((bt a0 0) == 48) = false := beq_eq_false_iff_ne.mpr c7
    have c7b1 : ((bt a0 0) != 48) = true := bne_iff_ne.mpr c7
    have H' := Aside0.mk H
    clear H
    go_wp2_with (first | ((with_reducible refine gate_callee (f := 66) rfl ?_); refine goesL_ (some 7) rfl rfl Tryz.func66 KR rfl #[.int .i64 (a0.size : Int), .int .i64 1, .int .i64 10] rfl TA ?_; (with_reducible refine (spec_l1In.calls (a0.size : Int) 1 10 true _ A3.out).mono ?_); rintro e w' ⟨rfl, ⟨nd, rfl⟩⟩; refine ⟨_, rfl, ?_⟩; have p6 : 0 ≤ (0 : Int) := (by omega); have q6 : 0 < a0.size := (by have : (0 : Int) < (a0.size : Int) := TD; omega); have hx6 : ∀ h : 0 < a0.size, ((a0[0]'h).toNat : Int) = bt a0 0 := bt_at a0 0; clear p6; have qi6 : (0 < (a0.size : Int)) = True := eq_true TD; replace q6 := eq_true q6))
    go_meet
    case rel => exact ⟨_, (false), TF, H', ⟨by first | omega | exact Nat.le_refl _⟩, TN⟩
  ·replace c4 := Bool.eq_false_iff.mpr c4
   subst c4
   replace H := iff' H
   have H' := Aside0.mk H
   clear H
   go_wp2_with (first | ((with_reducible refine gate_callee (f := 66) rfl ?_); refine goesL_ (some 7) rfl rfl Tryz.func66 KR rfl #[.int .i64 (a0.size : Int), .int .i64 1, .int .i64 10] rfl TA ?_; (with_reducible refine (spec_l1In.calls (a0.size : Int) 1 10 false _ A3.out).mono ?_); rintro e w' ⟨rfl, ⟨nd, rfl⟩⟩; refine ⟨_, rfl, ?_⟩))
   go_meet
   case rel => exact ⟨_, (true), TF, H', ⟨by first | omega | exact Nat.le_refl _⟩, TN⟩
 case rest =>
  clear HC2
  try clear c1
  try clear p2
  try clear c4
  try clear c5
  try clear c5b0
  try clear c5b1
  try clear c6
  try clear p6
  try clear q6
  try clear hx6
  try clear qi6
  try clear c7
  try clear c7b0
  try clear c7b1
  try clear p6
  try clear q6
  obtain ⟨kq, x18_1, rfl, HA, HJ1, ⟨mc1, rfl⟩⟩ := hcut
  cases kq with
  | zero => exact absurd HA.out (by simp [spec_l1Int.j0])
  | succ kj1 =>
   have H := HA.out
   clear HA
   simp only [spec_l1Int.j0] at H
   by_cases c8 : x18_1 = true
   ·subst c8
    replace H := ift H
    obtain rfl := Option.some.inj H
    go_wp2
    go_ret
    exact ⟨TF, TN⟩
   ·replace c8 := Bool.eq_false_iff.mpr c8
    subst c8
    replace H := iff' H
    have H' := Aside0.mk H
    clear H
    go_wp2
    go_loopg [3, 4] kj1 (fun kq v3 v4 w' => ∃ (x3_2 : Int) (x4_2 : Int), v3 = .int .i64 x3_2 ∧ v4 = .int .i64 x4_2 ∧ Aside0 (spec_l1Int.l0 kq a0 x3_2 x4_2 = some r) ∧ Aside0 (kq ≤ kj1) ∧ Drawn0 w w')
    case atStart => exact ⟨(0), (0), TF, TF, H', ⟨Nat.le_refl _⟩, TN⟩
    case round =>
     clear H'
     try clear c1
     try clear p2
     try clear c4
     try clear c5
     try clear c5b0
     try clear c5b1
     try clear c6
     try clear p6
     try clear q6
     try clear hx6
     try clear qi6
     try clear c7
     try clear c7b0
     try clear c7b1
     try clear c8
     try clear p2
     try clear p6
     try clear q6
     obtain ⟨x3_2, x4_2, rfl, rfl, HA, HK2, ⟨m2, rfl⟩⟩ := hrel
     cases gk with
     | zero => exact absurd HA.out (by simp [spec_l1Int.l0])
     | succ k2 =>
      have H := HA.out
      clear HA
      simp only [spec_l1Int.l0] at H
      by_cases c9 : x4_2 < (a0.size : Int)
      ·rw [if_pos c9] at H
       have c9b0 : decide (x4_2 < (a0.size : Int)) = true := decide_eq_true c9
       clear c9
       obtain ⟨c10, H⟩ := ifn H
       have c10b0 : decide (0 ≤ x4_2) = true := decide_eq_true c10
       clear c10
       by_cases c12 : (bt a0 x4_2) < 48
       ·rw [if_pos c12] at H
        have c12b0 : decide ((bt a0 x4_2) < 48) = true := decide_eq_true c12
        clear c12
        obtain rfl := Option.some.inj H
        have p11 : 0 ≤ (x4_2 : Int) := TD
        have q11 : x4_2 < (a0.size : Int) := TD
        have hx11 := bt_at a0 x4_2
        replace p11 := eq_true p11
        replace q11 := eq_true q11
        go_wp2
        go_ret
        exact ⟨TF, TN⟩
       ·rw [if_neg c12] at H
        have c12b0 : decide ((bt a0 x4_2) < 48) = false := decide_eq_false c12
        clear c12
        by_cases c14 : (bt a0 x4_2) > 57
        ·rw [if_pos c14] at H
         have c14b0 : decide (57 < (bt a0 x4_2)) = true := decide_eq_true c14
         clear c14
         obtain rfl := Option.some.inj H
         have p11 : 0 ≤ (x4_2 : Int) := TD
         have q11 : x4_2 < (a0.size : Int) := TD
         have hx11 := bt_at a0 x4_2
         replace p11 := eq_true p11
         replace q11 := eq_true q11
         have p13 : 0 ≤ (x4_2 : Int) := TD
         have q13 : x4_2 < (a0.size : Int) := TD
         have hx13 := bt_at a0 x4_2
         replace p13 := eq_true p13
         replace q13 := eq_true q13
         go_wp2
         go_ret
         exact ⟨TF, TN⟩
        ·rw [if_neg c14] at H
         have c14b0 : decide (57 < (bt a0 x4_2)) = false := decide_eq_false c14
         clear c14
         have H' := Aside0.mk H
         clear H
         have p11 : 0 ≤ (x4_2 : Int) := TD
         have q11 : x4_2 < (a0.size : Int) := TD
         have hx11 := bt_at a0 x4_2
         replace p11 := eq_true p11
         replace q11 := eq_true q11
         have p13 : 0 ≤ (x4_2 : Int) := TD
         have q13 : x4_2 < (a0.size : Int) := TD
         have hx13 := bt_at a0 x4_2
         replace p13 := eq_true p13
         replace q13 := eq_true q13
         have p15 : 0 ≤ (x4_2 : Int) := TD
         have q15 : x4_2 < (a0.size : Int) := TD
         have hx15 := bt_at a0 x4_2
         replace p15 := eq_true p15
         replace q15 := eq_true q15
         go_wp2
         go_roundg k2
         case measure => have := HJ1.out; have := HK2.out; omega
         case rel => exact ⟨(wrap64 ((wrap64 (10 * x3_2)) + (((bt a0 x4_2) - 48) % 256))), (wrap64 (x4_2 + 1)), TF, TF, H', ⟨by have := HJ1.out; have := HK2.out; omega⟩, TN⟩
      ·rw [if_neg c9] at H
       have c9b0 : decide (x4_2 < (a0.size : Int)) = false := decide_eq_false c9
       clear c9
       obtain rfl := Option.some.inj H
       go_wp2
       go_ret
       exact ⟨TF, TN⟩
end
section
/-! ### spec_l3Number: function 191 -/
def spec_l3Number.l0 : Nat → Int → List Int → Int → Option (ByteArray)
 | 0, _, _, _ => none
 | k + 1, x0, x5, x6 => if x6 ≥ 0 then (if 0 ≤ x6 then (if x6 < (x5.length : Int) then (spec_l3Number.l0 k (x0 / 256) (x5.set (x6 : Int).toNat ((x0) % 256)) (wrap64 (x6 - 1))) else (none)) else (none)) else (some (strOfNums x5))
def spec_l3Number.f (k : Nat) (a0 : Int) (a1 : Int) : Option (ByteArray) := if 0 ≤ a1 then (if (a1 : Int).toNat ≤ 281474976710656 then (spec_l3Number.l0 k a0 (List.replicate (a1 : Int).toNat 0) (wrap64 (a1 - 1))) else (none)) else (none)
theorem spec_l3Number.calls (k : Nat) (a0 : Int) (a1 : Int) (r : ByteArray) (w : World) (h : spec_l3Number.f k a0 a1 = some r) :
  Calls Tryz.prog 191 #[.int .i64 a0, .int .i64 a1] w fun e w' => e = .returned (.string r) ∧ Below w.heap.size w w' := by
 have HB := Aside0.mk (Below.refl w.heap.size w)
 have H : (if 0 ≤ a1 then (if (a1 : Int).toNat ≤ 281474976710656 then (spec_l3Number.l0 k a0 (List.replicate (a1 : Int).toNat 0) (wrap64 (a1 - 1))) else (none)) else (none)) = some r := h
 clear h
 obtain ⟨c3, H⟩ := ifn H
 have c3b0 := eq_true c3
 have c3b1 : decide (0 ≤ a1) = true := decide_eq_true c3
 clear c3
 obtain ⟨c4, H⟩ := ifn H
 have c4b0 := eq_true c4
 have c4b1 : decide ((a1 : Int).toNat ≤ 281474976710656) = true := decide_eq_true c4
 clear c4
 obtain ⟨y142, hy142⟩ : ∃ y_ : List Int, y_ = (List.replicate (a1 : Int).toNat 0) := ⟨_, rfl⟩
 replace H : (spec_l3Number.l0 k a0 y142 (wrap64 (a1 - 1))) = some r := by first | (rw [hy142]; with_reducible exact H) | (have H2_ := (Option.bind_some _ _).symm.trans H; rw [hy142]; with_reducible exact H2_) | (have H2_ := (Option.bind_some _ _).symm.trans H; with_reducible exact H2_) | with_reducible exact H | (rw [hy142]; exact H) | exact H
 have Ny142 := Aside0.mk hy142
 clear hy142
 have H' := Aside0.mk H
 clear H
 go_enter Tryz.func191, Tryz.ntmps191
 go_wp2_with (first | ((with_reducible refine gate_dst (N := 8) rfl ?_); refine Kd.R_make (Kd.int .u8) _ 5 rfl (N := 8) rfl 141 _ _ rfl a1 rfl rfl Tryz.underlying141 (.int .u8 0) 1 info5 rfl (by decide) (by omega) 0 (ok := fun _ => True) (okp := fun _ => True) rfl (fun _ hk => hk) trivial TD (Nat.le_trans (Nat.mul_le_mul_right _ (TD : a1.toNat ≤ 281474976710656)) (by omega)) (Below.refl _ _) (Nat.le_refl _) ?_; intro v143 w5 ho6 hb hg_ hnew_; clear hg_ hnew_; (first | rw [← Ny142.out] at ho6 | (simp only [Int.reduceToNat] at ho6; rw [← Ny142.out] at ho6)); have HO144 := RL ho6; replace HB := BS hb; clear hb ho6))
 go_loopg [0, 6] k (fun kq v0 v6 w' => ∃ (x0_1 : Int) (x5_1 : List Int) (x6_1 : Int), v0 = .int .i64 x0_1 ∧ v6 = .int .i64 x6_1 ∧ Aside0 (spec_l3Number.l0 kq x0_1 x5_1 x6_1 = some r) ∧ Aside0 (kq ≤ k) ∧ Aside0 (Kd.R (Kd.int .u8) 5 w' w.heap.size (fun _ => True) v143 x5_1) ∧ Aside0 (Below w.heap.size w w'))
 case atStart => exact ⟨(a0), (y142), (wrap64 (a1 - 1)), TF, TF, H', ⟨Nat.le_refl _⟩, RW HO144, ⟨TB⟩⟩
 case round =>
  clear H'
  try clear c1
  try clear p2
  try clear c3
  try clear c3b0
  try clear c3b1
  try clear c4
  try clear c4b0
  try clear c4b1
  try clear p6
  obtain ⟨x0_1, x5_1, x6_1, rfl, rfl, HA, HK1, HO_5, HB⟩ := hrel
  cases gk with
  | zero => exact absurd HA.out (by simp [spec_l3Number.l0])
  | succ k1 =>
   have H := HA.out
   clear HA
   simp only [spec_l3Number.l0] at H
   by_cases c7 : x6_1 ≥ 0
   ·rw [if_pos c7] at H
    have c7b0 : decide (0 ≤ x6_1) = true := decide_eq_true c7
    clear c7
    obtain ⟨c8, H⟩ := ifn H
    have c8b0 : decide (0 ≤ x6_1) = true := decide_eq_true c8
    clear c8
    obtain ⟨c9, H⟩ := ifn H
    have c9b0 : decide (x6_1 < (x5_1.length : Int)) = true := decide_eq_true c9
    clear c9
    obtain ⟨y145, hy145⟩ : ∃ y_ : List Int, y_ = (x5_1.set (x6_1 : Int).toNat ((x0_1) % 256)) := ⟨_, rfl⟩
    replace H : (spec_l3Number.l0 k1 (x0_1 / 256) y145 (wrap64 (x6_1 - 1))) = some r := by first | (rw [hy145]; with_reducible exact H) | (have H2_ := (Option.bind_some _ _).symm.trans H; rw [hy145]; with_reducible exact H2_) | (have H2_ := (Option.bind_some _ _).symm.trans H; with_reducible exact H2_) | with_reducible exact H | (rw [hy145]; exact H) | exact H
    have Ny145 := Aside0.mk hy145
    clear hy145
    have H' := Aside0.mk H
    clear H
    have p10 : 0 ≤ (x6_1 : Int) := TD
    have q10 : (x6_1 : Int) < ((x5_1.length : Int) : Int) := TD
    obtain ⟨go10, co10, eo10, gb10, gl10, cl10, HG10⟩ := Kd.R_form HO_5.out (by omega)
    (first | cases eo10 | (injection eo10 with ea_ en_ ec_; (first | subst ea_ | (injection ea_ with ea_; subst ea_)); subst ec_; clear en_))
    have GB10 := Aside0.mk gb10
    have GG10 := Aside0.mk HG10
    clear gb10 gl10 HG10
    obtain ⟨hx10_0, hf10_0⟩ := Kd.R_celln 0 HO_5.out (x6_1 : Int) p10 q10
    replace p10 := eq_true p10
    replace q10 := eq_true q10
    have HP11 := Kd.R_putg HO_5.out (x6_1 : Int) ((x0_1) % 256)
    go_wp2_with (first | ((with_reducible refine gate_store (t := 5) (p := 19) rfl ?_); refine store_event (t := 5) (p := 19) (v := ?vo_w12) (w1 := (wr.setCell ⟨go10, (x6_1 : Int).toNat, none⟩ (.int .u8 ((x0_1) % 256)))) ?hg ?ho ?hn ?hr ?_; (case ho => rfl); (case hg => rfl); (case hn => rfl); (case hr => first | (go_simp; done) | (go_simp; rfl)); intro w12 hw; have hg : wr.grownBy w12 (some go10) := (by rw [hw]; exact HP11.2); have hp_ : Kd.R (Kd.int .u8) 5 w12 w.heap.size (fun _ => True) (.slice (some ⟨go10, 0, none⟩) x5_1.length co10) y145 := (by rw [hw, Ny145.out]; exact HP11.1); clear HP11; replace HO_5 := Aside0.mk (hp_); replace HB := Aside0.mk ((by rw [hw]; exact below_set (HB.out) GB10.out : Below w.heap.size w w12)); clear hg hw hp_))
    go_roundg k1
    case measure => have := HK1.out; omega
    case rel => exact ⟨(x0_1 / 256), (y145), (wrap64 (x6_1 - 1)), TF, TF, H', ⟨TM⟩, RW HO_5, ⟨TB⟩⟩
   ·rw [if_neg c7] at H
    have c7b0 : decide (0 ≤ x6_1) = false := decide_eq_false c7
    clear c7
    obtain rfl := Option.some.inj H
    have hcv13 := own_string (P := Tryz.prog) Tryz.underlying141 Tryz.underlying5 Tryz.underlying9 (Kd.own_of_R HO_5.out)
    go_wp2
    go_ret
    exact ⟨TE, TB⟩
end
section
/-! ### spec_l3Target: function 192 -/
def spec_l3Target.l0 : Nat → ByteArray → Bool → List ByteArray → Int → Int → Option (Bool)
 | 0, _, _, _, _, _ => none
 | k + 1, x0, x4, x12, x13, x14 => if x14 < x13 then (if 0 ≤ x14 then (if x14 < (x12.length : Int) then (if x4 = true then (spec_l3Target.l0 k x0 ((rdOf ByteArray.empty x12 x14).toList != ([42] : List UInt8)) x12 x13 (wrap64 (x14 + 1))) else (spec_l3Target.l0 k x0 false x12 x13 (wrap64 (x14 + 1)))) else (none)) else (none)) else (if x4 = true then (some (x0.toList != ([] : List UInt8))) else (some false))
def spec_l3Target.f (k : Nat) (a0 : ByteArray) : Option (Bool) := (spec_l1Labels.f k a0).bind fun bt146 => (spec_l3Target.l0 k a0 bt146.2 bt146.1 (bt146.1.length : Int) 0)
theorem spec_l3Target.calls (k : Nat) (a0 : ByteArray) (r : Bool) (w : World) (h : spec_l3Target.f k a0 = some r) :
  Calls Tryz.prog 192 #[.string a0] w fun e w' => e = .returned (.bool r) ∧ Below w.heap.size w w' := by
 have HB := Aside0.mk (Below.refl w.heap.size w)
 have H : ((spec_l1Labels.f k a0).bind fun bt146 => (spec_l3Target.l0 k a0 bt146.2 bt146.1 (bt146.1.length : Int) 0)) = some r := h
 clear h
 obtain ⟨⟨t146, t147⟩, A2, H⟩ := bnd H
 try dsimp only at H
 have H' := Aside0.mk H
 clear H
 go_enter Tryz.func192, Tryz.ntmps192
 go_wp2_with (first | ((with_reducible refine gate_callee (f := 108) rfl ?_); refine goesL_ (some 9) rfl rfl Tryz.func108 KR rfl #[.string a0] rfl TA ?_; (with_reducible refine (spec_l1Labels.calls k a0 t146 t147 _ A2.out).mono ?_); rintro e w3 ⟨v148, rfl, ho0, hb⟩; refine ⟨_, rfl, ?_⟩; have HO149 := RL ho0; replace HB := BS hb; (try clear hb); (try clear hb2); (try clear hk); (try clear hi); (try clear ho0); obtain ⟨Ao4, co4, eo4⟩ := Kd.R_slice HO149.out; subst eo4))
 go_loopg [4, 14] k (fun kq v4 v14 w' => ∃ (x4_1 : Bool) (x14_1 : Int), v4 = .bool x4_1 ∧ v14 = .int .i64 x14_1 ∧ Aside0 (spec_l3Target.l0 kq a0 x4_1 t146 (t146.length : Int) x14_1 = some r) ∧ Aside0 (kq ≤ k) ∧ Aside0 (Kd.R Kd.string 9 w' w.heap.size (fun _ => True) (.slice Ao4 t146.length co4) t146) ∧ Aside0 (Below w.heap.size w w'))
 case atStart => exact ⟨(t147), (0), TF, TF, H', ⟨Nat.le_refl _⟩, RW HO149, ⟨TB⟩⟩
 case round =>
  clear H'
  try clear c1
  try clear p2
  obtain ⟨x4_1, x14_1, rfl, rfl, HA, HK1, HO_12, HB⟩ := hrel
  cases gk with
  | zero => exact absurd HA.out (by simp [spec_l3Target.l0])
  | succ k1 =>
   have H := HA.out
   clear HA
   simp only [spec_l3Target.l0] at H
   by_cases c5 : x14_1 < (t146.length : Int)
   ·rw [if_pos c5] at H
    have c5b0 : decide (x14_1 < (t146.length : Int)) = true := decide_eq_true c5
    clear c5
    obtain ⟨c6, H⟩ := ifn H
    have c6b0 : decide (0 ≤ x14_1) = true := decide_eq_true c6
    clear c6
    obtain ⟨c7, H⟩ := ifn H
    have c7b0 : decide (x14_1 < (t146.length : Int)) = true := decide_eq_true c7
    clear c7
    by_cases c8 : x4_1 = true
    ·subst c8
     replace H := ift H
     have H' := Aside0.mk H
     clear H
     have p150 : 0 ≤ (x14_1 : Int) := TD
     have q150 : x14_1 < (t146.length : Int) := TD
     obtain ⟨ad150, e150, hx150_0⟩ := Kd.at_string (Kd.R_reads' HO_12.out).2.2 x14_1 p150 q150
     cases e150
     replace p150 := eq_true p150
     replace q150 := eq_true q150
     go_wp2
     go_roundg k1
     case measure => have := HK1.out; omega
     case rel => exact ⟨(((rdOf ByteArray.empty t146 x14_1).toList != ([42] : List UInt8))), (wrap64 (x14_1 + 1)), TF, TF, H', ⟨TM⟩, RW HO_12, ⟨TB⟩⟩
    ·replace c8 := Bool.eq_false_iff.mpr c8
     subst c8
     replace H := iff' H
     have H' := Aside0.mk H
     clear H
     have p150 : 0 ≤ (x14_1 : Int) := TD
     have q150 : x14_1 < (t146.length : Int) := TD
     obtain ⟨ad150, e150, hx150_0⟩ := Kd.at_string (Kd.R_reads' HO_12.out).2.2 x14_1 p150 q150
     cases e150
     replace p150 := eq_true p150
     replace q150 := eq_true q150
     go_wp2
     go_roundg k1
     case measure => have := HK1.out; omega
     case rel => exact ⟨(false), (wrap64 (x14_1 + 1)), TF, TF, H', ⟨TM⟩, RW HO_12, ⟨TB⟩⟩
   ·rw [if_neg c5] at H
    have c5b0 : decide (x14_1 < (t146.length : Int)) = false := decide_eq_false c5
    clear c5
    by_cases c9 : x4_1 = true
    ·subst c9
     replace H := ift H
     obtain rfl := Option.some.inj H
     go_wp2
     go_ret
     exact ⟨by first | rfl | (simp [errW_none, errW_some] <;> rfl) | (simp [*, errW_none, errW_some] <;> rfl) | (simp [errW_none, errW_some]; rw [Bool.eq_iff_iff]; simp), TB⟩
    ·replace c9 := Bool.eq_false_iff.mpr c9
     subst c9
     replace H := iff' H
     obtain rfl := Option.some.inj H
     go_wp2
     go_ret
     exact ⟨by first | rfl | (simp [errW_none, errW_some] <;> rfl) | (simp [*, errW_none, errW_some] <;> rfl) | (simp [errW_none, errW_some]; rw [Bool.eq_iff_iff]; simp), TB⟩
end
section
/-! ### spec_l2Bytes: function 193 -/
def spec_l2Bytes.l0 : Nat → ByteArray → List ByteArray → Int → Int → Option (ByteArray)
 | 0, _, _, _, _ => none
 | k + 1, x5, x13, x14, x15 => if x15 < x14 then (if 0 ≤ x15 then (if x15 < (x13.length : Int) then ((some (([(((rdOf ByteArray.empty x13 x15).size : Int)) % 256] : List Int) : List Int)).bind fun y156 => (if (strOfNums y156).size + (rdOf ByteArray.empty x13 x15).size ≤ 9223372036854775807 then (if x5.size + ((strOfNums y156) ++ (rdOf ByteArray.empty x13 x15)).size ≤ 9223372036854775807 then (spec_l2Bytes.l0 k (x5 ++ ((strOfNums y156) ++ (rdOf ByteArray.empty x13 x15))) x13 x14 (wrap64 (x15 + 1))) else (none)) else (none))) else (none)) else (none)) else (if x5.size + 1 ≤ 9223372036854775807 then (some (x5 ++ (⟨#[0]⟩ : ByteArray))) else (none))
def spec_l2Bytes.f (k : Nat) (a0 : ByteArray) : Option (ByteArray) := (spec_l1Labels.f k a0).bind fun bt151 => (spec_l2Bytes.l0 k (⟨#[]⟩ : ByteArray) bt151.1 (bt151.1.length : Int) 0)
theorem spec_l2Bytes.calls (k : Nat) (a0 : ByteArray) (r : ByteArray) (w : World) (h : spec_l2Bytes.f k a0 = some r) :
  Calls Tryz.prog 193 #[.string a0] w fun e w' => e = .returned (.string r) ∧ Below w.heap.size w w' := by
 have HB := Aside0.mk (Below.refl w.heap.size w)
 have H : ((spec_l1Labels.f k a0).bind fun bt151 => (spec_l2Bytes.l0 k (⟨#[]⟩ : ByteArray) bt151.1 (bt151.1.length : Int) 0)) = some r := h
 clear h
 obtain ⟨⟨t151, t152⟩, A2, H⟩ := bnd H
 try dsimp only at H
 have H' := Aside0.mk H
 clear H
 go_enter Tryz.func193, Tryz.ntmps193
 go_wp2_with (first | ((with_reducible refine gate_callee (f := 108) rfl ?_); refine goesL_ (some 10) rfl rfl Tryz.func108 KR rfl #[.string a0] rfl TA ?_; (with_reducible refine (spec_l1Labels.calls k a0 t151 t152 _ A2.out).mono ?_); rintro e w3 ⟨v153, rfl, ho0, hb⟩; refine ⟨_, rfl, ?_⟩; have HO154 := RL ho0; replace HB := BS hb; (try clear hb); (try clear hb2); (try clear hk); (try clear hi); (try clear ho0); obtain ⟨Ao4, co4, eo4⟩ := Kd.R_slice HO154.out; subst eo4))
 go_loopg [5, 15] k (fun kq v5 v15 w' => ∃ (x5_1 : ByteArray) (x15_1 : Int), v5 = .string x5_1 ∧ v15 = .int .i64 x15_1 ∧ Aside0 (spec_l2Bytes.l0 kq x5_1 t151 (t151.length : Int) x15_1 = some r) ∧ Aside0 (kq ≤ k) ∧ Aside0 (Kd.R Kd.string 9 w' w.heap.size (fun _ => True) (.slice Ao4 t151.length co4) t151) ∧ Aside0 (Below w.heap.size w w'))
 case atStart => exact ⟨((⟨#[]⟩ : ByteArray)), (0), TF, TF, H', ⟨Nat.le_refl _⟩, RW HO154, ⟨TB⟩⟩
 case round =>
  clear H'
  try clear c1
  try clear p2
  obtain ⟨x5_1, x15_1, rfl, rfl, HA, HK1, HO_13, HB⟩ := hrel
  cases gk with
  | zero => exact absurd HA.out (by simp [spec_l2Bytes.l0])
  | succ k1 =>
   have H := HA.out
   clear HA
   simp only [spec_l2Bytes.l0] at H
   by_cases c5 : x15_1 < (t151.length : Int)
   ·rw [if_pos c5] at H
    have c5b0 : decide (x15_1 < (t151.length : Int)) = true := decide_eq_true c5
    clear c5
    obtain ⟨c6, H⟩ := ifn H
    have c6b0 : decide (0 ≤ x15_1) = true := decide_eq_true c6
    clear c6
    obtain ⟨c7, H⟩ := ifn H
    have c7b0 : decide (x15_1 < (t151.length : Int)) = true := decide_eq_true c7
    clear c7
    obtain ⟨y156, hy156⟩ : ∃ y_ : List Int, y_ = (([(((rdOf ByteArray.empty t151 x15_1).size : Int)) % 256] : List Int)) := ⟨_, rfl⟩
    replace H : (if (strOfNums y156).size + (rdOf ByteArray.empty t151 x15_1).size ≤ 9223372036854775807 then (if x5_1.size + ((strOfNums y156) ++ (rdOf ByteArray.empty t151 x15_1)).size ≤ 9223372036854775807 then (spec_l2Bytes.l0 k1 (x5_1 ++ ((strOfNums y156) ++ (rdOf ByteArray.empty t151 x15_1))) t151 (t151.length : Int) (wrap64 (x15_1 + 1))) else (none)) else (none)) = some r := by first | (rw [hy156]; with_reducible exact H) | (have H2_ := (Option.bind_some _ _).symm.trans H; rw [hy156]; with_reducible exact H2_) | (have H2_ := (Option.bind_some _ _).symm.trans H; with_reducible exact H2_) | with_reducible exact H | (rw [hy156]; exact H) | exact H
    have Ny156 := Aside0.mk hy156
    clear hy156
    obtain ⟨c8, H⟩ := ifn H
    have c8b0 := eq_true c8
    have c8b1 : decide ((strOfNums y156).size + (rdOf ByteArray.empty t151 x15_1).size ≤ 9223372036854775807) = true := decide_eq_true c8
    try have c8b2 : (9223372036854775807 < (strOfNums y156).size + (rdOf ByteArray.empty t151 x15_1).size) = False := eq_false (Nat.not_lt.2 c8)
    obtain ⟨c9, H⟩ := ifn H
    have c9b0 := eq_true c9
    have c9b1 : decide (x5_1.size + ((strOfNums y156) ++ (rdOf ByteArray.empty t151 x15_1)).size ≤ 9223372036854775807) = true := decide_eq_true c9
    try have c9b2 : (9223372036854775807 < x5_1.size + ((strOfNums y156) ++ (rdOf ByteArray.empty t151 x15_1)).size) = False := eq_false (Nat.not_lt.2 c9)
    have H' := Aside0.mk H
    clear H
    have p155 : 0 ≤ (x15_1 : Int) := TD
    have q155 : x15_1 < (t151.length : Int) := TD
    obtain ⟨ad155, e155, hx155_0⟩ := Kd.at_string (Kd.R_reads' HO_13.out).2.2 x15_1 p155 q155
    cases e155
    replace p155 := eq_true p155
    replace q155 := eq_true q155
    go_wp2_with (first | ((with_reducible refine gate_dst (N := 23) rfl ?_); refine Kd.R_lit (Kd.int .u8) _ 5 ?hg (N := 23) ?hd (xs := ([(((rdOf ByteArray.empty t151 x15_1).size : Int)) % 256] : List Int)) (inner := [.int .u8 ((((rdOf ByteArray.empty t151 x15_1).size : Int)) % 256)]) (ok := fun _ => True) (okp := fun _ => True) ?hr ?hp (fun _ hk => hk) trivial (Below.refl _ _) (Nat.le_refl _) (by simp) ?_; (case hd => rfl); (case hg => rfl); (case hr => first | (go_simp; done) | (go_simp; rfl)); (case hp => exact (Reps.one (show Kd.M (Kd.int .u8) _ _ _ ((((rdOf ByteArray.empty t151 x15_1).size : Int)) % 256) [.int .u8 ((((rdOf ByteArray.empty t151 x15_1).size : Int)) % 256)] from rfl) (Reps.none _ _))); intro v157 w10 ho11 hb hg_ hnew_; clear hg_ hnew_; (first | rw [← Ny156.out] at ho11 | (simp only [Int.reduceToNat] at ho11; rw [← Ny156.out] at ho11)); replace HO_13 := RB HO_13 hb; have HO158 := RL ho11; replace HB := BS hb; clear hb ho11; have hcv12 := own_string (P := Tryz.prog) Tryz.underlying141 Tryz.underlying5 Tryz.underlying9 (Kd.own_of_R HO158.out)))
    go_roundg k1
    case measure => have := HK1.out; omega
    case rel => exact ⟨(x5_1 ++ ((strOfNums y156) ++ (rdOf ByteArray.empty t151 x15_1))), (wrap64 (x15_1 + 1)), TF, TF, H', ⟨TM⟩, RW HO_13, ⟨TB⟩⟩
   ·rw [if_neg c5] at H
    have c5b0 : decide (x15_1 < (t151.length : Int)) = false := decide_eq_false c5
    clear c5
    obtain ⟨c13, H⟩ := ifn H
    have c13b0 := eq_true c13
    have c13b1 : decide (x5_1.size + 1 ≤ 9223372036854775807) = true := decide_eq_true c13
    try have c13b2 : (9223372036854775807 < x5_1.size + 1) = False := eq_false (Nat.not_lt.2 c13)
    obtain rfl := Option.some.inj H
    go_wp2
    go_ret
    exact ⟨TE, TB⟩
end
section
/-! ### spec_l3Bytes: function 162 -/
mutual
def spec_l3Bytes.l0 : Nat → ByteArray → List ByteArray → List ByteArray → Int → Int → Option (ByteArray × Bool)
 | 0, _, _, _, _, _ => none
 | k + 1, x6, x7, x19, x20, x21 => if x21 < x20 then (if 0 ≤ x21 then (if x21 < (x19.length : Int) then ((spec_l1Int.f k (rdOf ByteArray.empty x19 x21)).bind fun t163 => ((spec_l1In.f t163 0 255).bind fun t164 => (if t164 = true then ((spec_l3Number.f k t163 1).bind fun t165 => (if x6.size + t165.size ≤ 9223372036854775807 then (spec_l3Bytes.l0 k (x6 ++ t165) x7 x19 x20 (wrap64 (x21 + 1))) else (none))) else (some ((⟨#[]⟩ : ByteArray), false))))) else (none)) else (none)) else (some (x6, ((x7.length : Int) == 4)))
def spec_l3Bytes.j1 : Nat → ByteArray → Int → Bool → Option (ByteArray × Bool)
 | 0, _, _, _ => none
 | k + 1, x1, x14, x39 => if x39 = true then ((spec_l3Target.f k x1).bind fun t166 => (if t166 = true then ((spec_l2Bytes.f k x1).bind fun t167 => (some (t167, true))) else (some ((⟨#[]⟩ : ByteArray), false)))) else (if x14 = 6 then ((spec_l1Int.f k x1).bind fun t168 => ((spec_l3Number.f k t168 4).bind fun t169 => ((spec_l1In.f t168 0 4294967295).bind fun t170 => (some (t169, t170))))) else (if x14 = 15 then ((spec_l1Split.f k x1 32).bind fun t171 => (if (t171.length : Int) = 2 then (if 0 < (t171.length : Int) then ((spec_l1Int.f k (rdOf ByteArray.empty t171 0)).bind fun t175 => ((spec_l1In.f t175 0 65535).bind fun t176 => (if t176 = true then (if 1 < (t171.length : Int) then ((spec_l3Target.f k (rdOf ByteArray.empty t171 1)).bind fun t178 => (spec_l3Bytes.j2 k t171 (!t178))) else (none)) else (spec_l3Bytes.j2 k t171 true)))) else (none)) else (spec_l3Bytes.j2 k t171 true))) else (if x14 = 16 then (spec_l3Bytes.l1 k x1 0) else (some ((⟨#[]⟩ : ByteArray), false)))))
def spec_l3Bytes.j2 : Nat → List ByteArray → Bool → Option (ByteArray × Bool)
 | 0, _, _ => none
 | k + 1, x12, x76 => if x76 = true then (some ((⟨#[]⟩ : ByteArray), false)) else (if 0 < (x12.length : Int) then ((spec_l1Int.f k (rdOf ByteArray.empty x12 0)).bind fun t180 => ((spec_l3Number.f k t180 2).bind fun t181 => (if 1 < (x12.length : Int) then ((spec_l2Bytes.f k (rdOf ByteArray.empty x12 1)).bind fun t183 => (if t181.size + t183.size ≤ 9223372036854775807 then (some (t181 ++ t183, true)) else (none))) else (none)))) else (none))
def spec_l3Bytes.l1 : Nat → ByteArray → Int → Option (ByteArray × Bool)
 | 0, _, _ => none
 | k + 1, x1, x13 => if x13 < (x1.size : Int) then (if 0 ≤ x13 then (if (bt x1 x13) < 32 then (some ((⟨#[]⟩ : ByteArray), false)) else (if (bt x1 x13) > 126 then (some ((⟨#[]⟩ : ByteArray), false)) else (spec_l3Bytes.l1 k x1 (wrap64 (x13 + 1))))) else (none)) else ((some (([((x1.size : Int)) % 256] : List Int) : List Int)).bind fun y184 => (if (strOfNums y184).size + x1.size ≤ 9223372036854775807 then (some ((strOfNums y184) ++ x1, decide ((x1.size : Int) ≤ 30))) else (none)))
end
def spec_l3Bytes.f (k : Nat) (a0 : Int) (a1 : ByteArray) : Option (ByteArray × Bool) := if a0 = 1 then ((spec_l1Split.f k a1 46).bind fun t159 => (spec_l3Bytes.l0 k (⟨#[]⟩ : ByteArray) t159 t159 (t159.length : Int) 0)) else (if a0 = 2 then (spec_l3Bytes.j1 k a1 a0 (a0 == 2)) else (spec_l3Bytes.j1 k a1 a0 (a0 == 5)))
def spec_l3Bytes.T26 : Bool × List (List Nat × List Nat) := (true, [([], []), ([0], [0]), ([1], [1]), ([2], [2]), ([3, 3], [3]), ([], []), ([5], [5]), ([6], [6]), ([7, 4], [7]), ([4, 8], [4, 8]), ([9, 8, 0, 1, 2, 3, 4, 5, 6, 7, 8, 9], [9]), ([10, 0, 1, 2, 3, 4, 5, 6, 7, 8, 9, 10], [])])
def spec_l3Bytes.B26 : List Nat := [0, 1, 3, 7, 15, 0, 32, 96, 255, 511, 1023, 2047]
theorem spec_l3Bytes.tab26 : rtab .any (opsOf Tryz.f162 26) = spec_l3Bytes.T26 := by kernel_rfl
theorem spec_l3Bytes.bits26 : waitsOk spec_l3Bytes.T26.2 spec_l3Bytes.B26 = true := by kernel_rfl
theorem spec_l3Bytes.calls (k : Nat) (a0 : Int) (a1 : ByteArray) (r1 : ByteArray) (r2 : Bool) (w : World) (h : spec_l3Bytes.f k a0 a1 = some (r1, r2)) :
  Calls Tryz.prog 162 #[.int .i64 a0, .string a1] w fun e w' => e = .returned (.tuple #[.string r1, .bool r2]) ∧ Below w.heap.size w w' := by
 have HB := Aside0.mk (Below.refl w.heap.size w)
 have H : (if a0 = 1 then ((spec_l1Split.f k a1 46).bind fun t159 => (spec_l3Bytes.l0 k (⟨#[]⟩ : ByteArray) t159 t159 (t159.length : Int) 0)) else (if a0 = 2 then (spec_l3Bytes.j1 k a1 a0 (a0 == 2)) else (spec_l3Bytes.j1 k a1 a0 (a0 == 5)))) = some (r1, r2) := h
 clear h
 by_cases c3 : a0 = 1
 ·rw [if_pos c3] at H
  have c3b0 : (a0 == 1) = true := beq_iff_eq.mpr c3
  have c3b1 : (a0 != 1) = false := bne_eq_false_iff_eq.mpr c3
  clear c3
  obtain ⟨t159, A4, H⟩ := bnd H
  have H' := Aside0.mk H
  clear H
  go_enter Tryz.func162, Tryz.ntmps162
  go_wp2_with (first | ((with_reducible refine gate_callee (f := 149) rfl ?_); refine goesL_ (some 18) rfl rfl Tryz.func149 KR rfl #[.string a1, .int .u8 46] rfl TA ?_; (with_reducible refine (spec_l1Split.calls k a1 46 t159 _ A4.out).mono ?_); rintro e w5 ⟨v160, rfl, ho0, hb⟩; refine ⟨_, rfl, ?_⟩; have HO161 := RL ho0; replace HB := BS hb; (try clear hb); (try clear hb2); (try clear hk); (try clear hi); (try clear ho0); obtain ⟨Ao6, co6, eo6⟩ := Kd.R_slice HO161.out; subst eo6))
  go_loopg [6, 21] k (fun kq v6 v21 w' => ∃ (x6_1 : ByteArray) (x21_1 : Int), v6 = .string x6_1 ∧ v21 = .int .i64 x21_1 ∧ Aside0 (spec_l3Bytes.l0 kq x6_1 t159 t159 (t159.length : Int) x21_1 = some (r1, r2)) ∧ Aside0 (kq ≤ k) ∧ Aside0 (Kd.R Kd.string 9 w' w.heap.size (fun _ => True) (.slice Ao6 t159.length co6) t159) ∧ Aside0 (Kd.R Kd.string 9 w' w.heap.size (fun _ => True) (.slice Ao6 t159.length co6) t159) ∧ Aside0 (Below w.heap.size w w'))
  case atStart => exact ⟨((⟨#[]⟩ : ByteArray)), (0), TF, TF, H', ⟨Nat.le_refl _⟩, RW HO161, RW HO161, ⟨TB⟩⟩
  case round =>
   clear H'
   try clear c1
   try clear p2
   try clear c3
   try clear c3b0
   try clear c3b1
   obtain ⟨x6_1, x21_1, rfl, rfl, HA, HK1, HO_7, HO_19, HB⟩ := hrel
   cases gk with
   | zero => exact absurd HA.out (by simp [spec_l3Bytes.l0])
   | succ k1 =>
    have H := HA.out
    clear HA
    simp only [spec_l3Bytes.l0] at H
    by_cases c7 : x21_1 < (t159.length : Int)
    ·rw [if_pos c7] at H
     have c7b0 : decide (x21_1 < (t159.length : Int)) = true := decide_eq_true c7
     clear c7
     obtain ⟨c8, H⟩ := ifn H
     have c8b0 : decide (0 ≤ x21_1) = true := decide_eq_true c8
     clear c8
     obtain ⟨c9, H⟩ := ifn H
     have c9b0 : decide (x21_1 < (t159.length : Int)) = true := decide_eq_true c9
     clear c9
     obtain ⟨t163, A10, H⟩ := bnd H
     obtain ⟨t164, A11, H⟩ := bnd H
     by_cases c12 : t164 = true
     ·subst c12
      replace H := ift H
      obtain ⟨t165, A13, H⟩ := bnd H
      obtain ⟨c14, H⟩ := ifn H
      have c14b0 := eq_true c14
      have c14b1 : decide (x6_1.size + t165.size ≤ 9223372036854775807) = true := decide_eq_true c14
      try have c14b2 : (9223372036854775807 < x6_1.size + t165.size) = False := eq_false (Nat.not_lt.2 c14)
      have H' := Aside0.mk H
      clear H
      have p162 : 0 ≤ (x21_1 : Int) := TD
      have q162 : x21_1 < (t159.length : Int) := TD
      obtain ⟨ad162, e162, hx162_0⟩ := Kd.at_string (Kd.R_reads' HO_19.out).2.2 x21_1 p162 q162
      cases e162
      replace p162 := eq_true p162
      replace q162 := eq_true q162
      go_wp2_with (first | ((with_reducible refine gate_callee (f := 190) rfl ?_); refine goesL_ (some 26) rfl rfl Tryz.func190 KR rfl #[.string (rdOf ByteArray.empty t159 x21_1)] rfl TA ?_; (with_reducible refine (spec_l1Int.calls k1 (rdOf ByteArray.empty t159 x21_1) t163 _ A10.out).mono ?_); rintro e w' ⟨rfl, ⟨nd, rfl⟩⟩; refine ⟨_, rfl, ?_⟩) | ((with_reducible refine gate_callee (f := 66) rfl ?_); refine goesL_ (some 28) rfl rfl Tryz.func66 KR rfl #[.int .i64 t163, .int .i64 0, .int .i64 255] rfl TA ?_; (with_reducible refine (spec_l1In.calls t163 0 255 true _ A11.out).mono ?_); rintro e w' ⟨rfl, ⟨nd, rfl⟩⟩; refine ⟨_, rfl, ?_⟩) | ((with_reducible refine gate_callee (f := 191) rfl ?_); refine goesL_ (some 32) rfl rfl Tryz.func191 KR rfl #[.int .i64 t163, .int .i64 1] rfl TA ?_; (with_reducible refine (spec_l3Number.calls k1 t163 1 t165 _ A13.out).mono ?_); rintro e w15 ⟨rfl, hb⟩; refine ⟨_, rfl, ?_⟩; replace HO_7 := RB HO_7 hb; replace HO_19 := RB HO_19 hb; replace HB := BS hb; (try clear hb); (try clear hb2); (try clear hk); (try clear hi)))
      go_roundg k1
      case measure => have := HK1.out; omega
      case rel => exact ⟨(x6_1 ++ t165), (wrap64 (x21_1 + 1)), TF, TF, H', ⟨TM⟩, RW HO_7, RW HO_19, ⟨TB⟩⟩
     ·replace c12 := Bool.eq_false_iff.mpr c12
      subst c12
      replace H := iff' H
      simp only [Option.some.injEq, Prod.mk.injEq] at H
      obtain ⟨rfl, rfl⟩ := H
      have p162 : 0 ≤ (x21_1 : Int) := TD
      have q162 : x21_1 < (t159.length : Int) := TD
      obtain ⟨ad162, e162, hx162_0⟩ := Kd.at_string (Kd.R_reads' HO_19.out).2.2 x21_1 p162 q162
      cases e162
      replace p162 := eq_true p162
      replace q162 := eq_true q162
      go_wp2_with (first | ((with_reducible refine gate_callee (f := 190) rfl ?_); refine goesL_ (some 26) rfl rfl Tryz.func190 KR rfl #[.string (rdOf ByteArray.empty t159 x21_1)] rfl TA ?_; (with_reducible refine (spec_l1Int.calls k1 (rdOf ByteArray.empty t159 x21_1) t163 _ A10.out).mono ?_); rintro e w' ⟨rfl, ⟨nd, rfl⟩⟩; refine ⟨_, rfl, ?_⟩) | ((with_reducible refine gate_callee (f := 66) rfl ?_); refine goesL_ (some 28) rfl rfl Tryz.func66 KR rfl #[.int .i64 t163, .int .i64 0, .int .i64 255] rfl TA ?_; (with_reducible refine (spec_l1In.calls t163 0 255 false _ A11.out).mono ?_); rintro e w' ⟨rfl, ⟨nd, rfl⟩⟩; refine ⟨_, rfl, ?_⟩))
      go_ret2
      exact ⟨TE, TB⟩
    ·rw [if_neg c7] at H
     have c7b0 : decide (x21_1 < (t159.length : Int)) = false := decide_eq_false c7
     clear c7
     simp only [Option.some.injEq, Prod.mk.injEq] at H
     obtain ⟨rfl, rfl⟩ := H
     go_wp2
     go_ret2
     exact ⟨TE, TB⟩
 ·rw [if_neg c3] at H
  have c3b0 : (a0 == 1) = false := beq_eq_false_iff_ne.mpr c3
  have c3b1 : (a0 != 1) = true := bne_iff_ne.mpr c3
  have HC16 := Aside0.mk H
  clear H
  go_enter Tryz.func162, Tryz.ntmps162
  go_upto_if 39 with (fail)
  go_cut [39] (fun v39 wc => ∃ (kq : Nat) (x39_15 : Bool), v39 = .bool x39_15 ∧ Aside0 (spec_l3Bytes.j1 kq a1 a0 x39_15 = some (r1, r2)) ∧ Aside0 (kq ≤ k) ∧ Aside0 (Below w.heap.size w wc))
  case first =>
   have H := HC16.out
   clear HC16
   by_cases c17 : a0 = 2
   ·rw [if_pos c17] at H
    have c17b0 : (a0 == 2) = true := beq_iff_eq.mpr c17
    have c17b1 : (a0 != 2) = false := bne_eq_false_iff_eq.mpr c17
    clear c17
    (first | rw [c17b0] | (simp only [i64_w, i32_w]; rw [c17b0]) | rw [c17b1] | skip)
    have H' := Aside0.mk H
    clear H
    go_wp2
    go_meet
    case rel => exact ⟨_, ((a0 == 2)), TF, H', ⟨by first | omega | exact Nat.le_refl _⟩, ⟨TB⟩⟩
   ·rw [if_neg c17] at H
    have c17b0 : (a0 == 2) = false := beq_eq_false_iff_ne.mpr c17
    have c17b1 : (a0 != 2) = true := bne_iff_ne.mpr c17
    (first | rw [c17b0] | (simp only [i64_w, i32_w]; rw [c17b0]) | rw [c17b1] | skip)
    have H' := Aside0.mk H
    clear H
    go_wp2
    go_meet
    case rel => exact ⟨_, ((a0 == 5)), TF, H', ⟨by first | omega | exact Nat.le_refl _⟩, ⟨TB⟩⟩
  case rest =>
   clear HC16
   try clear c1
   try clear p1
   try clear q1
   try clear hx1
   try clear p2
   try clear c3
   try clear c3b0
   try clear c3b1
   try clear c6
   try clear p6
   try clear c7
   try clear c7b0
   try clear c8
   try clear c8b0
   try clear c9
   try clear c9b0
   try clear c12
   try clear c14
   try clear c14b0
   try clear c14b1
   try clear c14b2
   try clear c16
   try clear p16
   try clear q16
   try clear hx16
   try clear c17
   try clear c17b0
   try clear c17b1
   try clear hx162_0
   try clear p162
   try clear p2
   try clear q162
   obtain ⟨kq, x39_15, rfl, HA, HJ15, HB⟩ := hcut
   cases kq with
   | zero => exact absurd HA.out (by simp [spec_l3Bytes.j1])
   | succ kj15 =>
    have H := HA.out
    clear HA
    simp only [spec_l3Bytes.j1] at H
    by_cases c18 : x39_15 = true
    ·subst c18
     replace H := ift H
     obtain ⟨t166, A19, H⟩ := bnd H
     by_cases c20 : t166 = true
     ·subst c20
      replace H := ift H
      obtain ⟨t167, A21, H⟩ := bnd H
      simp only [Option.some.injEq, Prod.mk.injEq] at H
      obtain ⟨rfl, rfl⟩ := H
      go_wp2_with (first | ((with_reducible refine gate_callee (f := 192) rfl ?_); refine goesL_ (some 43) rfl rfl Tryz.func192 KR rfl #[.string a1] rfl TA ?_; (with_reducible refine (spec_l3Target.calls kj15 a1 true _ A19.out).mono ?_); rintro e w22 ⟨rfl, hb⟩; refine ⟨_, rfl, ?_⟩; replace HB := BS hb; (try clear hb); (try clear hb2); (try clear hk); (try clear hi)) | ((with_reducible refine gate_callee (f := 193) rfl ?_); refine goesL_ (some 46) rfl rfl Tryz.func193 KR rfl #[.string a1] rfl TA ?_; (with_reducible refine (spec_l2Bytes.calls kj15 a1 t167 _ A21.out).mono ?_); rintro e w23 ⟨rfl, hb⟩; refine ⟨_, rfl, ?_⟩; replace HB := BS hb; (try clear hb); (try clear hb2); (try clear hk); (try clear hi)))
      go_ret2
      exact ⟨TE, TB⟩
     ·replace c20 := Bool.eq_false_iff.mpr c20
      subst c20
      replace H := iff' H
      simp only [Option.some.injEq, Prod.mk.injEq] at H
      obtain ⟨rfl, rfl⟩ := H
      go_wp2_with (first | ((with_reducible refine gate_callee (f := 192) rfl ?_); refine goesL_ (some 43) rfl rfl Tryz.func192 KR rfl #[.string a1] rfl TA ?_; (with_reducible refine (spec_l3Target.calls kj15 a1 false _ A19.out).mono ?_); rintro e w24 ⟨rfl, hb⟩; refine ⟨_, rfl, ?_⟩; replace HB := BS hb; (try clear hb); (try clear hb2); (try clear hk); (try clear hi)))
      go_ret2
      exact ⟨TE, TB⟩
    ·replace c18 := Bool.eq_false_iff.mpr c18
     subst c18
     replace H := iff' H
     by_cases c25 : a0 = 6
     ·rw [if_pos c25] at H
      have c25b0 : (a0 == 6) = true := beq_iff_eq.mpr c25
      have c25b1 : (a0 != 6) = false := bne_eq_false_iff_eq.mpr c25
      clear c25
      obtain ⟨t168, A26, H⟩ := bnd H
      obtain ⟨t169, A27, H⟩ := bnd H
      obtain ⟨t170, A28, H⟩ := bnd H
      simp only [Option.some.injEq, Prod.mk.injEq] at H
      obtain ⟨rfl, rfl⟩ := H
      go_wp2_with (first | ((with_reducible refine gate_callee (f := 190) rfl ?_); refine goesL_ (some 50) rfl rfl Tryz.func190 KR rfl #[.string a1] rfl TA ?_; (with_reducible refine (spec_l1Int.calls kj15 a1 t168 _ A26.out).mono ?_); rintro e w' ⟨rfl, ⟨nd, rfl⟩⟩; refine ⟨_, rfl, ?_⟩) | ((with_reducible refine gate_callee (f := 191) rfl ?_); refine goesL_ (some 52) rfl rfl Tryz.func191 KR rfl #[.int .i64 t168, .int .i64 4] rfl TA ?_; (with_reducible refine (spec_l3Number.calls kj15 t168 4 t169 _ A27.out).mono ?_); rintro e w29 ⟨rfl, hb⟩; refine ⟨_, rfl, ?_⟩; replace HB := BS hb; (try clear hb); (try clear hb2); (try clear hk); (try clear hi)) | ((with_reducible refine gate_callee (f := 66) rfl ?_); refine goesL_ (some 54) rfl rfl Tryz.func66 KR rfl #[.int .i64 t168, .int .i64 0, .int .i64 4294967295] rfl TA ?_; (with_reducible refine (spec_l1In.calls t168 0 4294967295 t170 _ A28.out).mono ?_); rintro e w' ⟨rfl, ⟨nd, rfl⟩⟩; refine ⟨_, rfl, ?_⟩))
      go_ret2
      exact ⟨TE, TB⟩
     ·rw [if_neg c25] at H
      have c25b0 : (a0 == 6) = false := beq_eq_false_iff_ne.mpr c25
      have c25b1 : (a0 != 6) = true := bne_iff_ne.mpr c25
      by_cases c30 : a0 = 15
      ·rw [if_pos c30] at H
       have c30b0 : (a0 == 15) = true := beq_iff_eq.mpr c30
       have c30b1 : (a0 != 15) = false := bne_eq_false_iff_eq.mpr c30
       clear c30
       obtain ⟨t171, A31, H⟩ := bnd H
       have HC32 := Aside0.mk H
       clear H
       go_upto_region 24 with (first | ((with_reducible refine gate_callee (f := 149) rfl ?_); refine goesL_ (some 58) rfl rfl Tryz.func149 KR rfl #[.string a1, .int .u8 32] rfl TA ?_; (with_reducible refine (spec_l1Split.calls kj15 a1 32 t171 _ A31.out).mono ?_); rintro e w33 ⟨v172, rfl, ho0, hb⟩; refine ⟨_, rfl, ?_⟩; have HO173 := RL ho0; replace HB := BS hb; (try clear hb); (try clear hb2); (try clear hk); (try clear hi); (try clear ho0)))
       (try simp only [Act.put, List.setIfInBounds_toArray, List.set_cons_zero, List.set_cons_succ])
       go_cut [76] (fun v76 wc => ∃ (kq : Nat) (x76_31 : Bool), v76 = .bool x76_31 ∧ Aside0 (spec_l3Bytes.j2 kq t171 x76_31 = some (r1, r2)) ∧ Aside0 (kq ≤ kj15) ∧ Aside0 (Kd.R Kd.string 9 wc w.heap.size (fun _ => True) v172 t171) ∧ Aside0 (Below w.heap.size w wc))
       case first =>
        have H := HC32.out
        clear HC32
        by_cases c34 : (t171.length : Int) = 2
        ·rw [if_pos c34] at H
         have c34b0 : ((t171.length : Int) == 2) = true := beq_iff_eq.mpr c34
         have c34b1 : ((t171.length : Int) != 2) = false := bne_eq_false_iff_eq.mpr c34
         clear c34
         (first | rw [c34b0] | (simp only [i64_w, i32_w]; rw [c34b0]) | rw [c34b1] | skip)
         obtain ⟨c35, H⟩ := ifn H
         have c35b0 : decide (0 < (t171.length : Int)) = true := decide_eq_true c35
         have c35b1 : decide (0 < t171.length) = true := decide_eq_true (by omega)
         clear c35
         obtain ⟨t175, A36, H⟩ := bnd H
         obtain ⟨t176, A37, H⟩ := bnd H
         by_cases c38 : t176 = true
         ·subst c38
          replace H := ift H
          obtain ⟨c39, H⟩ := ifn H
          have c39b0 : decide (1 < (t171.length : Int)) = true := decide_eq_true c39
          have c39b1 : decide (1 < t171.length) = true := decide_eq_true (by omega)
          clear c39
          obtain ⟨t178, A40, H⟩ := bnd H
          have H' := Aside0.mk H
          clear H
          obtain ⟨Ao41, co41, eo41⟩ := Kd.R_slice HO173.out
          subst eo41
          have p174 : 0 ≤ (0 : Int) := (by omega)
          have q174 : 0 < (t171.length : Int) := TD
          obtain ⟨ad174, e174, hx174_0⟩ := Kd.at_string (Kd.R_reads' HO173.out).2.2 0 p174 q174
          cases e174
          have qi174 : (0 < t171.length) = True := eq_true (by omega)
          (try rw [show ((0 : Int)).toNat = 0 from rfl] at hx174_0)
          (try rw [Addr.add_zero'] at hx174_0)
          replace p174 := eq_true p174
          replace q174 := eq_true q174
          go_wp2_with (first | (go_at_call 190; (with_reducible refine (spec_l1Int.calls kj15 (rdOf ByteArray.empty t171 0) t175 _ A36.out).mono ?_); rintro e w' ⟨rfl, ⟨nd, rfl⟩⟩) | (go_at_call 66; (with_reducible refine (spec_l1In.calls t175 0 65535 true _ A37.out).mono ?_); rintro e w' ⟨rfl, ⟨nd, rfl⟩⟩; have p177 : 0 ≤ (1 : Int) := (by omega); have q177 : 1 < (t171.length : Int) := TD; obtain ⟨ad177, e177, hx177_0⟩ := Kd.at_string (Kd.R_reads' HO173.out).2.2 1 p177 q177; obtain rfl : ad174 = ad177 := (by injection e177); (try simp only [show (1 : Int).toNat = 1 from rfl, Nat.reduceMul, Nat.reduceEqDiff, Go.Addr.add, ↓reduceIte] at hx177_0); have qi177 : (1 < t171.length) = True := eq_true (by omega); (try rw [show ((1 : Int)).toNat = 1 from rfl] at hx177_0); replace p177 := eq_true p177; replace q177 := eq_true q177) | (go_at_call 192; (with_reducible refine (spec_l3Target.calls kj15 (rdOf ByteArray.empty t171 1) t178 _ A40.out).mono ?_); rintro e w42 ⟨rfl, hb⟩; replace HO173 := RB HO173 hb; replace HB := BS hb; (try clear hb); (try clear hb2); (try clear hk); (try clear hi)))
          go_meet
          case rel => exact ⟨_, (!t178), TF, H', ⟨by have := HJ15.out; first | omega | exact Nat.le_refl _⟩, RW HO173, ⟨TB⟩⟩
         ·replace c38 := Bool.eq_false_iff.mpr c38
          subst c38
          replace H := iff' H
          have H' := Aside0.mk H
          clear H
          obtain ⟨Ao43, co43, eo43⟩ := Kd.R_slice HO173.out
          subst eo43
          have p174 : 0 ≤ (0 : Int) := (by omega)
          have q174 : 0 < (t171.length : Int) := TD
          obtain ⟨ad174, e174, hx174_0⟩ := Kd.at_string (Kd.R_reads' HO173.out).2.2 0 p174 q174
          cases e174
          have qi174 : (0 < t171.length) = True := eq_true (by omega)
          (try rw [show ((0 : Int)).toNat = 0 from rfl] at hx174_0)
          (try rw [Addr.add_zero'] at hx174_0)
          replace p174 := eq_true p174
          replace q174 := eq_true q174
          go_wp2_with (first | (go_at_call 190; (with_reducible refine (spec_l1Int.calls kj15 (rdOf ByteArray.empty t171 0) t175 _ A36.out).mono ?_); rintro e w' ⟨rfl, ⟨nd, rfl⟩⟩) | (go_at_call 66; (with_reducible refine (spec_l1In.calls t175 0 65535 false _ A37.out).mono ?_); rintro e w' ⟨rfl, ⟨nd, rfl⟩⟩))
          go_meet
          case rel => exact ⟨_, (true), TF, H', ⟨by have := HJ15.out; first | omega | exact Nat.le_refl _⟩, RW HO173, ⟨TB⟩⟩
        ·rw [if_neg c34] at H
         have c34b0 : ((t171.length : Int) == 2) = false := beq_eq_false_iff_ne.mpr c34
         have c34b1 : ((t171.length : Int) != 2) = true := bne_iff_ne.mpr c34
         (first | rw [c34b0] | (simp only [i64_w, i32_w]; rw [c34b0]) | rw [c34b1] | skip)
         have H' := Aside0.mk H
         clear H
         obtain ⟨Ao44, co44, eo44⟩ := Kd.R_slice HO173.out
         subst eo44
         go_wp2
         go_meet
         case rel => exact ⟨_, (true), TF, H', ⟨by have := HJ15.out; first | omega | exact Nat.le_refl _⟩, RW HO173, ⟨TB⟩⟩
       case rest =>
        clear HC32
        try clear c1
        try clear p1
        try clear q1
        try clear hx1
        try clear qi1
        try clear c2
        try clear p2
        try clear c3
        try clear c3b0
        try clear c3b1
        try clear c6
        try clear p6
        try clear c7
        try clear c7b0
        try clear c8
        try clear c8b0
        try clear c9
        try clear c9b0
        try clear c12
        try clear c14
        try clear c14b0
        try clear c14b1
        try clear c14b2
        try clear c16
        try clear p16
        try clear q16
        try clear hx16
        try clear c17
        try clear c17b0
        try clear c17b1
        try clear p17
        try clear q17
        try clear hx17
        try clear qi17
        try clear c18
        try clear c19
        try clear c20
        try clear c25
        try clear c25b0
        try clear c25b1
        try clear c30
        try clear c30b0
        try clear c30b1
        try clear c34
        try clear c34b0
        try clear c34b1
        try clear c35
        try clear c35b0
        try clear c35b1
        try clear c38
        try clear c39
        try clear c39b0
        try clear c39b1
        try clear hx162_0
        try clear hx174_0
        try clear hx177_0
        try clear p1
        try clear p16
        try clear p162
        try clear p174
        try clear p177
        try clear p2
        try clear p6
        try clear q1
        try clear q16
        try clear q162
        try clear q174
        try clear q177
        obtain ⟨kq, x76_31, rfl, HA, HJ31, HO_12, HB⟩ := hcut
        cases kq with
        | zero => exact absurd HA.out (by simp [spec_l3Bytes.j2])
        | succ kj31 =>
         have H := HA.out
         clear HA
         simp only [spec_l3Bytes.j2] at H
         by_cases c45 : x76_31 = true
         ·subst c45
          replace H := ift H
          simp only [Option.some.injEq, Prod.mk.injEq] at H
          obtain ⟨rfl, rfl⟩ := H
          go_wp2
          go_ret2
          exact ⟨TE, TB⟩
         ·replace c45 := Bool.eq_false_iff.mpr c45
          subst c45
          replace H := iff' H
          obtain ⟨c46, H⟩ := ifn H
          have c46b0 : decide (0 < (t171.length : Int)) = true := decide_eq_true c46
          have c46b1 : decide (0 < t171.length) = true := decide_eq_true (by omega)
          clear c46
          obtain ⟨t180, A47, H⟩ := bnd H
          obtain ⟨t181, A48, H⟩ := bnd H
          obtain ⟨c49, H⟩ := ifn H
          have c49b0 : decide (1 < (t171.length : Int)) = true := decide_eq_true c49
          have c49b1 : decide (1 < t171.length) = true := decide_eq_true (by omega)
          clear c49
          obtain ⟨t183, A50, H⟩ := bnd H
          obtain ⟨c51, H⟩ := ifn H
          have c51b0 := eq_true c51
          have c51b1 : decide (t181.size + t183.size ≤ 9223372036854775807) = true := decide_eq_true c51
          try have c51b2 : (9223372036854775807 < t181.size + t183.size) = False := eq_false (Nat.not_lt.2 c51)
          simp only [Option.some.injEq, Prod.mk.injEq] at H
          obtain ⟨rfl, rfl⟩ := H
          try go_wp2
          replace HO_12 := Aside0.mk (Kd.R_drew HO_12.out)
          replace HB := Aside0.mk (below_drew1 HB.out)
          obtain ⟨Ao53, co53, eo53⟩ := Kd.R_slice HO_12.out
          (first | subst eo53 | (injection eo53 with f1_ f2_ f3_; have f4_ := f1_.symm; have f5_ := f3_.symm; clear f1_ f2_ f3_; subst f4_; subst f5_))
          have p179 : 0 ≤ (0 : Int) := (by omega)
          have q179 : 0 < (t171.length : Int) := TD
          obtain ⟨ad179, e179, hx179_0⟩ := Kd.at_string (Kd.R_reads' HO_12.out).2.2 0 p179 q179
          cases e179
          have qi179 : (0 < t171.length) = True := eq_true (by omega)
          (try rw [show ((0 : Int)).toNat = 0 from rfl] at hx179_0)
          (try rw [Addr.add_zero'] at hx179_0)
          replace p179 := eq_true p179
          replace q179 := eq_true q179
          have p182 : 0 ≤ (1 : Int) := (by omega)
          have q182 : 1 < (t171.length : Int) := TD
          obtain ⟨ad182, e182, hx182_0⟩ := Kd.at_string (Kd.R_reads' HO_12.out).2.2 1 p182 q182
          obtain rfl : ad179 = ad182 := (by injection e182)
          (try simp only [show (1 : Int).toNat = 1 from rfl, Nat.reduceMul, Nat.reduceEqDiff, Go.Addr.add, ↓reduceIte] at hx182_0)
          have qi182 : (1 < t171.length) = True := eq_true (by omega)
          (try rw [show ((1 : Int)).toNat = 1 from rfl] at hx182_0)
          replace p182 := eq_true p182
          replace q182 := eq_true q182
          refine start_ (n := 12) (S := fun w' => w'.cell? ad179 = some (.string (rdOf ByteArray.empty t171 0)) ∧ w'.cell? ⟨ad179.block, ad179.off + 1, none⟩ = some (.string (rdOf ByteArray.empty t171 1))) (ds := []) #[false, false, false, false, false, false, false, false, false, false, false, false] KR rfl rfl ⟨hx179_0, hx182_0⟩ (fun hHeld => ?_); refine with_tabW spec_l3Bytes.tab26 spec_l3Bytes.bits26 (fun HT_ HW_ => ?_)
          generalize wc.drew = w52 at HO_12 HB hx179_0 hx182_0 hHeld ⊢
          refine pA 0 77 (mL 12 1) HT_ rfl rfl ?_
          refine pA 1 78 (mL 12 3) HT_ rfl rfl ?_
          refine pA 5 82 (mL 12 35) HT_ rfl rfl ?_
          refine pA 6 83 (mL 12 99) HT_ rfl rfl ?_
          refine tA 2 79 (mL 12 103) HT_ HW_ hHeld rfl rfl (by rintro w' ⟨s0, s1⟩; go_simp; with_reducible rfl) ?_
          refine tA 7 84 (mL 12 231) HT_ HW_ hHeld rfl rfl (by rintro w' ⟨s0, s1⟩; go_simp; with_reducible rfl) ?_
          refine one_ (i := 3) (N := some 80) (mL 12 239) rfl rfl (one_of HT_.out KR) (by decide) (fun K hK => ?_)
          refine goes_ Tryz.func190 KR rfl #[.string (rdOf ByteArray.empty t171 0)] (by rfl) rfl rfl TA ?_
          with_reducible refine (spec_l1Int.calls kj31 (rdOf ByteArray.empty t171 0) t180 _ A47.out).mono ?_
          rintro e w' ⟨rfl, ⟨nd, rfl⟩⟩
          refine ⟨_, rfl, ?_⟩
          refine hK.out _ _ ⟨hHeld.1, hHeld.2⟩ (fun hHeld => ?_)
          clear hK K
          refine nA ?_
          refine one_ (i := 4) (N := some 81) (mL 12 255) rfl rfl (one_of HT_.out KR) (by decide) (fun K hK => ?_)
          refine goes_ Tryz.func191 KR rfl #[.int .i64 t180, .int .i64 2] (by rfl) rfl rfl TA ?_
          with_reducible refine (spec_l3Number.calls kj31 t180 2 t181 _ A48.out).mono ?_
          rintro e w54 ⟨rfl, hb⟩
          have HS0_ := (hb.cell (World.block_lt_of_cell? _ _ (hHeld.1))).trans (hHeld.1)
          have HS1_ := (hb.cell (World.block_lt_of_cell? _ _ (hHeld.2))).trans (hHeld.2)
          refine ⟨_, rfl, ?_⟩
          replace HO_12 := RB HO_12 hb
          replace HB := BS hb
          (try clear hb)
          (try clear hb2)
          (try clear hk)
          (try clear hi)
          refine hK.out _ _ ⟨HS0_, HS1_⟩ (fun hHeld => ?_)
          clear hK K
          refine nA ?_
          refine one_ (i := 8) (N := some 85) (mL 12 511) rfl rfl (one_of HT_.out KR) (by decide) (fun K hK => ?_)
          refine goes_ Tryz.func193 KR rfl #[.string (rdOf ByteArray.empty t171 1)] (by rfl) rfl rfl TA ?_
          with_reducible refine (spec_l2Bytes.calls kj31 (rdOf ByteArray.empty t171 1) t183 _ A50.out).mono ?_
          rintro e w55 ⟨rfl, hb⟩
          have HS0_ := (hb.cell (World.block_lt_of_cell? _ _ (hHeld.1))).trans (hHeld.1)
          have HS1_ := (hb.cell (World.block_lt_of_cell? _ _ (hHeld.2))).trans (hHeld.2)
          refine ⟨_, rfl, ?_⟩
          replace HO_12 := RB HO_12 hb
          replace HB := BS hb
          (try clear hb)
          (try clear hb2)
          (try clear hk)
          (try clear hi)
          refine hK.out _ _ ⟨HS0_, HS1_⟩ (fun hHeld => ?_)
          clear hK K
          refine nA ?_
          refine pA 9 86 (mL 12 1023) HT_ rfl rfl ?_
          refine pA 10 4 (mL 12 2047) HT_ rfl rfl ?_
          refine pA 11 5 (mL 12 4095) HT_ rfl rfl ?_
          refine done_ (done_of HT_.out KR) ?_
          try go_wp2
          go_ret2
          exact ⟨TE, TB⟩
      ·rw [if_neg c30] at H
       have c30b0 : (a0 == 15) = false := beq_eq_false_iff_ne.mpr c30
       have c30b1 : (a0 != 15) = true := bne_iff_ne.mpr c30
       by_cases c56 : a0 = 16
       ·rw [if_pos c56] at H
        have c56b0 : (a0 == 16) = true := beq_iff_eq.mpr c56
        have c56b1 : (a0 != 16) = false := bne_eq_false_iff_eq.mpr c56
        clear c56
        have H' := Aside0.mk H
        clear H
        go_wp2
        go_loopg [13] kj15 (fun kq v13 w' => ∃ (x13_2 : Int), v13 = .int .i64 x13_2 ∧ Aside0 (spec_l3Bytes.l1 kq a1 x13_2 = some (r1, r2)) ∧ Aside0 (kq ≤ kj15) ∧ Aside0 (Below w.heap.size w w'))
        case atStart => exact ⟨(0), TF, H', ⟨Nat.le_refl _⟩, ⟨TB⟩⟩
        case round =>
         clear H'
         try clear c1
         try clear p1
         try clear q1
         try clear hx1
         try clear qi1
         try clear c2
         try clear p2
         try clear c3
         try clear c3b0
         try clear c3b1
         try clear c4
         try clear c5
         try clear c6
         try clear p6
         try clear c7
         try clear c7b0
         try clear c8
         try clear c8b0
         try clear c9
         try clear c9b0
         try clear c12
         try clear c14
         try clear c14b0
         try clear c14b1
         try clear c14b2
         try clear c16
         try clear p16
         try clear q16
         try clear hx16
         try clear c17
         try clear c17b0
         try clear c17b1
         try clear p17
         try clear q17
         try clear hx17
         try clear qi17
         try clear c18
         try clear p18
         try clear q18
         try clear hx18
         try clear qi18
         try clear c19
         try clear c20
         try clear c25
         try clear c25b0
         try clear c25b1
         try clear c30
         try clear c30b0
         try clear c30b1
         try clear c34
         try clear c34b0
         try clear c34b1
         try clear c35
         try clear c35b0
         try clear c35b1
         try clear c38
         try clear c39
         try clear c39b0
         try clear c39b1
         try clear c45
         try clear c46
         try clear c46b0
         try clear c46b1
         try clear c49
         try clear c49b0
         try clear c49b1
         try clear c51
         try clear c51b0
         try clear c51b1
         try clear c51b2
         try clear c56
         try clear c56b0
         try clear c56b1
         try clear hx162_0
         try clear hx174_0
         try clear hx177_0
         try clear hx179_0
         try clear hx182_0
         try clear p1
         try clear p16
         try clear p162
         try clear p17
         try clear p174
         try clear p177
         try clear p179
         try clear p182
         try clear p2
         try clear p6
         try clear q1
         try clear q16
         try clear q162
         try clear q17
         try clear q174
         try clear q177
         try clear q179
         try clear q182
         obtain ⟨x13_2, rfl, HA, HK2, HB⟩ := hrel
         cases gk with
         | zero => exact absurd HA.out (by simp [spec_l3Bytes.l1])
         | succ k2 =>
          have H := HA.out
          clear HA
          simp only [spec_l3Bytes.l1] at H
          by_cases c57 : x13_2 < (a1.size : Int)
          ·rw [if_pos c57] at H
           have c57b0 : decide (x13_2 < (a1.size : Int)) = true := decide_eq_true c57
           clear c57
           obtain ⟨c58, H⟩ := ifn H
           have c58b0 : decide (0 ≤ x13_2) = true := decide_eq_true c58
           clear c58
           by_cases c60 : (bt a1 x13_2) < 32
           ·rw [if_pos c60] at H
            have c60b0 : decide ((bt a1 x13_2) < 32) = true := decide_eq_true c60
            clear c60
            simp only [Option.some.injEq, Prod.mk.injEq] at H
            obtain ⟨rfl, rfl⟩ := H
            have p59 : 0 ≤ (x13_2 : Int) := TD
            have q59 : x13_2 < (a1.size : Int) := TD
            have hx59 := bt_at a1 x13_2
            replace p59 := eq_true p59
            replace q59 := eq_true q59
            go_wp2
            go_ret2
            exact ⟨TE, TB⟩
           ·rw [if_neg c60] at H
            have c60b0 : decide ((bt a1 x13_2) < 32) = false := decide_eq_false c60
            clear c60
            by_cases c62 : (bt a1 x13_2) > 126
            ·rw [if_pos c62] at H
             have c62b0 : decide (126 < (bt a1 x13_2)) = true := decide_eq_true c62
             clear c62
             simp only [Option.some.injEq, Prod.mk.injEq] at H
             obtain ⟨rfl, rfl⟩ := H
             have p59 : 0 ≤ (x13_2 : Int) := TD
             have q59 : x13_2 < (a1.size : Int) := TD
             have hx59 := bt_at a1 x13_2
             replace p59 := eq_true p59
             replace q59 := eq_true q59
             have p61 : 0 ≤ (x13_2 : Int) := TD
             have q61 : x13_2 < (a1.size : Int) := TD
             have hx61 := bt_at a1 x13_2
             replace p61 := eq_true p61
             replace q61 := eq_true q61
             go_wp2
             go_ret2
             exact ⟨TE, TB⟩
            ·rw [if_neg c62] at H
             have c62b0 : decide (126 < (bt a1 x13_2)) = false := decide_eq_false c62
             clear c62
             have H' := Aside0.mk H
             clear H
             have p59 : 0 ≤ (x13_2 : Int) := TD
             have q59 : x13_2 < (a1.size : Int) := TD
             have hx59 := bt_at a1 x13_2
             replace p59 := eq_true p59
             replace q59 := eq_true q59
             have p61 : 0 ≤ (x13_2 : Int) := TD
             have q61 : x13_2 < (a1.size : Int) := TD
             have hx61 := bt_at a1 x13_2
             replace p61 := eq_true p61
             replace q61 := eq_true q61
             go_wp2
             go_roundg k2
             case measure => have := HJ15.out; have := HK2.out; omega
             case rel => exact ⟨(wrap64 (x13_2 + 1)), TF, H', ⟨by have := HJ15.out; have := HK2.out; omega⟩, ⟨TB⟩⟩
          ·rw [if_neg c57] at H
           have c57b0 : decide (x13_2 < (a1.size : Int)) = false := decide_eq_false c57
           clear c57
           obtain ⟨y184, hy184⟩ : ∃ y_ : List Int, y_ = (([((a1.size : Int)) % 256] : List Int)) := ⟨_, rfl⟩
           replace H : (if (strOfNums y184).size + a1.size ≤ 9223372036854775807 then (some ((strOfNums y184) ++ a1, decide ((a1.size : Int) ≤ 30))) else (none)) = some (r1, r2) := by first | (rw [hy184]; with_reducible exact H) | (have H2_ := (Option.bind_some _ _).symm.trans H; rw [hy184]; with_reducible exact H2_) | (have H2_ := (Option.bind_some _ _).symm.trans H; with_reducible exact H2_) | with_reducible exact H | (rw [hy184]; exact H) | exact H
           have Ny184 := Aside0.mk hy184
           clear hy184
           obtain ⟨c63, H⟩ := ifn H
           have c63b0 := eq_true c63
           have c63b1 : decide ((strOfNums y184).size + a1.size ≤ 9223372036854775807) = true := decide_eq_true c63
           try have c63b2 : (9223372036854775807 < (strOfNums y184).size + a1.size) = False := eq_false (Nat.not_lt.2 c63)
           simp only [Option.some.injEq, Prod.mk.injEq] at H
           obtain ⟨rfl, rfl⟩ := H
           go_wp2_with (first | ((with_reducible refine gate_dst (N := 108) rfl ?_); refine Kd.R_lit (Kd.int .u8) _ 5 ?hg (N := 108) ?hd (xs := ([((a1.size : Int)) % 256] : List Int)) (inner := [.int .u8 (((a1.size : Int)) % 256)]) (ok := fun _ => True) (okp := fun _ => True) ?hr ?hp (fun _ hk => hk) trivial (Below.refl _ _) (Nat.le_refl _) (by simp) ?_; (case hd => rfl); (case hg => rfl); (case hr => first | (go_simp; done) | (go_simp; rfl)); (case hp => exact (Reps.one (show Kd.M (Kd.int .u8) _ _ _ (((a1.size : Int)) % 256) [.int .u8 (((a1.size : Int)) % 256)] from rfl) (Reps.none _ _))); intro v185 w64 ho65 hb hg_ hnew_; clear hg_ hnew_; (first | rw [← Ny184.out] at ho65 | (simp only [Int.reduceToNat] at ho65; rw [← Ny184.out] at ho65)); have HO186 := RL ho65; replace HB := BS hb; clear hb ho65; have hcv66 := own_string (P := Tryz.prog) Tryz.underlying141 Tryz.underlying5 Tryz.underlying9 (Kd.own_of_R HO186.out)))
           go_ret2
           exact ⟨TE, TB⟩
       ·rw [if_neg c56] at H
        have c56b0 : (a0 == 16) = false := beq_eq_false_iff_ne.mpr c56
        have c56b1 : (a0 != 16) = true := bne_iff_ne.mpr c56
        simp only [Option.some.injEq, Prod.mk.injEq] at H
        obtain ⟨rfl, rfl⟩ := H
        go_wp2
        go_ret2
        exact ⟨TE, TB⟩
end
section
/-! ### spec_GoodRecord: function 125 -/
def spec_GoodRecord.f (k : Nat) (a0_0 : ByteArray) (a0_1 : Int) (a0_2 : Int) (a0_3 : ByteArray) : Option (Bool) := (spec_l3Bytes.f k a0_1 a0_3).bind fun bt192 => (if bt192.2 = true then ((spec_GoodName.f k a0_0).bind fun t194 => (if t194 = true then ((spec_l1In.f a0_2 0 100000).bind fun t195 => (some t195)) else (some false))) else (some false))
theorem spec_GoodRecord.calls (k : Nat) (a0_0 : ByteArray) (a0_1 : Int) (a0_2 : Int) (a0_3 : ByteArray) (r : Bool) (w : World) (h : spec_GoodRecord.f k a0_0 a0_1 a0_2 a0_3 = some r) :
  Calls Tryz.prog 125 #[.agg #[.string a0_0, .int .i64 a0_1, .int .i64 a0_2, .string a0_3]] w fun e w' => e = .returned (.bool r) ∧ Below w.heap.size w w' := by
 have hu100 := Tryz.underlying100
 have HB := Aside0.mk (Below.refl w.heap.size w)
 have H : ((spec_l3Bytes.f k a0_1 a0_3).bind fun bt192 => (if bt192.2 = true then ((spec_GoodName.f k a0_0).bind fun t194 => (if t194 = true then ((spec_l1In.f a0_2 0 100000).bind fun t195 => (some t195)) else (some false))) else (some false))) = some r := h
 clear h
 obtain ⟨⟨t192, t193⟩, A2, H⟩ := bnd H
 try dsimp only at H
 by_cases c3 : t193 = true
 ·subst c3
  replace H := ift H
  obtain ⟨t194, A4, H⟩ := bnd H
  by_cases c5 : t194 = true
  ·subst c5
   replace H := ift H
   obtain ⟨t195, A6, H⟩ := bnd H
   obtain rfl := Option.some.inj H
   go_enter Tryz.func125, Tryz.ntmps125
   go_wp2_with (first | ((with_reducible refine gate_dst (N := 1) rfl ?_); refine bE 1 #[.string a0_0, .int .i64 a0_1, .int .i64 a0_2, .string a0_3] 100 ?_; intro gb191 hg w7 hbox hb; have BK191 := Aside0.mk (hbox); have GE191 := bG hg; replace HB := BS hb; clear hb hbox hg; have hcz8 := cz4 BK191) | ((with_reducible refine gate_callee (f := 162) rfl ?_); refine goesL_ (some 10) rfl rfl Tryz.func162 KR rfl #[.int .i64 a0_1, .string a0_3] rfl TA ?_; (with_reducible refine (spec_l3Bytes.calls k a0_1 a0_3 t192 true _ A2.out).mono ?_); rintro e w9 ⟨rfl, hb⟩; refine ⟨_, rfl, ?_⟩; replace BK191 := KB BK191 hb; replace HB := BS hb; (try clear hb); (try clear hb2); (try clear hk); (try clear hi); have hcz10 := cz4 BK191) | (go_at_call 58; (with_reducible refine (spec_GoodName.calls k a0_0 true _ A4.out).mono ?_); rintro e w11 ⟨rfl, hb⟩; replace BK191 := KB BK191 hb; replace HB := BS hb; (try clear hb); (try clear hb2); (try clear hk); (try clear hi); have hcz12 := cz4 BK191) | (go_at_call 66; (with_reducible refine (spec_l1In.calls a0_2 0 100000 t195 _ A6.out).mono ?_); rintro e w' ⟨rfl, ⟨nd, rfl⟩⟩))
   go_ret
   exact ⟨TE, TB⟩
  ·replace c5 := Bool.eq_false_iff.mpr c5
   subst c5
   replace H := iff' H
   obtain rfl := Option.some.inj H
   go_enter Tryz.func125, Tryz.ntmps125
   go_wp2_with (first | ((with_reducible refine gate_dst (N := 1) rfl ?_); refine bE 1 #[.string a0_0, .int .i64 a0_1, .int .i64 a0_2, .string a0_3] 100 ?_; intro gb191 hg w13 hbox hb; have BK191 := Aside0.mk (hbox); have GE191 := bG hg; replace HB := BS hb; clear hb hbox hg; have hcz14 := cz4 BK191) | ((with_reducible refine gate_callee (f := 162) rfl ?_); refine goesL_ (some 10) rfl rfl Tryz.func162 KR rfl #[.int .i64 a0_1, .string a0_3] rfl TA ?_; (with_reducible refine (spec_l3Bytes.calls k a0_1 a0_3 t192 true _ A2.out).mono ?_); rintro e w15 ⟨rfl, hb⟩; refine ⟨_, rfl, ?_⟩; replace BK191 := KB BK191 hb; replace HB := BS hb; (try clear hb); (try clear hb2); (try clear hk); (try clear hi); have hcz16 := cz4 BK191) | (go_at_call 58; (with_reducible refine (spec_GoodName.calls k a0_0 false _ A4.out).mono ?_); rintro e w17 ⟨rfl, hb⟩; replace BK191 := KB BK191 hb; replace HB := BS hb; (try clear hb); (try clear hb2); (try clear hk); (try clear hi)))
   go_ret
   exact ⟨TE, TB⟩
 ·replace c3 := Bool.eq_false_iff.mpr c3
  subst c3
  replace H := iff' H
  obtain rfl := Option.some.inj H
  go_enter Tryz.func125, Tryz.ntmps125
  go_wp2_with (first | ((with_reducible refine gate_dst (N := 1) rfl ?_); refine bE 1 #[.string a0_0, .int .i64 a0_1, .int .i64 a0_2, .string a0_3] 100 ?_; intro gb191 hg w18 hbox hb; have BK191 := Aside0.mk (hbox); have GE191 := bG hg; replace HB := BS hb; clear hb hbox hg; have hcz19 := cz4 BK191) | ((with_reducible refine gate_callee (f := 162) rfl ?_); refine goesL_ (some 10) rfl rfl Tryz.func162 KR rfl #[.int .i64 a0_1, .string a0_3] rfl TA ?_; (with_reducible refine (spec_l3Bytes.calls k a0_1 a0_3 t192 false _ A2.out).mono ?_); rintro e w20 ⟨rfl, hb⟩; refine ⟨_, rfl, ?_⟩; replace BK191 := KB BK191 hb; replace HB := BS hb; (try clear hb); (try clear hb2); (try clear hk); (try clear hi)))
  go_ret
  exact ⟨TE, TB⟩
end
section
/-! ### spec_l1Compare: function 67 -/
mutual
def spec_l1Compare.l0 : Nat → List ByteArray → List ByteArray → Int → Option (Int)
 | 0, _, _, _ => none
 | k + 1, x5, x7, x9 => if x9 ≤ (x5.length : Int) then (spec_l1Compare.j1 k x5 x7 x9 (decide (x9 ≤ (x7.length : Int)))) else (spec_l1Compare.j1 k x5 x7 x9 false)
def spec_l1Compare.j1 : Nat → List ByteArray → List ByteArray → Int → Bool → Option (Int)
 | 0, _, _, _, _ => none
 | k + 1, x5, x7, x9, x31 => if x31 = true then (if 0 ≤ (wrap64 ((x5.length : Int) - x9)) then (if (wrap64 ((x5.length : Int) - x9)) < (x5.length : Int) then (if 0 ≤ (wrap64 ((x7.length : Int) - x9)) then (if (wrap64 ((x7.length : Int) - x9)) < (x7.length : Int) then (if (Op.bytesLess ((rdOf ByteArray.empty x5 (wrap64 ((x5.length : Int) - x9))).toList) ((rdOf ByteArray.empty x7 (wrap64 ((x7.length : Int) - x9))).toList)) = true then (some (-1)) else (if (rdOf ByteArray.empty x5 (wrap64 ((x5.length : Int) - x9))).toList = (rdOf ByteArray.empty x7 (wrap64 ((x7.length : Int) - x9))).toList then (spec_l1Compare.l0 k x5 x7 (wrap64 (x9 + 1))) else (some 1))) else (none)) else (none)) else (none)) else (none)) else (if (x5.length : Int) < (x7.length : Int) then (some (-1)) else (if (x5.length : Int) > (x7.length : Int) then (some 1) else (some 0)))
end
def spec_l1Compare.f (k : Nat) (a0 : ByteArray) (a1 : ByteArray) : Option (Int) := (spec_l1Labels.f k a0).bind fun bt196 => ((spec_l1Labels.f k a1).bind fun bt200 => (spec_l1Compare.l0 k bt196.1 bt200.1 1))
theorem spec_l1Compare.calls (k : Nat) (a0 : ByteArray) (a1 : ByteArray) (r : Int) (w : World) (h : spec_l1Compare.f k a0 a1 = some r) :
  Calls Tryz.prog 67 #[.string a0, .string a1] w fun e w' => e = .returned (.int .i64 r) ∧ Below w.heap.size w w' := by
 have HB := Aside0.mk (Below.refl w.heap.size w)
 have H : ((spec_l1Labels.f k a0).bind fun bt196 => ((spec_l1Labels.f k a1).bind fun bt200 => (spec_l1Compare.l0 k bt196.1 bt200.1 1))) = some r := h
 clear h
 obtain ⟨⟨t196, t197⟩, A3, H⟩ := bnd H
 try dsimp only at H
 obtain ⟨⟨t200, t201⟩, A4, H⟩ := bnd H
 try dsimp only at H
 have H' := Aside0.mk H
 clear H
 go_enter Tryz.func67, Tryz.ntmps67
 go_wp2_with (first | ((with_reducible refine gate_callee (f := 108) rfl ?_); refine goesL_ (some 14) rfl rfl Tryz.func108 KR rfl #[.string a0] rfl TA ?_; (with_reducible refine (spec_l1Labels.calls k a0 t196 t197 _ A3.out).mono ?_); rintro e w5 ⟨v198, rfl, ho0, hb⟩; refine ⟨_, rfl, ?_⟩; have HO199 := RL ho0; replace HB := BS hb; (try clear hb); (try clear hb2); (try clear hk); (try clear hi); (try clear ho0)) | ((with_reducible refine gate_callee (f := 108) rfl ?_); refine goesL_ (some 19) rfl rfl Tryz.func108 KR rfl #[.string a1] rfl TA ?_; (with_reducible refine (spec_l1Labels.calls k a1 t200 t201 _ A4.out).mono ?_); rintro e w6 ⟨v202, rfl, ho0, hb⟩; refine ⟨_, rfl, ?_⟩; have HO203 := Aside0.mk (Kd.R_lower (Kd.R_new' ho0 (Kd.R_lt (RW HO199).out)) (below_size TB)); replace HO199 := Aside0.mk (Kd.R_elder' (RW HO199).out (Kd.R_base ho0) hb); replace HB := BS hb; (try clear hb); (try clear hb2); (try clear hk); (try clear hi); (try clear ho0)))
 go_loopg [9] k (fun kq v9 w' => ∃ (x9_1 : Int), v9 = .int .i64 x9_1 ∧ Aside0 (spec_l1Compare.l0 kq t196 t200 x9_1 = some r) ∧ Aside0 (kq ≤ k) ∧ Aside0 (Kd.R Kd.string 9 w' w.heap.size (fun k_ => some k_ ≠ (v202 : Value).ownBlock) v198 t196) ∧ Aside0 (Kd.R Kd.string 9 w' w.heap.size (fun k_ => some k_ ≠ (v198 : Value).ownBlock) v202 t200) ∧ Aside0 (Below w.heap.size w w'))
 case atStart => exact ⟨(1), TF, H', ⟨Nat.le_refl _⟩, ⟨by (with_reducible repeat (first | apply Kd.R_alloc | apply Kd.R_drewN | apply Kd.R_drew)); exact Kd.R_mono HO199.out (fun _ hk => hk.2)⟩, ⟨by (with_reducible repeat (first | apply Kd.R_alloc | apply Kd.R_drewN | apply Kd.R_drew)); exact Kd.R_mono HO203.out (fun _ hk => hk.2)⟩, ⟨TB⟩⟩
 case round =>
  clear H'
  try clear c1
  try clear p2
  try clear c6
  obtain ⟨x9_1, rfl, HA, HK1, HO_5, HO_7, HB⟩ := hrel
  cases gk with
  | zero => exact absurd HA.out (by simp [spec_l1Compare.l0])
  | succ k1 =>
   have H := HA.out
   clear HA
   simp only [spec_l1Compare.l0] at H
   have HC7 := Aside0.mk H
   clear H
   go_upto_region 4 with (fail)
   go_cut [31] (fun v31 wc => ∃ (kq : Nat) (x31_6 : Bool), v31 = .bool x31_6 ∧ Aside0 (spec_l1Compare.j1 kq t196 t200 x9_1 x31_6 = some r) ∧ Aside0 (kq ≤ k1) ∧ Aside0 (Kd.R Kd.string 9 wc w.heap.size (fun k_ => some k_ ≠ (v202 : Value).ownBlock) v198 t196) ∧ Aside0 (Kd.R Kd.string 9 wc w.heap.size (fun k_ => some k_ ≠ (v198 : Value).ownBlock) v202 t200) ∧ Aside0 (Below w.heap.size w wc))
   case first =>
    have H := HC7.out
    clear HC7
    by_cases c8 : x9_1 ≤ (t196.length : Int)
    ·rw [if_pos c8] at H
     have c8b0 : decide (x9_1 ≤ (t196.length : Int)) = true := decide_eq_true c8
     clear c8
     (first | rw [c8b0] | (simp only [i64_w, i32_w]; rw [c8b0]) | skip)
     have H' := Aside0.mk H
     clear H
     obtain ⟨Ao9, co9, eo9⟩ := Kd.R_slice HO_5.out
     subst eo9
     obtain ⟨Ao10, co10, eo10⟩ := Kd.R_slice HO_7.out
     subst eo10
     go_wp2
     go_meet
     case rel => exact ⟨_, (decide (x9_1 ≤ (t200.length : Int))), TF, H', ⟨by have := HK1.out; first | omega | exact Nat.le_refl _⟩, RW HO_5, RW HO_7, ⟨TB⟩⟩
    ·rw [if_neg c8] at H
     have c8b0 : decide (x9_1 ≤ (t196.length : Int)) = false := decide_eq_false c8
     clear c8
     (first | rw [c8b0] | (simp only [i64_w, i32_w]; rw [c8b0]) | skip)
     have H' := Aside0.mk H
     clear H
     obtain ⟨Ao11, co11, eo11⟩ := Kd.R_slice HO_5.out
     subst eo11
     go_wp2
     go_meet
     case rel => exact ⟨_, (false), TF, H', ⟨by have := HK1.out; first | omega | exact Nat.le_refl _⟩, RW HO_5, RW HO_7, ⟨TB⟩⟩
   case rest =>
    clear HC7
    try clear c1
    try clear p2
    try clear c6
    try clear c8
    try clear c8b0
    try clear c10
    try clear p2
    obtain ⟨kq, x31_6, rfl, HA, HJ6, HO_5, HO_7, HB⟩ := hcut
    cases kq with
    | zero => exact absurd HA.out (by simp [spec_l1Compare.j1])
    | succ kj6 =>
     have H := HA.out
     clear HA
     simp only [spec_l1Compare.j1] at H
     by_cases c12 : x31_6 = true
     ·subst c12
      replace H := ift H
      obtain ⟨ji13, hji13⟩ : ∃ j_ : Int, (wrap64 ((t196.length : Int) - x9_1)) = j_ := ⟨_, rfl⟩
      replace H : (if 0 ≤ (ji13) then (if (ji13) < (t196.length : Int) then (if 0 ≤ (wrap64 ((t200.length : Int) - x9_1)) then (if (wrap64 ((t200.length : Int) - x9_1)) < (t200.length : Int) then (if (Op.bytesLess ((rdOf ByteArray.empty t196 (ji13)).toList) ((rdOf ByteArray.empty t200 (wrap64 ((t200.length : Int) - x9_1))).toList)) = true then (some (-1)) else (if (rdOf ByteArray.empty t196 (ji13)).toList = (rdOf ByteArray.empty t200 (wrap64 ((t200.length : Int) - x9_1))).toList then (spec_l1Compare.l0 kj6 t196 t200 (wrap64 (x9_1 + 1))) else (some 1))) else (none)) else (none)) else (none)) else (none)) = some r := by first | (rw [hji13] at H; exact H) | (simp only [hji13] at H ⊢; exact H)
      have hji13w : (IntKind.i64.wrap ((t196.length : Int) - x9_1)) = ji13 := (i64_w _).trans hji13
      obtain ⟨c14, H⟩ := ifn H
      have c14b0 : decide (0 ≤ (ji13)) = true := decide_eq_true c14
      clear c14
      obtain ⟨c15, H⟩ := ifn H
      have c15b0 : decide ((ji13) < (t196.length : Int)) = true := decide_eq_true c15
      clear c15
      obtain ⟨ji16, hji16⟩ : ∃ j_ : Int, (wrap64 ((t200.length : Int) - x9_1)) = j_ := ⟨_, rfl⟩
      replace H : (if 0 ≤ (ji16) then (if (ji16) < (t200.length : Int) then (if (Op.bytesLess ((rdOf ByteArray.empty t196 (ji13)).toList) ((rdOf ByteArray.empty t200 (ji16)).toList)) = true then (some (-1)) else (if (rdOf ByteArray.empty t196 (ji13)).toList = (rdOf ByteArray.empty t200 (ji16)).toList then (spec_l1Compare.l0 kj6 t196 t200 (wrap64 (x9_1 + 1))) else (some 1))) else (none)) else (none)) = some r := by first | (rw [hji16] at H; exact H) | (simp only [hji16] at H ⊢; exact H)
      have hji16w : (IntKind.i64.wrap ((t200.length : Int) - x9_1)) = ji16 := (i64_w _).trans hji16
      obtain ⟨c17, H⟩ := ifn H
      have c17b0 : decide (0 ≤ (ji16)) = true := decide_eq_true c17
      clear c17
      obtain ⟨c18, H⟩ := ifn H
      have c18b0 : decide ((ji16) < (t200.length : Int)) = true := decide_eq_true c18
      clear c18
      by_cases c19 : (Op.bytesLess ((rdOf ByteArray.empty t196 (ji13)).toList) ((rdOf ByteArray.empty t200 (ji16)).toList)) = true
      ·rw [if_pos c19] at H
       have c19b0 : (Op.bytesLess ((rdOf ByteArray.empty t196 (ji13)).toList) ((rdOf ByteArray.empty t200 (ji16)).toList)) = true := c19
       clear c19
       obtain rfl := Option.some.inj H
       obtain ⟨Ao20, co20, eo20⟩ := Kd.R_slice HO_5.out
       subst eo20
       have p204 : 0 ≤ ((ji13) : Int) := TD
       have q204 : (ji13) < (t196.length : Int) := TD
       obtain ⟨ad204, e204, hx204_0⟩ := Kd.at_string (Kd.R_reads' HO_5.out).2.2 (ji13) p204 q204
       cases e204
       replace p204 := eq_true p204
       replace q204 := eq_true q204
       obtain ⟨Ao21, co21, eo21⟩ := Kd.R_slice HO_7.out
       subst eo21
       have p205 : 0 ≤ ((ji16) : Int) := TD
       have q205 : (ji16) < (t200.length : Int) := TD
       obtain ⟨ad205, e205, hx205_0⟩ := Kd.at_string (Kd.R_reads' HO_7.out).2.2 (ji16) p205 q205
       cases e205
       replace p205 := eq_true p205
       replace q205 := eq_true q205
       go_wp2
       go_ret
       exact ⟨by first | rfl | (simp [errW_none, errW_some] <;> rfl) | (simp only [← hji13, ← hji16]; first | rfl | (simp [errW_none, errW_some] <;> rfl)) | (simp [*, errW_none, errW_some] <;> rfl), TB⟩
      ·rw [if_neg c19] at H
       have c19b0 : (Op.bytesLess ((rdOf ByteArray.empty t196 (ji13)).toList) ((rdOf ByteArray.empty t200 (ji16)).toList)) = false := by simpa using c19
       clear c19
       by_cases c22 : (rdOf ByteArray.empty t196 (ji13)).toList = (rdOf ByteArray.empty t200 (ji16)).toList
       ·rw [if_pos c22] at H
        have c22b0 : ((rdOf ByteArray.empty t196 (ji13)).toList == (rdOf ByteArray.empty t200 (ji16)).toList) = true := beq_iff_eq.mpr c22
        have c22b1 : ((rdOf ByteArray.empty t196 (ji13)).toList != (rdOf ByteArray.empty t200 (ji16)).toList) = false := bne_eq_false_iff_eq.mpr c22
        clear c22
        have H' := Aside0.mk H
        clear H
        obtain ⟨Ao23, co23, eo23⟩ := Kd.R_slice HO_5.out
        subst eo23
        have p204 : 0 ≤ ((ji13) : Int) := TD
        have q204 : (ji13) < (t196.length : Int) := TD
        obtain ⟨ad204, e204, hx204_0⟩ := Kd.at_string (Kd.R_reads' HO_5.out).2.2 (ji13) p204 q204
        cases e204
        replace p204 := eq_true p204
        replace q204 := eq_true q204
        obtain ⟨Ao24, co24, eo24⟩ := Kd.R_slice HO_7.out
        subst eo24
        have p205 : 0 ≤ ((ji16) : Int) := TD
        have q205 : (ji16) < (t200.length : Int) := TD
        obtain ⟨ad205, e205, hx205_0⟩ := Kd.at_string (Kd.R_reads' HO_7.out).2.2 (ji16) p205 q205
        cases e205
        replace p205 := eq_true p205
        replace q205 := eq_true q205
        go_wp2
        go_roundg kj6
        case measure => have := HK1.out; have := HJ6.out; omega
        case rel => exact ⟨(wrap64 (x9_1 + 1)), TF, H', ⟨by have := HK1.out; have := HJ6.out; omega⟩, RW HO_5, RW HO_7, ⟨TB⟩⟩
       ·rw [if_neg c22] at H
        have c22b0 : ((rdOf ByteArray.empty t196 (ji13)).toList == (rdOf ByteArray.empty t200 (ji16)).toList) = false := beq_eq_false_iff_ne.mpr c22
        have c22b1 : ((rdOf ByteArray.empty t196 (ji13)).toList != (rdOf ByteArray.empty t200 (ji16)).toList) = true := bne_iff_ne.mpr c22
        obtain rfl := Option.some.inj H
        obtain ⟨Ao25, co25, eo25⟩ := Kd.R_slice HO_5.out
        subst eo25
        have p204 : 0 ≤ ((ji13) : Int) := TD
        have q204 : (ji13) < (t196.length : Int) := TD
        obtain ⟨ad204, e204, hx204_0⟩ := Kd.at_string (Kd.R_reads' HO_5.out).2.2 (ji13) p204 q204
        cases e204
        replace p204 := eq_true p204
        replace q204 := eq_true q204
        obtain ⟨Ao26, co26, eo26⟩ := Kd.R_slice HO_7.out
        subst eo26
        have p205 : 0 ≤ ((ji16) : Int) := TD
        have q205 : (ji16) < (t200.length : Int) := TD
        obtain ⟨ad205, e205, hx205_0⟩ := Kd.at_string (Kd.R_reads' HO_7.out).2.2 (ji16) p205 q205
        cases e205
        replace p205 := eq_true p205
        replace q205 := eq_true q205
        go_wp2
        go_ret
        exact ⟨by first | rfl | (simp [errW_none, errW_some] <;> rfl) | (simp only [← hji13, ← hji16]; first | rfl | (simp [errW_none, errW_some] <;> rfl)) | (simp [*, errW_none, errW_some] <;> rfl), TB⟩
     ·replace c12 := Bool.eq_false_iff.mpr c12
      subst c12
      replace H := iff' H
      by_cases c27 : (t196.length : Int) < (t200.length : Int)
      ·rw [if_pos c27] at H
       have c27b0 : decide ((t196.length : Int) < (t200.length : Int)) = true := decide_eq_true c27
       have c27b1 : decide (t196.length < t200.length) = true := decide_eq_true (Int.ofNat_lt.mp c27)
       clear c27
       obtain rfl := Option.some.inj H
       obtain ⟨Ao28, co28, eo28⟩ := Kd.R_slice HO_5.out
       subst eo28
       obtain ⟨Ao29, co29, eo29⟩ := Kd.R_slice HO_7.out
       subst eo29
       go_wp2
       go_ret
       exact ⟨TE, TB⟩
      ·rw [if_neg c27] at H
       have c27b0 : decide ((t196.length : Int) < (t200.length : Int)) = false := decide_eq_false c27
       have c27b1 : decide (t196.length < t200.length) = false := decide_eq_false (fun h => c27 (Int.ofNat_lt.mpr h))
       clear c27
       by_cases c30 : (t196.length : Int) > (t200.length : Int)
       ·rw [if_pos c30] at H
        have c30b0 : decide ((t200.length : Int) < (t196.length : Int)) = true := decide_eq_true c30
        have c30b1 : decide (t200.length < t196.length) = true := decide_eq_true (Int.ofNat_lt.mp c30)
        clear c30
        obtain rfl := Option.some.inj H
        obtain ⟨Ao31, co31, eo31⟩ := Kd.R_slice HO_5.out
        subst eo31
        obtain ⟨Ao32, co32, eo32⟩ := Kd.R_slice HO_7.out
        subst eo32
        go_wp2
        go_ret
        exact ⟨TE, TB⟩
       ·rw [if_neg c30] at H
        have c30b0 : decide ((t200.length : Int) < (t196.length : Int)) = false := decide_eq_false c30
        have c30b1 : decide (t200.length < t196.length) = false := decide_eq_false (fun h => c30 (Int.ofNat_lt.mpr h))
        clear c30
        obtain rfl := Option.some.inj H
        obtain ⟨Ao33, co33, eo33⟩ := Kd.R_slice HO_5.out
        subst eo33
        obtain ⟨Ao34, co34, eo34⟩ := Kd.R_slice HO_7.out
        subst eo34
        go_wp2
        go_ret
        exact ⟨TE, TB⟩
end
section
/-! ### spec_l3Less: function 198 -/
def spec_l3Less.f (a0 : Bool) : Option (Int) := if a0 = true then (some (-1)) else (some 1)
theorem spec_l3Less.calls (a0 : Bool) (r : Int) (w : World) (h : spec_l3Less.f a0 = some r) :
  Calls Tryz.prog 198 #[.bool a0] w fun e w' => e = .returned (.int .i64 r) ∧ Drawn0 w w' := by
 have H : (if a0 = true then (some (-1)) else (some 1)) = some r := h
 clear h
 by_cases c2 : a0 = true
 ·subst c2
  replace H := ift H
  obtain rfl := Option.some.inj H
  go_enter Tryz.func198, Tryz.ntmps198
  go_wp2
  go_ret
  exact ⟨TF, TN⟩
 ·replace c2 := Bool.eq_false_iff.mpr c2
  subst c2
  replace H := iff' H
  obtain rfl := Option.some.inj H
  go_enter Tryz.func198, Tryz.ntmps198
  go_wp2
  go_ret
  exact ⟨TF, TN⟩
end
section
/-! ### spec_l3Compare: function 174 -/
def spec_l3Compare.f (k : Nat) (a0_0 : ByteArray) (a0_1 : Int) (a0_2 : Int) (a0_3 : ByteArray) (a1_0 : ByteArray) (a1_1 : Int) (a1_2 : Int) (a1_3 : ByteArray) : Option (Int) := (spec_l1Compare.f k a0_0 a1_0).bind fun t208 => (if t208 = 0 then ((spec_l3Bytes.f k a0_1 a0_3).bind fun bt209 => ((spec_l3Bytes.f k a1_1 a1_3).bind fun bt211 => (if a0_1 = a1_1 then (if bt209.1.toList = bt211.1.toList then (if a0_2 = a1_2 then (some 0) else ((spec_l3Less.f (decide (a0_2 < a1_2))).bind fun t213 => (some t213))) else ((spec_l3Less.f (Op.bytesLess bt209.1.toList bt211.1.toList)).bind fun t214 => (some t214))) else ((spec_l3Less.f (decide (a0_1 < a1_1))).bind fun t215 => (some t215))))) else (some t208))
theorem spec_l3Compare.calls (k : Nat) (a0_0 : ByteArray) (a0_1 : Int) (a0_2 : Int) (a0_3 : ByteArray) (a1_0 : ByteArray) (a1_1 : Int) (a1_2 : Int) (a1_3 : ByteArray) (r : Int) (w : World) (h : spec_l3Compare.f k a0_0 a0_1 a0_2 a0_3 a1_0 a1_1 a1_2 a1_3 = some r) :
  Calls Tryz.prog 174 #[.agg #[.string a0_0, .int .i64 a0_1, .int .i64 a0_2, .string a0_3], .agg #[.string a1_0, .int .i64 a1_1, .int .i64 a1_2, .string a1_3]] w fun e w' => e = .returned (.int .i64 r) ∧ Below w.heap.size w w' := by
 have hu100 := Tryz.underlying100
 have HB := Aside0.mk (Below.refl w.heap.size w)
 have H : ((spec_l1Compare.f k a0_0 a1_0).bind fun t208 => (if t208 = 0 then ((spec_l3Bytes.f k a0_1 a0_3).bind fun bt209 => ((spec_l3Bytes.f k a1_1 a1_3).bind fun bt211 => (if a0_1 = a1_1 then (if bt209.1.toList = bt211.1.toList then (if a0_2 = a1_2 then (some 0) else ((spec_l3Less.f (decide (a0_2 < a1_2))).bind fun t213 => (some t213))) else ((spec_l3Less.f (Op.bytesLess bt209.1.toList bt211.1.toList)).bind fun t214 => (some t214))) else ((spec_l3Less.f (decide (a0_1 < a1_1))).bind fun t215 => (some t215))))) else (some t208))) = some r := h
 clear h
 obtain ⟨t208, A3, H⟩ := bnd H
 by_cases c4 : t208 = 0
 ·rw [if_pos c4] at H
  have c4b0 : (t208 == 0) = true := beq_iff_eq.mpr c4
  have c4b1 : (t208 != 0) = false := bne_eq_false_iff_eq.mpr c4
  clear c4
  obtain ⟨⟨t209, t210⟩, A5, H⟩ := bnd H
  try dsimp only at H
  obtain ⟨⟨t211, t212⟩, A6, H⟩ := bnd H
  try dsimp only at H
  by_cases c7 : a0_1 = a1_1
  ·rw [if_pos c7] at H
   have c7b0 : (a0_1 == a1_1) = true := beq_iff_eq.mpr c7
   have c7b1 : (a0_1 != a1_1) = false := bne_eq_false_iff_eq.mpr c7
   clear c7
   by_cases c8 : t209.toList = t211.toList
   ·rw [if_pos c8] at H
    have c8b0 : (t209.toList == t211.toList) = true := beq_iff_eq.mpr c8
    have c8b1 : (t209.toList != t211.toList) = false := bne_eq_false_iff_eq.mpr c8
    clear c8
    by_cases c9 : a0_2 = a1_2
    ·rw [if_pos c9] at H
     have c9b0 : (a0_2 == a1_2) = true := beq_iff_eq.mpr c9
     have c9b1 : (a0_2 != a1_2) = false := bne_eq_false_iff_eq.mpr c9
     clear c9
     obtain rfl := Option.some.inj H
     go_enter Tryz.func174, Tryz.ntmps174
     go_wp2_with (first | ((with_reducible refine gate_dst (N := 2) rfl ?_); refine bE 2 #[.string a0_0, .int .i64 a0_1, .int .i64 a0_2, .string a0_3] 100 ?_; intro gb206 hg w10 hbox hb; have BK206 := Aside0.mk (hbox); have GE206 := bG hg; replace HB := BS hb; clear hb hbox hg) | ((with_reducible refine gate_dst (N := 3) rfl ?_); refine bE 3 #[.string a1_0, .int .i64 a1_1, .int .i64 a1_2, .string a1_3] 100 ?_; intro gb207 hg w11 hbox hb; have BK207 := Aside0.mk (hbox); have GE207 := bG hg; replace HB := BS hb; have NB206_207 := bN BK206 hg; have NB207_206 := bM BK206 hg; replace BK206 := KB BK206 hb; clear hb hbox hg; have hnb12 := NB206_207.out; have hnc12 := NB207_206.out; have hcz13 := cz4 BK206; have hcz14 := cz4 BK207) | ((with_reducible refine gate_callee (f := 67) rfl ?_); refine goesL_ (some 14) rfl rfl Tryz.func67 KR rfl #[.string a0_0, .string a1_0] rfl TA ?_; (with_reducible refine (spec_l1Compare.calls k a0_0 a1_0 t208 _ A3.out).mono ?_); rintro e w15 ⟨rfl, hb⟩; refine ⟨_, rfl, ?_⟩; replace BK206 := KB BK206 hb; replace BK207 := KB BK207 hb; replace HB := BS hb; (try clear hb); (try clear hb2); (try clear hk); (try clear hi); have hcz16 := cz4 BK206) | ((with_reducible refine gate_callee (f := 162) rfl ?_); refine goesL_ (some 23) rfl rfl Tryz.func162 KR rfl #[.int .i64 a0_1, .string a0_3] rfl TA ?_; (with_reducible refine (spec_l3Bytes.calls k a0_1 a0_3 t209 t210 _ A5.out).mono ?_); rintro e w17 ⟨rfl, hb⟩; refine ⟨_, rfl, ?_⟩; replace BK206 := KB BK206 hb; replace BK207 := KB BK207 hb; replace HB := BS hb; (try clear hb); (try clear hb2); (try clear hk); (try clear hi); have hcz18 := cz4 BK207) | ((with_reducible refine gate_callee (f := 162) rfl ?_); refine goesL_ (some 31) rfl rfl Tryz.func162 KR rfl #[.int .i64 a1_1, .string a1_3] rfl TA ?_; (with_reducible refine (spec_l3Bytes.calls k a1_1 a1_3 t211 t212 _ A6.out).mono ?_); rintro e w19 ⟨rfl, hb⟩; refine ⟨_, rfl, ?_⟩; replace BK206 := KB BK206 hb; replace BK207 := KB BK207 hb; replace HB := BS hb; (try clear hb); (try clear hb2); (try clear hk); (try clear hi); have hcz20 := cz4 BK206; have hcz21 := cz4 BK207))
     go_ret
     exact ⟨TE, TB⟩
    ·rw [if_neg c9] at H
     have c9b0 : (a0_2 == a1_2) = false := beq_eq_false_iff_ne.mpr c9
     have c9b1 : (a0_2 != a1_2) = true := bne_iff_ne.mpr c9
     obtain ⟨t213, A22, H⟩ := bnd H
     obtain rfl := Option.some.inj H
     go_enter Tryz.func174, Tryz.ntmps174
     go_wp2_with (first | ((with_reducible refine gate_dst (N := 2) rfl ?_); refine bE 2 #[.string a0_0, .int .i64 a0_1, .int .i64 a0_2, .string a0_3] 100 ?_; intro gb206 hg w23 hbox hb; have BK206 := Aside0.mk (hbox); have GE206 := bG hg; replace HB := BS hb; clear hb hbox hg) | ((with_reducible refine gate_dst (N := 3) rfl ?_); refine bE 3 #[.string a1_0, .int .i64 a1_1, .int .i64 a1_2, .string a1_3] 100 ?_; intro gb207 hg w24 hbox hb; have BK207 := Aside0.mk (hbox); have GE207 := bG hg; replace HB := BS hb; have NB206_207 := bN BK206 hg; have NB207_206 := bM BK206 hg; replace BK206 := KB BK206 hb; clear hb hbox hg; have hnb25 := NB206_207.out; have hnc25 := NB207_206.out; have hcz26 := cz4 BK206; have hcz27 := cz4 BK207) | ((with_reducible refine gate_callee (f := 67) rfl ?_); refine goesL_ (some 14) rfl rfl Tryz.func67 KR rfl #[.string a0_0, .string a1_0] rfl TA ?_; (with_reducible refine (spec_l1Compare.calls k a0_0 a1_0 t208 _ A3.out).mono ?_); rintro e w28 ⟨rfl, hb⟩; refine ⟨_, rfl, ?_⟩; replace BK206 := KB BK206 hb; replace BK207 := KB BK207 hb; replace HB := BS hb; (try clear hb); (try clear hb2); (try clear hk); (try clear hi); have hcz29 := cz4 BK206) | ((with_reducible refine gate_callee (f := 162) rfl ?_); refine goesL_ (some 23) rfl rfl Tryz.func162 KR rfl #[.int .i64 a0_1, .string a0_3] rfl TA ?_; (with_reducible refine (spec_l3Bytes.calls k a0_1 a0_3 t209 t210 _ A5.out).mono ?_); rintro e w30 ⟨rfl, hb⟩; refine ⟨_, rfl, ?_⟩; replace BK206 := KB BK206 hb; replace BK207 := KB BK207 hb; replace HB := BS hb; (try clear hb); (try clear hb2); (try clear hk); (try clear hi); have hcz31 := cz4 BK207) | ((with_reducible refine gate_callee (f := 162) rfl ?_); refine goesL_ (some 31) rfl rfl Tryz.func162 KR rfl #[.int .i64 a1_1, .string a1_3] rfl TA ?_; (with_reducible refine (spec_l3Bytes.calls k a1_1 a1_3 t211 t212 _ A6.out).mono ?_); rintro e w32 ⟨rfl, hb⟩; refine ⟨_, rfl, ?_⟩; replace BK206 := KB BK206 hb; replace BK207 := KB BK207 hb; replace HB := BS hb; (try clear hb); (try clear hb2); (try clear hk); (try clear hi); have hcz33 := cz4 BK206; have hcz34 := cz4 BK207) | ((with_reducible refine gate_callee (f := 198) rfl ?_); refine goesL_ (some 65) rfl rfl Tryz.func198 KR rfl #[.bool (decide (a0_2 < a1_2))] rfl TA ?_; (with_reducible refine (spec_l3Less.calls (decide (a0_2 < a1_2)) t213 _ A22.out).mono ?_); rintro e w' ⟨rfl, ⟨nd, rfl⟩⟩; refine ⟨_, rfl, ?_⟩))
     go_ret
     exact ⟨TE, TB⟩
   ·rw [if_neg c8] at H
    have c8b0 : (t209.toList == t211.toList) = false := beq_eq_false_iff_ne.mpr c8
    have c8b1 : (t209.toList != t211.toList) = true := bne_iff_ne.mpr c8
    obtain ⟨t214, A35, H⟩ := bnd H
    obtain rfl := Option.some.inj H
    go_enter Tryz.func174, Tryz.ntmps174
    go_wp2_with (first | ((with_reducible refine gate_dst (N := 2) rfl ?_); refine bE 2 #[.string a0_0, .int .i64 a0_1, .int .i64 a0_2, .string a0_3] 100 ?_; intro gb206 hg w36 hbox hb; have BK206 := Aside0.mk (hbox); have GE206 := bG hg; replace HB := BS hb; clear hb hbox hg) | ((with_reducible refine gate_dst (N := 3) rfl ?_); refine bE 3 #[.string a1_0, .int .i64 a1_1, .int .i64 a1_2, .string a1_3] 100 ?_; intro gb207 hg w37 hbox hb; have BK207 := Aside0.mk (hbox); have GE207 := bG hg; replace HB := BS hb; have NB206_207 := bN BK206 hg; have NB207_206 := bM BK206 hg; replace BK206 := KB BK206 hb; clear hb hbox hg; have hnb38 := NB206_207.out; have hnc38 := NB207_206.out; have hcz39 := cz4 BK206; have hcz40 := cz4 BK207) | ((with_reducible refine gate_callee (f := 67) rfl ?_); refine goesL_ (some 14) rfl rfl Tryz.func67 KR rfl #[.string a0_0, .string a1_0] rfl TA ?_; (with_reducible refine (spec_l1Compare.calls k a0_0 a1_0 t208 _ A3.out).mono ?_); rintro e w41 ⟨rfl, hb⟩; refine ⟨_, rfl, ?_⟩; replace BK206 := KB BK206 hb; replace BK207 := KB BK207 hb; replace HB := BS hb; (try clear hb); (try clear hb2); (try clear hk); (try clear hi); have hcz42 := cz4 BK206) | ((with_reducible refine gate_callee (f := 162) rfl ?_); refine goesL_ (some 23) rfl rfl Tryz.func162 KR rfl #[.int .i64 a0_1, .string a0_3] rfl TA ?_; (with_reducible refine (spec_l3Bytes.calls k a0_1 a0_3 t209 t210 _ A5.out).mono ?_); rintro e w43 ⟨rfl, hb⟩; refine ⟨_, rfl, ?_⟩; replace BK206 := KB BK206 hb; replace BK207 := KB BK207 hb; replace HB := BS hb; (try clear hb); (try clear hb2); (try clear hk); (try clear hi); have hcz44 := cz4 BK207) | ((with_reducible refine gate_callee (f := 162) rfl ?_); refine goesL_ (some 31) rfl rfl Tryz.func162 KR rfl #[.int .i64 a1_1, .string a1_3] rfl TA ?_; (with_reducible refine (spec_l3Bytes.calls k a1_1 a1_3 t211 t212 _ A6.out).mono ?_); rintro e w45 ⟨rfl, hb⟩; refine ⟨_, rfl, ?_⟩; replace BK206 := KB BK206 hb; replace BK207 := KB BK207 hb; replace HB := BS hb; (try clear hb); (try clear hb2); (try clear hk); (try clear hi); have hcz46 := cz4 BK206; have hcz47 := cz4 BK207) | ((with_reducible refine gate_callee (f := 198) rfl ?_); refine goesL_ (some 53) rfl rfl Tryz.func198 KR rfl #[.bool (Op.bytesLess t209.toList t211.toList)] rfl TA ?_; (with_reducible refine (spec_l3Less.calls (Op.bytesLess t209.toList t211.toList) t214 _ A35.out).mono ?_); rintro e w' ⟨rfl, ⟨nd, rfl⟩⟩; refine ⟨_, rfl, ?_⟩))
    go_ret
    exact ⟨TE, TB⟩
  ·rw [if_neg c7] at H
   have c7b0 : (a0_1 == a1_1) = false := beq_eq_false_iff_ne.mpr c7
   have c7b1 : (a0_1 != a1_1) = true := bne_iff_ne.mpr c7
   obtain ⟨t215, A48, H⟩ := bnd H
   obtain rfl := Option.some.inj H
   go_enter Tryz.func174, Tryz.ntmps174
   go_wp2_with (first | ((with_reducible refine gate_dst (N := 2) rfl ?_); refine bE 2 #[.string a0_0, .int .i64 a0_1, .int .i64 a0_2, .string a0_3] 100 ?_; intro gb206 hg w49 hbox hb; have BK206 := Aside0.mk (hbox); have GE206 := bG hg; replace HB := BS hb; clear hb hbox hg) | ((with_reducible refine gate_dst (N := 3) rfl ?_); refine bE 3 #[.string a1_0, .int .i64 a1_1, .int .i64 a1_2, .string a1_3] 100 ?_; intro gb207 hg w50 hbox hb; have BK207 := Aside0.mk (hbox); have GE207 := bG hg; replace HB := BS hb; have NB206_207 := bN BK206 hg; have NB207_206 := bM BK206 hg; replace BK206 := KB BK206 hb; clear hb hbox hg; have hnb51 := NB206_207.out; have hnc51 := NB207_206.out; have hcz52 := cz4 BK206; have hcz53 := cz4 BK207) | ((with_reducible refine gate_callee (f := 67) rfl ?_); refine goesL_ (some 14) rfl rfl Tryz.func67 KR rfl #[.string a0_0, .string a1_0] rfl TA ?_; (with_reducible refine (spec_l1Compare.calls k a0_0 a1_0 t208 _ A3.out).mono ?_); rintro e w54 ⟨rfl, hb⟩; refine ⟨_, rfl, ?_⟩; replace BK206 := KB BK206 hb; replace BK207 := KB BK207 hb; replace HB := BS hb; (try clear hb); (try clear hb2); (try clear hk); (try clear hi); have hcz55 := cz4 BK206) | ((with_reducible refine gate_callee (f := 162) rfl ?_); refine goesL_ (some 23) rfl rfl Tryz.func162 KR rfl #[.int .i64 a0_1, .string a0_3] rfl TA ?_; (with_reducible refine (spec_l3Bytes.calls k a0_1 a0_3 t209 t210 _ A5.out).mono ?_); rintro e w56 ⟨rfl, hb⟩; refine ⟨_, rfl, ?_⟩; replace BK206 := KB BK206 hb; replace BK207 := KB BK207 hb; replace HB := BS hb; (try clear hb); (try clear hb2); (try clear hk); (try clear hi); have hcz57 := cz4 BK207) | ((with_reducible refine gate_callee (f := 162) rfl ?_); refine goesL_ (some 31) rfl rfl Tryz.func162 KR rfl #[.int .i64 a1_1, .string a1_3] rfl TA ?_; (with_reducible refine (spec_l3Bytes.calls k a1_1 a1_3 t211 t212 _ A6.out).mono ?_); rintro e w58 ⟨rfl, hb⟩; refine ⟨_, rfl, ?_⟩; replace BK206 := KB BK206 hb; replace BK207 := KB BK207 hb; replace HB := BS hb; (try clear hb); (try clear hb2); (try clear hk); (try clear hi); have hcz59 := cz4 BK206; have hcz60 := cz4 BK207) | ((with_reducible refine gate_callee (f := 198) rfl ?_); refine goesL_ (some 45) rfl rfl Tryz.func198 KR rfl #[.bool (decide (a0_1 < a1_1))] rfl TA ?_; (with_reducible refine (spec_l3Less.calls (decide (a0_1 < a1_1)) t215 _ A48.out).mono ?_); rintro e w' ⟨rfl, ⟨nd, rfl⟩⟩; refine ⟨_, rfl, ?_⟩))
   go_ret
   exact ⟨TE, TB⟩
 ·rw [if_neg c4] at H
  have c4b0 : (t208 == 0) = false := beq_eq_false_iff_ne.mpr c4
  have c4b1 : (t208 != 0) = true := bne_iff_ne.mpr c4
  obtain rfl := Option.some.inj H
  go_enter Tryz.func174, Tryz.ntmps174
  go_wp2_with (first | ((with_reducible refine gate_dst (N := 2) rfl ?_); refine bE 2 #[.string a0_0, .int .i64 a0_1, .int .i64 a0_2, .string a0_3] 100 ?_; intro gb206 hg w61 hbox hb; have BK206 := Aside0.mk (hbox); have GE206 := bG hg; replace HB := BS hb; clear hb hbox hg) | ((with_reducible refine gate_dst (N := 3) rfl ?_); refine bE 3 #[.string a1_0, .int .i64 a1_1, .int .i64 a1_2, .string a1_3] 100 ?_; intro gb207 hg w62 hbox hb; have BK207 := Aside0.mk (hbox); have GE207 := bG hg; replace HB := BS hb; have NB206_207 := bN BK206 hg; have NB207_206 := bM BK206 hg; replace BK206 := KB BK206 hb; clear hb hbox hg; have hnb63 := NB206_207.out; have hnc63 := NB207_206.out; have hcz64 := cz4 BK206; have hcz65 := cz4 BK207) | ((with_reducible refine gate_callee (f := 67) rfl ?_); refine goesL_ (some 14) rfl rfl Tryz.func67 KR rfl #[.string a0_0, .string a1_0] rfl TA ?_; (with_reducible refine (spec_l1Compare.calls k a0_0 a1_0 t208 _ A3.out).mono ?_); rintro e w66 ⟨rfl, hb⟩; refine ⟨_, rfl, ?_⟩; replace BK206 := KB BK206 hb; replace BK207 := KB BK207 hb; replace HB := BS hb; (try clear hb); (try clear hb2); (try clear hk); (try clear hi)))
  go_ret
  exact ⟨TE, TB⟩
end
section
/-! ### spec_l6List: function 146 -/
def spec_l6List.l0 : Nat → List (S_Record) → List (S_Record) → Int → Int → Option (Bool)
 | 0, _, _, _, _ => none
 | k + 1, x0, x5, x6, x7 => if x7 < x6 then (if 0 ≤ x7 then (if x7 < (x5.length : Int) then ((spec_GoodRecord.f k ((rd_TRecord x5 x7).f0) ((rd_TRecord x5 x7).f1) ((rd_TRecord x5 x7).f2) ((rd_TRecord x5 x7).f3)).bind fun t218 => (if t218 = true then (if x7 > 0 then (if 0 ≤ (wrap64 (x7 - 1)) then (if (wrap64 (x7 - 1)) < (x0.length : Int) then ((spec_l3Compare.f k ((rd_TRecord x0 (wrap64 (x7 - 1))).f0) ((rd_TRecord x0 (wrap64 (x7 - 1))).f1) ((rd_TRecord x0 (wrap64 (x7 - 1))).f2) ((rd_TRecord x0 (wrap64 (x7 - 1))).f3) ((rd_TRecord x5 x7).f0) ((rd_TRecord x5 x7).f1) ((rd_TRecord x5 x7).f2) ((rd_TRecord x5 x7).f3)).bind fun t220 => (if t220 ≥ 0 then (some false) else (spec_l6List.l0 k x0 x5 x6 (wrap64 (x7 + 1))))) else (none)) else (none)) else (spec_l6List.l0 k x0 x5 x6 (wrap64 (x7 + 1)))) else (some false))) else (none)) else (none)) else (some (decide ((x0.length : Int) ≤ 40)))
def spec_l6List.f (k : Nat) (l0 : List (S_Record)) : Option (Bool) := spec_l6List.l0 k l0 l0 (l0.length : Int) 0
def spec_l6List.T4 : Bool × List (List Nat × List Nat) := (true, [([], []), ([0], [0]), ([1], [1]), ([2, 1], [2]), ([3], [3]), ([4, 3], [3, 4]), ([5, 3, 3], [3, 5]), ([6], [6]), ([6], [6]), ([8, 6], [6, 8]), ([7, 9, 6], [6, 7, 9]), ([10, 6], [6, 10]), ([6], [6]), ([11, 12, 6, 6], [6, 11, 12]), ([13, 6], [6, 13]), ([6, 14, 3], [3, 6, 14]), ([3, 15], [3, 15])])
def spec_l6List.B4 : List Nat := [0, 1, 3, 7, 15, 31, 63, 127, 127, 383, 1023, 2047, 127, 8191, 16383, 32767, 65535]
theorem spec_l6List.tab4 : rtab .any (opsOf Tryz.f146 4) = spec_l6List.T4 := by kernel_rfl
theorem spec_l6List.bits4 : waitsOk spec_l6List.T4.2 spec_l6List.B4 = true := by kernel_rfl
theorem spec_l6List.calls (k : Nat) (A0 : Option Addr) (c0 : Nat) (l0 : List (S_Record)) (r : Bool) (w : World) (hr0 : Kd.C k_Record w A0 l0.length l0) (hc0 : l0.length ≤ c0) (h : spec_l6List.f k l0 = some r) :
  Calls Tryz.prog 146 #[.slice A0 l0.length c0] w fun e w' => e = .returned (.bool r) ∧ Below w.heap.size w w' := by
 have hu100 := Tryz.underlying100
 have HR0 := Aside0.mk hr0
 have HC0 := Aside0.mk hc0
 clear hr0 hc0
 have HB := Aside0.mk (Below.refl w.heap.size w)
 have H : (spec_l6List.l0 k l0 l0 (l0.length : Int) 0) = some r := h
 clear h
 have H' := Aside0.mk H
 clear H
 go_enter Tryz.func146, Tryz.ntmps146
 go_wp2
 go_loopg [7] k (fun kq v7 w' => ∃ (x7_1 : Int), v7 = .int .i64 x7_1 ∧ Aside0 (spec_l6List.l0 kq l0 l0 (l0.length : Int) x7_1 = some r) ∧ Aside0 (kq ≤ k) ∧ Aside0 (Below w.heap.size w w'))
 case atStart => exact ⟨(0), TF, H', ⟨Nat.le_refl _⟩, ⟨TB⟩⟩
 case round =>
  clear H'
  try clear c1
  obtain ⟨x7_1, rfl, HA, HK1, HB⟩ := hrel
  cases gk with
  | zero => exact absurd HA.out (by simp [spec_l6List.l0])
  | succ k1 =>
   have H := HA.out
   clear HA
   simp only [spec_l6List.l0] at H
   by_cases c2 : x7_1 < (l0.length : Int)
   ·rw [if_pos c2] at H
    have c2b0 : decide (x7_1 < (l0.length : Int)) = true := decide_eq_true c2
    clear c2
    obtain ⟨c3, H⟩ := ifn H
    have c3b0 : decide (0 ≤ x7_1) = true := decide_eq_true c3
    clear c3
    obtain ⟨c4, H⟩ := ifn H
    have c4b0 : decide (x7_1 < (l0.length : Int)) = true := decide_eq_true c4
    clear c4
    obtain ⟨t218, A5, H⟩ := bnd H
    by_cases c6 : t218 = true
    ·subst c6
     replace H := ift H
     by_cases c7 : x7_1 > 0
     ·rw [if_pos c7] at H
      have c7b0 : decide (0 < x7_1) = true := decide_eq_true c7
      clear c7
      obtain ⟨ji8, hji8⟩ : ∃ j_ : Int, (wrap64 (x7_1 - 1)) = j_ := ⟨_, rfl⟩
      replace H : (if 0 ≤ (ji8) then (if (ji8) < (l0.length : Int) then ((spec_l3Compare.f k1 ((rd_TRecord l0 (ji8)).f0) ((rd_TRecord l0 (ji8)).f1) ((rd_TRecord l0 (ji8)).f2) ((rd_TRecord l0 (ji8)).f3) ((rd_TRecord l0 x7_1).f0) ((rd_TRecord l0 x7_1).f1) ((rd_TRecord l0 x7_1).f2) ((rd_TRecord l0 x7_1).f3)).bind fun t220 => (if t220 ≥ 0 then (some false) else (spec_l6List.l0 k1 l0 l0 (l0.length : Int) (wrap64 (x7_1 + 1))))) else (none)) else (none)) = some r := by first | (rw [hji8] at H; exact H) | (simp only [hji8] at H ⊢; exact H)
      (try rw [hji8] at A5)
      have hji8w : (IntKind.i64.wrap (x7_1 - 1)) = ji8 := (i64_w _).trans hji8
      obtain ⟨c9, H⟩ := ifn H
      have c9b0 : decide (0 ≤ (ji8)) = true := decide_eq_true c9
      clear c9
      obtain ⟨c10, H⟩ := ifn H
      have c10b0 : decide ((ji8) < (l0.length : Int)) = true := decide_eq_true c10
      clear c10
      obtain ⟨t220, A11, H⟩ := bnd H
      by_cases c12 : t220 ≥ 0
      ·rw [if_pos c12] at H
       have c12b0 : decide (0 ≤ t220) = true := decide_eq_true c12
       clear c12
       obtain rfl := Option.some.inj H
       have p216 : 0 ≤ (x7_1 : Int) := TD
       have q216 : x7_1 < (l0.length : Int) := TD
       obtain ⟨ad216, e216, hx216_0, hx216_1, hx216_2, hx216_3⟩ := at_TRecord (Kd.C_below HR0.out HB.out) x7_1 p216 q216
       cases e216
       replace p216 := eq_true p216
       replace q216 := eq_true q216
       try go_wp2_with (first | ((with_reducible refine gate_dst (N := 4) rfl ?_); refine bE 4 #[.string (⟨#[]⟩ : ByteArray), .int .i64 0, .int .i64 0, .string (⟨#[]⟩ : ByteArray)] 100 ?_; intro gb217 hg w13 hbox hb; have BK217 := Aside0.mk (hbox); have GE217 := bG hg; replace HB := BS hb; clear hb hbox hg; have hcz14 := cz4 BK217))
       have n0_ : Aside0 (((((w13.setCell ⟨gb217, 0, none⟩ (.string ((rd_TRecord l0 x7_1).f0))).setCell ⟨gb217, 1, none⟩ (.int .i64 ((rd_TRecord l0 x7_1).f1))).setCell ⟨gb217, 2, none⟩ (.int .i64 ((rd_TRecord l0 x7_1).f2))).setCell ⟨gb217, 3, none⟩ (.string ((rd_TRecord l0 x7_1).f3))).heap[gb217]? = some (.cells #[.string ((rd_TRecord l0 x7_1).f0), .int .i64 ((rd_TRecord l0 x7_1).f1), .int .i64 ((rd_TRecord l0 x7_1).f2), .string ((rd_TRecord l0 x7_1).f3)] 100 (0, 0))) := ⟨TS⟩
       have n1_ : Aside0 (Below w.heap.size w ((((w13.setCell ⟨gb217, 0, none⟩ (.string ((rd_TRecord l0 x7_1).f0))).setCell ⟨gb217, 1, none⟩ (.int .i64 ((rd_TRecord l0 x7_1).f1))).setCell ⟨gb217, 2, none⟩ (.int .i64 ((rd_TRecord l0 x7_1).f2))).setCell ⟨gb217, 3, none⟩ (.string ((rd_TRecord l0 x7_1).f3)))) := ⟨TB⟩
       (try clear BK217)
       (try clear HB)
       generalize ((((w13.setCell ⟨gb217, 0, none⟩ (.string ((rd_TRecord l0 x7_1).f0))).setCell ⟨gb217, 1, none⟩ (.int .i64 ((rd_TRecord l0 x7_1).f1))).setCell ⟨gb217, 2, none⟩ (.int .i64 ((rd_TRecord l0 x7_1).f2))).setCell ⟨gb217, 3, none⟩ (.string ((rd_TRecord l0 x7_1).f3))) = w15 at n0_ n1_ ⊢
       have BK217 := n0_
       have HB := n1_
       clear n0_ n1_
       replace BK217 := Aside0.mk (blk_drew BK217.out)
       replace HB := Aside0.mk (below_drew1 HB.out)
       have p219 : 0 ≤ ((ji8) : Int) := TD
       have q219 : (ji8) < (l0.length : Int) := TD
       obtain ⟨ad219, e219, hx219_0, hx219_1, hx219_2, hx219_3⟩ := at_TRecord HR0.out (ji8) p219 q219
       have hw219_3 := hx219_3
       have hw219_2 := hx219_2
       have hw219_1 := hx219_1
       have hw219_0 := hx219_0
       obtain rfl : ad216 = ad219 := (by injection e219)
       replace hx219_0 := hBc HB hx219_0
       replace hx219_1 := hBc HB hx219_1
       replace hx219_2 := hBc HB hx219_2
       replace hx219_3 := hBc HB hx219_3
       replace p219 := eq_true p219
       replace q219 := eq_true q219
       refine start_ (n := 17) (S := fun w' => w'.cell? ⟨gb217, 0, none⟩ = some (.string ((rd_TRecord l0 x7_1).f0)) ∧ w'.cell? ⟨gb217, 1, none⟩ = some (.int .i64 ((rd_TRecord l0 x7_1).f1)) ∧ w'.cell? ⟨gb217, 2, none⟩ = some (.int .i64 ((rd_TRecord l0 x7_1).f2)) ∧ w'.cell? ⟨gb217, 3, none⟩ = some (.string ((rd_TRecord l0 x7_1).f3)) ∧ w'.cell? (ad216.add (((ji8)).toNat * 4)) = some (.string ((rd_TRecord l0 (ji8)).f0)) ∧ w'.cell? ⟨(ad216.add (((ji8)).toNat * 4)).block, (ad216.add (((ji8)).toNat * 4)).off + 1, none⟩ = some (.int .i64 ((rd_TRecord l0 (ji8)).f1)) ∧ w'.cell? ⟨(ad216.add (((ji8)).toNat * 4)).block, (ad216.add (((ji8)).toNat * 4)).off + 2, none⟩ = some (.int .i64 ((rd_TRecord l0 (ji8)).f2)) ∧ w'.cell? ⟨(ad216.add (((ji8)).toNat * 4)).block, (ad216.add (((ji8)).toNat * 4)).off + 3, none⟩ = some (.string ((rd_TRecord l0 (ji8)).f3))) (ds := []) #[false, false, false, false, false, false, false, false, false, false, false, false, false, false, false, false, false] KR rfl rfl ⟨bc 0 BK217, bc 1 BK217, bc 2 BK217, bc 3 BK217, ((HB.out.cell (World.block_lt_of_cell? w _ hw219_0)).trans hw219_0), ((HB.out.cell (World.block_lt_of_cell? w _ hw219_1)).trans hw219_1), ((HB.out.cell (World.block_lt_of_cell? w _ hw219_2)).trans hw219_2), ((HB.out.cell (World.block_lt_of_cell? w _ hw219_3)).trans hw219_3)⟩ (fun hHeld => ?_); refine with_tabW spec_l6List.tab4 spec_l6List.bits4 (fun HT_ HW_ => ?_)
       generalize w15.drew = w16 at BK217 HB hx219_0 hx219_1 hx219_2 hx219_3 hHeld ⊢
       refine tA 0 12 (mL 17 1) HT_ HW_ hHeld rfl rfl (by rintro w' ⟨s0, s1, s2, s3, s4, s5, s6, s7⟩; go_simp; with_reducible rfl) ?_
       refine one_ (i := 1) (N := some 13) (mL 17 3) rfl rfl (one_of HT_.out KR) (by decide) (fun K hK => ?_)
       refine goes_ Tryz.func125 KR rfl #[.agg #[.string ((rd_TRecord l0 x7_1).f0), .int .i64 ((rd_TRecord l0 x7_1).f1), .int .i64 ((rd_TRecord l0 x7_1).f2), .string ((rd_TRecord l0 x7_1).f3)]] (by rfl) rfl rfl TA ?_
       with_reducible refine (spec_GoodRecord.calls k1 ((rd_TRecord l0 x7_1).f0) ((rd_TRecord l0 x7_1).f1) ((rd_TRecord l0 x7_1).f2) ((rd_TRecord l0 x7_1).f3) true _ A5.out).mono ?_
       rintro e w17 ⟨rfl, hb⟩
       refine ⟨_, rfl, ?_⟩
       replace BK217 := KB BK217 hb
       replace HB := BS hb
       (try clear hb)
       (try clear hb2)
       (try clear hk)
       (try clear hi)
       refine hK.out _ _ ⟨bc 0 BK217, bc 1 BK217, bc 2 BK217, bc 3 BK217, ((HB.out.cell (World.block_lt_of_cell? w _ hw219_0)).trans hw219_0), ((HB.out.cell (World.block_lt_of_cell? w _ hw219_1)).trans hw219_1), ((HB.out.cell (World.block_lt_of_cell? w _ hw219_2)).trans hw219_2), ((HB.out.cell (World.block_lt_of_cell? w _ hw219_3)).trans hw219_3)⟩ (fun hHeld => ?_)
       clear hK K
       refine nA ?_
       refine pA 2 14 (mL 17 7) HT_ rfl rfl ?_
       refine pA 3 15 (mL 17 15) HT_ rfl rfl ?_
       refine pA 4 16 (mL 17 31) HT_ rfl rfl ?_
       refine pA 5 17 (mL 17 63) HT_ rfl rfl ?_
       refine pA 6 18 (mL 17 127) HT_ rfl rfl ?_
       refine pA 7 19 (mL 17 255) HT_ rfl rfl ?_
       refine pA 8 20 (mL 17 511) HT_ rfl rfl ?_
       refine pA 9 21 (mL 17 1023) HT_ rfl rfl ?_
       refine pA 10 22 (mL 17 2047) HT_ rfl rfl ?_
       refine tA 11 23 (mL 17 4095) HT_ HW_ hHeld rfl rfl (by rintro w' ⟨s0, s1, s2, s3, s4, s5, s6, s7⟩; go_simp; with_reducible rfl) ?_
       refine tA 12 24 (mL 17 8191) HT_ HW_ hHeld rfl rfl (by rintro w' ⟨s0, s1, s2, s3, s4, s5, s6, s7⟩; go_simp; with_reducible rfl) ?_
       refine one_ (i := 13) (N := some 25) (mL 17 16383) rfl rfl (one_of HT_.out KR) (by decide) (fun K hK => ?_)
       refine goes_ Tryz.func174 KR rfl #[.agg #[.string ((rd_TRecord l0 (ji8)).f0), .int .i64 ((rd_TRecord l0 (ji8)).f1), .int .i64 ((rd_TRecord l0 (ji8)).f2), .string ((rd_TRecord l0 (ji8)).f3)], .agg #[.string ((rd_TRecord l0 x7_1).f0), .int .i64 ((rd_TRecord l0 x7_1).f1), .int .i64 ((rd_TRecord l0 x7_1).f2), .string ((rd_TRecord l0 x7_1).f3)]] (by rfl) rfl rfl (by (try simp only [List.map_toArray, List.map_cons, List.map_nil]); first | done | (simp only [hji8]; rfl) | rfl | (simp only [List.length_drop, List.length_take]; rfl)) ?_
       with_reducible refine (spec_l3Compare.calls k1 ((rd_TRecord l0 (ji8)).f0) ((rd_TRecord l0 (ji8)).f1) ((rd_TRecord l0 (ji8)).f2) ((rd_TRecord l0 (ji8)).f3) ((rd_TRecord l0 x7_1).f0) ((rd_TRecord l0 x7_1).f1) ((rd_TRecord l0 x7_1).f2) ((rd_TRecord l0 x7_1).f3) t220 _ A11.out).mono ?_
       rintro e w18 ⟨rfl, hb⟩
       refine ⟨_, rfl, ?_⟩
       replace BK217 := KB BK217 hb
       replace HB := BS hb
       (try clear hb)
       (try clear hb2)
       (try clear hk)
       (try clear hi)
       refine hK.out _ _ ⟨bc 0 BK217, bc 1 BK217, bc 2 BK217, bc 3 BK217, ((HB.out.cell (World.block_lt_of_cell? w _ hw219_0)).trans hw219_0), ((HB.out.cell (World.block_lt_of_cell? w _ hw219_1)).trans hw219_1), ((HB.out.cell (World.block_lt_of_cell? w _ hw219_2)).trans hw219_2), ((HB.out.cell (World.block_lt_of_cell? w _ hw219_3)).trans hw219_3)⟩ (fun hHeld => ?_)
       clear hK K
       refine nA ?_
       refine pA 14 26 (mL 17 32767) HT_ rfl rfl ?_
       refine pA 15 27 (mL 17 65535) HT_ rfl rfl ?_
       refine pA 16 28 (mL 17 131071) HT_ rfl rfl ?_
       refine done_ (done_of HT_.out KR) ?_
       try go_wp2
       go_ret
       exact ⟨by first | rfl | (simp [errW_none, errW_some] <;> rfl) | (simp only [← hji8]; first | rfl | (simp [errW_none, errW_some] <;> rfl)) | (simp [*, errW_none, errW_some] <;> rfl), TB⟩
      ·rw [if_neg c12] at H
       have c12b0 : decide (0 ≤ t220) = false := decide_eq_false c12
       clear c12
       have H' := Aside0.mk H
       clear H
       have p216 : 0 ≤ (x7_1 : Int) := TD
       have q216 : x7_1 < (l0.length : Int) := TD
       obtain ⟨ad216, e216, hx216_0, hx216_1, hx216_2, hx216_3⟩ := at_TRecord (Kd.C_below HR0.out HB.out) x7_1 p216 q216
       cases e216
       replace p216 := eq_true p216
       replace q216 := eq_true q216
       try go_wp2_with (first | ((with_reducible refine gate_dst (N := 4) rfl ?_); refine bE 4 #[.string (⟨#[]⟩ : ByteArray), .int .i64 0, .int .i64 0, .string (⟨#[]⟩ : ByteArray)] 100 ?_; intro gb217 hg w19 hbox hb; have BK217 := Aside0.mk (hbox); have GE217 := bG hg; replace HB := BS hb; clear hb hbox hg; have hcz20 := cz4 BK217))
       have n0_ : Aside0 (((((w19.setCell ⟨gb217, 0, none⟩ (.string ((rd_TRecord l0 x7_1).f0))).setCell ⟨gb217, 1, none⟩ (.int .i64 ((rd_TRecord l0 x7_1).f1))).setCell ⟨gb217, 2, none⟩ (.int .i64 ((rd_TRecord l0 x7_1).f2))).setCell ⟨gb217, 3, none⟩ (.string ((rd_TRecord l0 x7_1).f3))).heap[gb217]? = some (.cells #[.string ((rd_TRecord l0 x7_1).f0), .int .i64 ((rd_TRecord l0 x7_1).f1), .int .i64 ((rd_TRecord l0 x7_1).f2), .string ((rd_TRecord l0 x7_1).f3)] 100 (0, 0))) := ⟨TS⟩
       have n1_ : Aside0 (Below w.heap.size w ((((w19.setCell ⟨gb217, 0, none⟩ (.string ((rd_TRecord l0 x7_1).f0))).setCell ⟨gb217, 1, none⟩ (.int .i64 ((rd_TRecord l0 x7_1).f1))).setCell ⟨gb217, 2, none⟩ (.int .i64 ((rd_TRecord l0 x7_1).f2))).setCell ⟨gb217, 3, none⟩ (.string ((rd_TRecord l0 x7_1).f3)))) := ⟨TB⟩
       (try clear BK217)
       (try clear HB)
       generalize ((((w19.setCell ⟨gb217, 0, none⟩ (.string ((rd_TRecord l0 x7_1).f0))).setCell ⟨gb217, 1, none⟩ (.int .i64 ((rd_TRecord l0 x7_1).f1))).setCell ⟨gb217, 2, none⟩ (.int .i64 ((rd_TRecord l0 x7_1).f2))).setCell ⟨gb217, 3, none⟩ (.string ((rd_TRecord l0 x7_1).f3))) = w21 at n0_ n1_ ⊢
       have BK217 := n0_
       have HB := n1_
       clear n0_ n1_
       replace BK217 := Aside0.mk (blk_drew BK217.out)
       replace HB := Aside0.mk (below_drew1 HB.out)
       have p219 : 0 ≤ ((ji8) : Int) := TD
       have q219 : (ji8) < (l0.length : Int) := TD
       obtain ⟨ad219, e219, hx219_0, hx219_1, hx219_2, hx219_3⟩ := at_TRecord HR0.out (ji8) p219 q219
       have hw219_3 := hx219_3
       have hw219_2 := hx219_2
       have hw219_1 := hx219_1
       have hw219_0 := hx219_0
       obtain rfl : ad216 = ad219 := (by injection e219)
       replace hx219_0 := hBc HB hx219_0
       replace hx219_1 := hBc HB hx219_1
       replace hx219_2 := hBc HB hx219_2
       replace hx219_3 := hBc HB hx219_3
       replace p219 := eq_true p219
       replace q219 := eq_true q219
       refine start_ (n := 17) (S := fun w' => w'.cell? ⟨gb217, 0, none⟩ = some (.string ((rd_TRecord l0 x7_1).f0)) ∧ w'.cell? ⟨gb217, 1, none⟩ = some (.int .i64 ((rd_TRecord l0 x7_1).f1)) ∧ w'.cell? ⟨gb217, 2, none⟩ = some (.int .i64 ((rd_TRecord l0 x7_1).f2)) ∧ w'.cell? ⟨gb217, 3, none⟩ = some (.string ((rd_TRecord l0 x7_1).f3)) ∧ w'.cell? (ad216.add (((ji8)).toNat * 4)) = some (.string ((rd_TRecord l0 (ji8)).f0)) ∧ w'.cell? ⟨(ad216.add (((ji8)).toNat * 4)).block, (ad216.add (((ji8)).toNat * 4)).off + 1, none⟩ = some (.int .i64 ((rd_TRecord l0 (ji8)).f1)) ∧ w'.cell? ⟨(ad216.add (((ji8)).toNat * 4)).block, (ad216.add (((ji8)).toNat * 4)).off + 2, none⟩ = some (.int .i64 ((rd_TRecord l0 (ji8)).f2)) ∧ w'.cell? ⟨(ad216.add (((ji8)).toNat * 4)).block, (ad216.add (((ji8)).toNat * 4)).off + 3, none⟩ = some (.string ((rd_TRecord l0 (ji8)).f3))) (ds := []) #[false, false, false, false, false, false, false, false, false, false, false, false, false, false, false, false, false] KR rfl rfl ⟨bc 0 BK217, bc 1 BK217, bc 2 BK217, bc 3 BK217, ((HB.out.cell (World.block_lt_of_cell? w _ hw219_0)).trans hw219_0), ((HB.out.cell (World.block_lt_of_cell? w _ hw219_1)).trans hw219_1), ((HB.out.cell (World.block_lt_of_cell? w _ hw219_2)).trans hw219_2), ((HB.out.cell (World.block_lt_of_cell? w _ hw219_3)).trans hw219_3)⟩ (fun hHeld => ?_); refine with_tabW spec_l6List.tab4 spec_l6List.bits4 (fun HT_ HW_ => ?_)
       generalize w21.drew = w22 at BK217 HB hx219_0 hx219_1 hx219_2 hx219_3 hHeld ⊢
       refine tA 0 12 (mL 17 1) HT_ HW_ hHeld rfl rfl (by rintro w' ⟨s0, s1, s2, s3, s4, s5, s6, s7⟩; go_simp; with_reducible rfl) ?_
       refine one_ (i := 1) (N := some 13) (mL 17 3) rfl rfl (one_of HT_.out KR) (by decide) (fun K hK => ?_)
       refine goes_ Tryz.func125 KR rfl #[.agg #[.string ((rd_TRecord l0 x7_1).f0), .int .i64 ((rd_TRecord l0 x7_1).f1), .int .i64 ((rd_TRecord l0 x7_1).f2), .string ((rd_TRecord l0 x7_1).f3)]] (by rfl) rfl rfl TA ?_
       with_reducible refine (spec_GoodRecord.calls k1 ((rd_TRecord l0 x7_1).f0) ((rd_TRecord l0 x7_1).f1) ((rd_TRecord l0 x7_1).f2) ((rd_TRecord l0 x7_1).f3) true _ A5.out).mono ?_
       rintro e w23 ⟨rfl, hb⟩
       refine ⟨_, rfl, ?_⟩
       replace BK217 := KB BK217 hb
       replace HB := BS hb
       (try clear hb)
       (try clear hb2)
       (try clear hk)
       (try clear hi)
       refine hK.out _ _ ⟨bc 0 BK217, bc 1 BK217, bc 2 BK217, bc 3 BK217, ((HB.out.cell (World.block_lt_of_cell? w _ hw219_0)).trans hw219_0), ((HB.out.cell (World.block_lt_of_cell? w _ hw219_1)).trans hw219_1), ((HB.out.cell (World.block_lt_of_cell? w _ hw219_2)).trans hw219_2), ((HB.out.cell (World.block_lt_of_cell? w _ hw219_3)).trans hw219_3)⟩ (fun hHeld => ?_)
       clear hK K
       refine nA ?_
       refine pA 2 14 (mL 17 7) HT_ rfl rfl ?_
       refine pA 3 15 (mL 17 15) HT_ rfl rfl ?_
       refine pA 4 16 (mL 17 31) HT_ rfl rfl ?_
       refine pA 5 17 (mL 17 63) HT_ rfl rfl ?_
       refine pA 6 18 (mL 17 127) HT_ rfl rfl ?_
       refine pA 7 19 (mL 17 255) HT_ rfl rfl ?_
       refine pA 8 20 (mL 17 511) HT_ rfl rfl ?_
       refine pA 9 21 (mL 17 1023) HT_ rfl rfl ?_
       refine pA 10 22 (mL 17 2047) HT_ rfl rfl ?_
       refine tA 11 23 (mL 17 4095) HT_ HW_ hHeld rfl rfl (by rintro w' ⟨s0, s1, s2, s3, s4, s5, s6, s7⟩; go_simp; with_reducible rfl) ?_
       refine tA 12 24 (mL 17 8191) HT_ HW_ hHeld rfl rfl (by rintro w' ⟨s0, s1, s2, s3, s4, s5, s6, s7⟩; go_simp; with_reducible rfl) ?_
       refine one_ (i := 13) (N := some 25) (mL 17 16383) rfl rfl (one_of HT_.out KR) (by decide) (fun K hK => ?_)
       refine goes_ Tryz.func174 KR rfl #[.agg #[.string ((rd_TRecord l0 (ji8)).f0), .int .i64 ((rd_TRecord l0 (ji8)).f1), .int .i64 ((rd_TRecord l0 (ji8)).f2), .string ((rd_TRecord l0 (ji8)).f3)], .agg #[.string ((rd_TRecord l0 x7_1).f0), .int .i64 ((rd_TRecord l0 x7_1).f1), .int .i64 ((rd_TRecord l0 x7_1).f2), .string ((rd_TRecord l0 x7_1).f3)]] (by rfl) rfl rfl (by (try simp only [List.map_toArray, List.map_cons, List.map_nil]); first | done | (simp only [hji8]; rfl) | rfl | (simp only [List.length_drop, List.length_take]; rfl)) ?_
       with_reducible refine (spec_l3Compare.calls k1 ((rd_TRecord l0 (ji8)).f0) ((rd_TRecord l0 (ji8)).f1) ((rd_TRecord l0 (ji8)).f2) ((rd_TRecord l0 (ji8)).f3) ((rd_TRecord l0 x7_1).f0) ((rd_TRecord l0 x7_1).f1) ((rd_TRecord l0 x7_1).f2) ((rd_TRecord l0 x7_1).f3) t220 _ A11.out).mono ?_
       rintro e w24 ⟨rfl, hb⟩
       refine ⟨_, rfl, ?_⟩
       replace BK217 := KB BK217 hb
       replace HB := BS hb
       (try clear hb)
       (try clear hb2)
       (try clear hk)
       (try clear hi)
       refine hK.out _ _ ⟨bc 0 BK217, bc 1 BK217, bc 2 BK217, bc 3 BK217, ((HB.out.cell (World.block_lt_of_cell? w _ hw219_0)).trans hw219_0), ((HB.out.cell (World.block_lt_of_cell? w _ hw219_1)).trans hw219_1), ((HB.out.cell (World.block_lt_of_cell? w _ hw219_2)).trans hw219_2), ((HB.out.cell (World.block_lt_of_cell? w _ hw219_3)).trans hw219_3)⟩ (fun hHeld => ?_)
       clear hK K
       refine nA ?_
       refine pA 14 26 (mL 17 32767) HT_ rfl rfl ?_
       refine pA 15 27 (mL 17 65535) HT_ rfl rfl ?_
       refine pA 16 28 (mL 17 131071) HT_ rfl rfl ?_
       refine done_ (done_of HT_.out KR) ?_
       try go_wp2
       go_roundg k1
       case measure => have := HK1.out; omega
       case rel => exact ⟨(wrap64 (x7_1 + 1)), TF, H', ⟨TM⟩, ⟨TB⟩⟩
     ·rw [if_neg c7] at H
      have c7b0 : decide (0 < x7_1) = false := decide_eq_false c7
      clear c7
      have H' := Aside0.mk H
      clear H
      have p216 : 0 ≤ (x7_1 : Int) := TD
      have q216 : x7_1 < (l0.length : Int) := TD
      obtain ⟨ad216, e216, hx216_0, hx216_1, hx216_2, hx216_3⟩ := at_TRecord (Kd.C_below HR0.out HB.out) x7_1 p216 q216
      cases e216
      replace p216 := eq_true p216
      replace q216 := eq_true q216
      try go_wp2_with (first | ((with_reducible refine gate_dst (N := 4) rfl ?_); refine bE 4 #[.string (⟨#[]⟩ : ByteArray), .int .i64 0, .int .i64 0, .string (⟨#[]⟩ : ByteArray)] 100 ?_; intro gb217 hg w25 hbox hb; have BK217 := Aside0.mk (hbox); have GE217 := bG hg; replace HB := BS hb; clear hb hbox hg; have hcz26 := cz4 BK217))
      have n0_ : Aside0 (((((w25.setCell ⟨gb217, 0, none⟩ (.string ((rd_TRecord l0 x7_1).f0))).setCell ⟨gb217, 1, none⟩ (.int .i64 ((rd_TRecord l0 x7_1).f1))).setCell ⟨gb217, 2, none⟩ (.int .i64 ((rd_TRecord l0 x7_1).f2))).setCell ⟨gb217, 3, none⟩ (.string ((rd_TRecord l0 x7_1).f3))).heap[gb217]? = some (.cells #[.string ((rd_TRecord l0 x7_1).f0), .int .i64 ((rd_TRecord l0 x7_1).f1), .int .i64 ((rd_TRecord l0 x7_1).f2), .string ((rd_TRecord l0 x7_1).f3)] 100 (0, 0))) := ⟨TS⟩
      have n1_ : Aside0 (Below w.heap.size w ((((w25.setCell ⟨gb217, 0, none⟩ (.string ((rd_TRecord l0 x7_1).f0))).setCell ⟨gb217, 1, none⟩ (.int .i64 ((rd_TRecord l0 x7_1).f1))).setCell ⟨gb217, 2, none⟩ (.int .i64 ((rd_TRecord l0 x7_1).f2))).setCell ⟨gb217, 3, none⟩ (.string ((rd_TRecord l0 x7_1).f3)))) := ⟨TB⟩
      (try clear BK217)
      (try clear HB)
      generalize ((((w25.setCell ⟨gb217, 0, none⟩ (.string ((rd_TRecord l0 x7_1).f0))).setCell ⟨gb217, 1, none⟩ (.int .i64 ((rd_TRecord l0 x7_1).f1))).setCell ⟨gb217, 2, none⟩ (.int .i64 ((rd_TRecord l0 x7_1).f2))).setCell ⟨gb217, 3, none⟩ (.string ((rd_TRecord l0 x7_1).f3))) = w27 at n0_ n1_ ⊢
      have BK217 := n0_
      have HB := n1_
      clear n0_ n1_
      replace BK217 := Aside0.mk (blk_drew BK217.out)
      replace HB := Aside0.mk (below_drew1 HB.out)
      refine start_ (n := 17) (S := fun w' => w'.cell? ⟨gb217, 0, none⟩ = some (.string ((rd_TRecord l0 x7_1).f0)) ∧ w'.cell? ⟨gb217, 1, none⟩ = some (.int .i64 ((rd_TRecord l0 x7_1).f1)) ∧ w'.cell? ⟨gb217, 2, none⟩ = some (.int .i64 ((rd_TRecord l0 x7_1).f2)) ∧ w'.cell? ⟨gb217, 3, none⟩ = some (.string ((rd_TRecord l0 x7_1).f3))) (ds := []) #[false, false, false, false, false, false, false, false, false, false, false, false, false, false, false, false, false] KR rfl rfl ⟨bc 0 BK217, bc 1 BK217, bc 2 BK217, bc 3 BK217⟩ (fun hHeld => ?_); refine with_tabW spec_l6List.tab4 spec_l6List.bits4 (fun HT_ HW_ => ?_)
      generalize w27.drew = w28 at BK217 HB hHeld ⊢
      refine tA 0 12 (mL 17 1) HT_ HW_ hHeld rfl rfl (by rintro w' ⟨s0, s1, s2, s3⟩; go_simp; with_reducible rfl) ?_
      refine one_ (i := 1) (N := some 13) (mL 17 3) rfl rfl (one_of HT_.out KR) (by decide) (fun K hK => ?_)
      refine goes_ Tryz.func125 KR rfl #[.agg #[.string ((rd_TRecord l0 x7_1).f0), .int .i64 ((rd_TRecord l0 x7_1).f1), .int .i64 ((rd_TRecord l0 x7_1).f2), .string ((rd_TRecord l0 x7_1).f3)]] (by rfl) rfl rfl TA ?_
      with_reducible refine (spec_GoodRecord.calls k1 ((rd_TRecord l0 x7_1).f0) ((rd_TRecord l0 x7_1).f1) ((rd_TRecord l0 x7_1).f2) ((rd_TRecord l0 x7_1).f3) true _ A5.out).mono ?_
      rintro e w29 ⟨rfl, hb⟩
      refine ⟨_, rfl, ?_⟩
      replace BK217 := KB BK217 hb
      replace HB := BS hb
      (try clear hb)
      (try clear hb2)
      (try clear hk)
      (try clear hi)
      refine hK.out _ _ ⟨bc 0 BK217, bc 1 BK217, bc 2 BK217, bc 3 BK217⟩ (fun hHeld => ?_)
      clear hK K
      refine nA ?_
      refine pA 2 14 (mL 17 7) HT_ rfl rfl ?_
      refine pA 3 15 (mL 17 15) HT_ rfl rfl ?_
      refine pA 4 16 (mL 17 31) HT_ rfl rfl ?_
      refine pA 5 17 (mL 17 63) HT_ rfl rfl ?_
      refine pA 6 18 (mL 17 127) HT_ rfl rfl ?_
      refine pU 7 19 (mL 17 255) HT_ rfl rfl ?_
      refine pU 8 20 (mL 17 511) HT_ rfl rfl ?_
      refine pU 9 21 (mL 17 1023) HT_ rfl rfl ?_
      refine pU 10 22 (mL 17 2047) HT_ rfl rfl ?_
      refine pU 11 23 (mL 17 4095) HT_ rfl rfl ?_
      refine pU 12 24 (mL 17 8191) HT_ rfl rfl ?_
      refine pU 13 25 (mL 17 16383) HT_ rfl rfl ?_
      refine pU 14 26 (mL 17 32767) HT_ rfl rfl ?_
      refine pA 15 27 (mL 17 65535) HT_ rfl rfl ?_
      refine pA 16 28 (mL 17 131071) HT_ rfl rfl ?_
      refine done_ (done_of HT_.out KR) ?_
      try go_wp2
      go_roundg k1
      case measure => have := HK1.out; omega
      case rel => exact ⟨(wrap64 (x7_1 + 1)), TF, H', ⟨TM⟩, ⟨TB⟩⟩
    ·replace c6 := Bool.eq_false_iff.mpr c6
     subst c6
     replace H := iff' H
     obtain rfl := Option.some.inj H
     have p216 : 0 ≤ (x7_1 : Int) := TD
     have q216 : x7_1 < (l0.length : Int) := TD
     obtain ⟨ad216, e216, hx216_0, hx216_1, hx216_2, hx216_3⟩ := at_TRecord (Kd.C_below HR0.out HB.out) x7_1 p216 q216
     cases e216
     replace p216 := eq_true p216
     replace q216 := eq_true q216
     try go_wp2_with (first | ((with_reducible refine gate_dst (N := 4) rfl ?_); refine bE 4 #[.string (⟨#[]⟩ : ByteArray), .int .i64 0, .int .i64 0, .string (⟨#[]⟩ : ByteArray)] 100 ?_; intro gb217 hg w30 hbox hb; have BK217 := Aside0.mk (hbox); have GE217 := bG hg; replace HB := BS hb; clear hb hbox hg; have hcz31 := cz4 BK217))
     have n0_ : Aside0 (((((w30.setCell ⟨gb217, 0, none⟩ (.string ((rd_TRecord l0 x7_1).f0))).setCell ⟨gb217, 1, none⟩ (.int .i64 ((rd_TRecord l0 x7_1).f1))).setCell ⟨gb217, 2, none⟩ (.int .i64 ((rd_TRecord l0 x7_1).f2))).setCell ⟨gb217, 3, none⟩ (.string ((rd_TRecord l0 x7_1).f3))).heap[gb217]? = some (.cells #[.string ((rd_TRecord l0 x7_1).f0), .int .i64 ((rd_TRecord l0 x7_1).f1), .int .i64 ((rd_TRecord l0 x7_1).f2), .string ((rd_TRecord l0 x7_1).f3)] 100 (0, 0))) := ⟨TS⟩
     have n1_ : Aside0 (Below w.heap.size w ((((w30.setCell ⟨gb217, 0, none⟩ (.string ((rd_TRecord l0 x7_1).f0))).setCell ⟨gb217, 1, none⟩ (.int .i64 ((rd_TRecord l0 x7_1).f1))).setCell ⟨gb217, 2, none⟩ (.int .i64 ((rd_TRecord l0 x7_1).f2))).setCell ⟨gb217, 3, none⟩ (.string ((rd_TRecord l0 x7_1).f3)))) := ⟨TB⟩
     (try clear BK217)
     (try clear HB)
     generalize ((((w30.setCell ⟨gb217, 0, none⟩ (.string ((rd_TRecord l0 x7_1).f0))).setCell ⟨gb217, 1, none⟩ (.int .i64 ((rd_TRecord l0 x7_1).f1))).setCell ⟨gb217, 2, none⟩ (.int .i64 ((rd_TRecord l0 x7_1).f2))).setCell ⟨gb217, 3, none⟩ (.string ((rd_TRecord l0 x7_1).f3))) = w32 at n0_ n1_ ⊢
     have BK217 := n0_
     have HB := n1_
     clear n0_ n1_
     replace BK217 := Aside0.mk (blk_drew BK217.out)
     replace HB := Aside0.mk (below_drew1 HB.out)
     refine start_ (n := 17) (S := fun w' => w'.cell? ⟨gb217, 0, none⟩ = some (.string ((rd_TRecord l0 x7_1).f0)) ∧ w'.cell? ⟨gb217, 1, none⟩ = some (.int .i64 ((rd_TRecord l0 x7_1).f1)) ∧ w'.cell? ⟨gb217, 2, none⟩ = some (.int .i64 ((rd_TRecord l0 x7_1).f2)) ∧ w'.cell? ⟨gb217, 3, none⟩ = some (.string ((rd_TRecord l0 x7_1).f3))) (ds := []) #[false, false, false, false, false, false, false, false, false, false, false, false, false, false, false, false, false] KR rfl rfl ⟨bc 0 BK217, bc 1 BK217, bc 2 BK217, bc 3 BK217⟩ (fun hHeld => ?_); refine with_tabW spec_l6List.tab4 spec_l6List.bits4 (fun HT_ HW_ => ?_)
     generalize w32.drew = w33 at BK217 HB hHeld ⊢
     refine tA 0 12 (mL 17 1) HT_ HW_ hHeld rfl rfl (by rintro w' ⟨s0, s1, s2, s3⟩; go_simp; with_reducible rfl) ?_
     refine one_ (i := 1) (N := some 13) (mL 17 3) rfl rfl (one_of HT_.out KR) (by decide) (fun K hK => ?_)
     refine goes_ Tryz.func125 KR rfl #[.agg #[.string ((rd_TRecord l0 x7_1).f0), .int .i64 ((rd_TRecord l0 x7_1).f1), .int .i64 ((rd_TRecord l0 x7_1).f2), .string ((rd_TRecord l0 x7_1).f3)]] (by rfl) rfl rfl TA ?_
     with_reducible refine (spec_GoodRecord.calls k1 ((rd_TRecord l0 x7_1).f0) ((rd_TRecord l0 x7_1).f1) ((rd_TRecord l0 x7_1).f2) ((rd_TRecord l0 x7_1).f3) false _ A5.out).mono ?_
     rintro e w34 ⟨rfl, hb⟩
     refine ⟨_, rfl, ?_⟩
     replace BK217 := KB BK217 hb
     replace HB := BS hb
     (try clear hb)
     (try clear hb2)
     (try clear hk)
     (try clear hi)
     refine hK.out _ _ ⟨bc 0 BK217, bc 1 BK217, bc 2 BK217, bc 3 BK217⟩ (fun hHeld => ?_)
     clear hK K
     refine nA ?_
     refine pA 2 14 (mL 17 7) HT_ rfl rfl ?_
     refine pA 3 15 (mL 17 15) HT_ rfl rfl ?_
     refine pU 4 16 (mL 17 31) HT_ rfl rfl ?_
     refine pU 5 17 (mL 17 63) HT_ rfl rfl ?_
     refine pU 6 18 (mL 17 127) HT_ rfl rfl ?_
     refine pU 7 19 (mL 17 255) HT_ rfl rfl ?_
     refine pU 8 20 (mL 17 511) HT_ rfl rfl ?_
     refine pU 9 21 (mL 17 1023) HT_ rfl rfl ?_
     refine pU 10 22 (mL 17 2047) HT_ rfl rfl ?_
     refine pU 11 23 (mL 17 4095) HT_ rfl rfl ?_
     refine pU 12 24 (mL 17 8191) HT_ rfl rfl ?_
     refine pU 13 25 (mL 17 16383) HT_ rfl rfl ?_
     refine pU 14 26 (mL 17 32767) HT_ rfl rfl ?_
     refine pU 15 27 (mL 17 65535) HT_ rfl rfl ?_
     refine pA 16 28 (mL 17 131071) HT_ rfl rfl ?_
     refine done_ (done_of HT_.out KR) ?_
     try go_wp2
     go_ret
     exact ⟨TE, TB⟩
   ·rw [if_neg c2] at H
    have c2b0 : decide (x7_1 < (l0.length : Int)) = false := decide_eq_false c2
    clear c2
    obtain rfl := Option.some.inj H
    go_wp2
    go_ret
    exact ⟨TE, TB⟩
end
section
/-! ### spec_l6Has: function 172 -/
def spec_l6Has.l0 : Nat → ByteArray → Int → List (S_Record) → Int → Int → Option (Bool)
 | 0, _, _, _, _, _ => none
 | k + 1, x1, x2, x9, x10, x11 => if x11 < x10 then (if 0 ≤ x11 then (if x11 < (x9.length : Int) then (if ((rd_TRecord x9 x11).f0).toList = x1.toList then (if ((rd_TRecord x9 x11).f1) = x2 then (some true) else (spec_l6Has.l0 k x1 x2 x9 x10 (wrap64 (x11 + 1)))) else (spec_l6Has.l0 k x1 x2 x9 x10 (wrap64 (x11 + 1)))) else (none)) else (none)) else (some false)
def spec_l6Has.f (k : Nat) (l0 : List (S_Record)) (a1 : ByteArray) (a2 : Int) : Option (Bool) := spec_l6Has.l0 k a1 a2 l0 (l0.length : Int) 0
theorem spec_l6Has.calls (k : Nat) (A0 : Option Addr) (c0 : Nat) (l0 : List (S_Record)) (a1 : ByteArray) (a2 : Int) (r : Bool) (w : World) (hr0 : Kd.C k_Record w A0 l0.length l0) (hc0 : l0.length ≤ c0) (h : spec_l6Has.f k l0 a1 a2 = some r) :
  Calls Tryz.prog 172 #[.slice A0 l0.length c0, .string a1, .int .i64 a2] w fun e w' => e = .returned (.bool r) ∧ Below w.heap.size w w' := by
 have hu100 := Tryz.underlying100
 have HR0 := Aside0.mk hr0
 have HC0 := Aside0.mk hc0
 clear hr0 hc0
 have HB := Aside0.mk (Below.refl w.heap.size w)
 have H : (spec_l6Has.l0 k a1 a2 l0 (l0.length : Int) 0) = some r := h
 clear h
 have H' := Aside0.mk H
 clear H
 go_enter Tryz.func172, Tryz.ntmps172
 go_wp2
 go_loopg [11] k (fun kq v11 w' => ∃ (x11_1 : Int), v11 = .int .i64 x11_1 ∧ Aside0 (spec_l6Has.l0 kq a1 a2 l0 (l0.length : Int) x11_1 = some r) ∧ Aside0 (kq ≤ k) ∧ Aside0 (Below w.heap.size w w'))
 case atStart => exact ⟨(0), TF, H', ⟨Nat.le_refl _⟩, ⟨TB⟩⟩
 case round =>
  clear H'
  try clear c1
  try clear p2
  obtain ⟨x11_1, rfl, HA, HK1, HB⟩ := hrel
  cases gk with
  | zero => exact absurd HA.out (by simp [spec_l6Has.l0])
  | succ k1 =>
   have H := HA.out
   clear HA
   simp only [spec_l6Has.l0] at H
   by_cases c4 : x11_1 < (l0.length : Int)
   ·rw [if_pos c4] at H
    have c4b0 : decide (x11_1 < (l0.length : Int)) = true := decide_eq_true c4
    clear c4
    obtain ⟨c5, H⟩ := ifn H
    have c5b0 : decide (0 ≤ x11_1) = true := decide_eq_true c5
    clear c5
    obtain ⟨c6, H⟩ := ifn H
    have c6b0 : decide (x11_1 < (l0.length : Int)) = true := decide_eq_true c6
    clear c6
    by_cases c7 : ((rd_TRecord l0 x11_1).f0).toList = a1.toList
    ·rw [if_pos c7] at H
     have c7b0 : (((rd_TRecord l0 x11_1).f0).toList == a1.toList) = true := beq_iff_eq.mpr c7
     have c7b1 : (((rd_TRecord l0 x11_1).f0).toList != a1.toList) = false := bne_eq_false_iff_eq.mpr c7
     clear c7
     by_cases c8 : ((rd_TRecord l0 x11_1).f1) = a2
     ·rw [if_pos c8] at H
      have c8b0 : (((rd_TRecord l0 x11_1).f1) == a2) = true := beq_iff_eq.mpr c8
      have c8b1 : (((rd_TRecord l0 x11_1).f1) != a2) = false := bne_eq_false_iff_eq.mpr c8
      clear c8
      obtain rfl := Option.some.inj H
      have p221 : 0 ≤ (x11_1 : Int) := TD
      have q221 : x11_1 < (l0.length : Int) := TD
      obtain ⟨ad221, e221, hx221_0, hx221_1, hx221_2, hx221_3⟩ := at_TRecord (Kd.C_below HR0.out HB.out) x11_1 p221 q221
      cases e221
      replace p221 := eq_true p221
      replace q221 := eq_true q221
      go_wp2_with (first | ((with_reducible refine gate_dst (N := 8) rfl ?_); refine bE 8 #[.string (⟨#[]⟩ : ByteArray), .int .i64 0, .int .i64 0, .string (⟨#[]⟩ : ByteArray)] 100 ?_; intro gb222 hg w9 hbox hb; have BK222 := Aside0.mk (hbox); have GE222 := bG hg; replace HB := BS hb; clear hb hbox hg; have hcz10 := cz4 BK222))
      go_ret
      exact ⟨TE, TB⟩
     ·rw [if_neg c8] at H
      have c8b0 : (((rd_TRecord l0 x11_1).f1) == a2) = false := beq_eq_false_iff_ne.mpr c8
      have c8b1 : (((rd_TRecord l0 x11_1).f1) != a2) = true := bne_iff_ne.mpr c8
      have H' := Aside0.mk H
      clear H
      have p221 : 0 ≤ (x11_1 : Int) := TD
      have q221 : x11_1 < (l0.length : Int) := TD
      obtain ⟨ad221, e221, hx221_0, hx221_1, hx221_2, hx221_3⟩ := at_TRecord (Kd.C_below HR0.out HB.out) x11_1 p221 q221
      cases e221
      replace p221 := eq_true p221
      replace q221 := eq_true q221
      go_wp2_with (first | ((with_reducible refine gate_dst (N := 8) rfl ?_); refine bE 8 #[.string (⟨#[]⟩ : ByteArray), .int .i64 0, .int .i64 0, .string (⟨#[]⟩ : ByteArray)] 100 ?_; intro gb222 hg w11 hbox hb; have BK222 := Aside0.mk (hbox); have GE222 := bG hg; replace HB := BS hb; clear hb hbox hg; have hcz12 := cz4 BK222))
      go_roundg k1
      case measure => have := HK1.out; omega
      case rel => exact ⟨(wrap64 (x11_1 + 1)), TF, H', ⟨TM⟩, ⟨TB⟩⟩
    ·rw [if_neg c7] at H
     have c7b0 : (((rd_TRecord l0 x11_1).f0).toList == a1.toList) = false := beq_eq_false_iff_ne.mpr c7
     have c7b1 : (((rd_TRecord l0 x11_1).f0).toList != a1.toList) = true := bne_iff_ne.mpr c7
     have H' := Aside0.mk H
     clear H
     have p221 : 0 ≤ (x11_1 : Int) := TD
     have q221 : x11_1 < (l0.length : Int) := TD
     obtain ⟨ad221, e221, hx221_0, hx221_1, hx221_2, hx221_3⟩ := at_TRecord (Kd.C_below HR0.out HB.out) x11_1 p221 q221
     cases e221
     replace p221 := eq_true p221
     replace q221 := eq_true q221
     go_wp2_with (first | ((with_reducible refine gate_dst (N := 8) rfl ?_); refine bE 8 #[.string (⟨#[]⟩ : ByteArray), .int .i64 0, .int .i64 0, .string (⟨#[]⟩ : ByteArray)] 100 ?_; intro gb222 hg w13 hbox hb; have BK222 := Aside0.mk (hbox); have GE222 := bG hg; replace HB := BS hb; clear hb hbox hg; have hcz14 := cz4 BK222))
     go_roundg k1
     case measure => have := HK1.out; omega
     case rel => exact ⟨(wrap64 (x11_1 + 1)), TF, H', ⟨TM⟩, ⟨TB⟩⟩
   ·rw [if_neg c4] at H
    have c4b0 : decide (x11_1 < (l0.length : Int)) = false := decide_eq_false c4
    clear c4
    obtain rfl := Option.some.inj H
    go_wp2
    go_ret
    exact ⟨TE, TB⟩
end
section
/-! ### spec_l1Parent: function 110 -/
def spec_l1Parent.l0 : Nat → ByteArray → Int → Option (ByteArray)
 | 0, _, _ => none
 | k + 1, x0, x3 => if x3 < (x0.size : Int) then (if 0 ≤ x3 then (if (bt x0 x3) = 46 then (if 0 ≤ (wrap64 (x3 + 1)) then (if (wrap64 (x3 + 1)) ≤ (x0.size : Int) then (some (x0.extract ((wrap64 (x3 + 1)) : Int).toNat x0.size)) else (none)) else (none)) else (spec_l1Parent.l0 k x0 (wrap64 (x3 + 1)))) else (none)) else (some (⟨#[]⟩ : ByteArray))
def spec_l1Parent.f (k : Nat) (a0 : ByteArray) : Option (ByteArray) := spec_l1Parent.l0 k a0 0
theorem spec_l1Parent.calls (k : Nat) (a0 : ByteArray) (r : ByteArray) (w : World) (h : spec_l1Parent.f k a0 = some r) :
  Calls Tryz.prog 110 #[.string a0] w fun e w' => e = .returned (.string r) ∧ Drawn0 w w' := by
 have H : (spec_l1Parent.l0 k a0 0) = some r := h
 clear h
 have H' := Aside0.mk H
 clear H
 go_enter Tryz.func110, Tryz.ntmps110
 go_wp2
 go_loopg [3] k (fun kq v3 w' => ∃ (x3_1 : Int), v3 = .int .i64 x3_1 ∧ Aside0 (spec_l1Parent.l0 kq a0 x3_1 = some r) ∧ Aside0 (kq ≤ k) ∧ Drawn0 w w')
 case atStart => exact ⟨(0), TF, H', ⟨Nat.le_refl _⟩, TN⟩
 case round =>
  clear H'
  try clear c1
  obtain ⟨x3_1, rfl, HA, HK1, ⟨m1, rfl⟩⟩ := hrel
  cases gk with
  | zero => exact absurd HA.out (by simp [spec_l1Parent.l0])
  | succ k1 =>
   have H := HA.out
   clear HA
   simp only [spec_l1Parent.l0] at H
   by_cases c2 : x3_1 < (a0.size : Int)
   ·rw [if_pos c2] at H
    have c2b0 : decide (x3_1 < (a0.size : Int)) = true := decide_eq_true c2
    clear c2
    obtain ⟨c3, H⟩ := ifn H
    have c3b0 : decide (0 ≤ x3_1) = true := decide_eq_true c3
    clear c3
    by_cases c5 : (bt a0 x3_1) = 46
    ·rw [if_pos c5] at H
     have c5b0 : ((bt a0 x3_1) == 46) = true := beq_iff_eq.mpr c5
     have c5b1 : ((bt a0 x3_1) != 46) = false := bne_eq_false_iff_eq.mpr c5
     clear c5
     obtain ⟨ji6, hji6⟩ : ∃ j_ : Int, (wrap64 (x3_1 + 1)) = j_ := ⟨_, rfl⟩
     replace H : (if 0 ≤ (ji6) then (if (ji6) ≤ (a0.size : Int) then (some (a0.extract ((ji6) : Int).toNat a0.size)) else (none)) else (none)) = some r := by first | (rw [hji6] at H; exact H) | (simp only [hji6] at H ⊢; exact H)
     have hji6w : (IntKind.i64.wrap (x3_1 + 1)) = ji6 := (i64_w _).trans hji6
     obtain ⟨c7, H⟩ := ifn H
     have c7b0 := eq_true c7
     have c7b1 : decide (0 ≤ (ji6)) = true := decide_eq_true c7
     clear c7
     obtain ⟨c8, H⟩ := ifn H
     have c8b0 := eq_true c8
     have c8b1 : decide ((ji6) ≤ (a0.size : Int)) = true := decide_eq_true c8
     clear c8
     obtain rfl := Option.some.inj H
     have p4 : 0 ≤ (x3_1 : Int) := TD
     have q4 : x3_1 < (a0.size : Int) := TD
     have hx4 := bt_at a0 x3_1
     replace p4 := eq_true p4
     replace q4 := eq_true q4
     go_wp2
     go_ret
     exact ⟨by first | rfl | (simp; done) | (simp only [← hji6] <;> (first | rfl | simp)) | (simp [*]; done), TN⟩
    ·rw [if_neg c5] at H
     have c5b0 : ((bt a0 x3_1) == 46) = false := beq_eq_false_iff_ne.mpr c5
     have c5b1 : ((bt a0 x3_1) != 46) = true := bne_iff_ne.mpr c5
     have H' := Aside0.mk H
     clear H
     have p4 : 0 ≤ (x3_1 : Int) := TD
     have q4 : x3_1 < (a0.size : Int) := TD
     have hx4 := bt_at a0 x3_1
     replace p4 := eq_true p4
     replace q4 := eq_true q4
     go_wp2
     go_roundg k1
     case measure => have := HK1.out; omega
     case rel => exact ⟨(wrap64 (x3_1 + 1)), TF, H', ⟨TM⟩, TN⟩
   ·rw [if_neg c2] at H
    have c2b0 : decide (x3_1 < (a0.size : Int)) = false := decide_eq_false c2
    clear c2
    obtain rfl := Option.some.inj H
    go_wp2
    go_ret
    exact ⟨TF, TN⟩
end
end Go.Proofs.YtioefechhknnlaaGreatDoor.Pp
