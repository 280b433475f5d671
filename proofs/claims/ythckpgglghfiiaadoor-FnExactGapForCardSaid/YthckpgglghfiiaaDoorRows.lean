/-
  NARROWER THAN 'FOR EVERY INPUT', by the rows' own cells (each row's printed sentence says how): FnExactGoodHealth: laid · FnExactRowOf: laid · FnExactIsUp: laid · FnExactCovers: laid · FnExactNewHealth: laid · FnExactUpIn: laid · FnExactGoodGaps: laid · FnExactClosestBy: laid · FnExactCheckAbsent: laid · FnExactGapFor: laid.
  DERIVED. THE GIVEN ROWS OF THIS SEAT. 10 by the template 'for every input the law returns true; each argument reads behind the call as it read before'; 0 by the template 'total and deterministic' (their statements: YthckpgglghfiiaaDoorTotals.lean).
  GIVEN WITH THE SEED: the statements are not yours to turn. If you find one false, say at which input.
  Laid BY PROGRAM, IN A SANDBOX (cutbox-rows.mjs): the forced cells as the released guide's own fill.sh prints them over the translation 5f73442f1ee87cd9… (all of the seat's roots in one cut). By AI agents, Wed Nov 11 2026. No macro, syntax, notation, axiom, sorry.
-/
import Derived.Test.YthckpgglghfiiaaDoorChecked
import GoSem.PinnedTables
import GoSem.Claim
import GoSem.ClaimJoined
import GoSem.ClaimMapViews
import Derived.JoinedTies
import Derived.KernelRfl
namespace Go.Proofs.YthckpgglghfiiaaDoor
/- THE CELL 'sum', in the pinned program and in every row, IS THE sha256 OF THE DUMP (.gsa) THAT YthckpgglghfiiaaDoorProg.lean LOADS. Nothing in Lean hashes anything: it is a label: what it is worth is what the hold of that sum in a sandbox is worth. -/
noncomputable def Tryd.pinned : Pinned := { name := "ythckpgglghfiiaadoor", sum := "5f73442f1ee87cd9bc520d5ff446e8e3d3fa406e31fa053b837f04119d878085", checked := Tryd.checked }
namespace Rows
def none {H : Type} : Left H := { results := [], args := [] }

/- WHAT THE LISTED PACKAGE-LEVEL VARIABLES READ AS WHEN THE CALL BEGINS. Each datum BY PROGRAM (the guide's laid-datum.mjs) off the statement by which the dump's own 'gosem.cut.vars' lays the variable. In a bare row this is a premise. The card (YthckpgglghfiiaaDoorCards.lean) ties it to the program's text. -/
def laid_unicode_utf8_acceptRanges {H : Type} : DataW H := .agg [.agg [.lit (.int .u8 128), .lit (.int .u8 191)], .agg [.lit (.int .u8 160), .lit (.int .u8 191)], .agg [.lit (.int .u8 128), .lit (.int .u8 159)], .agg [.lit (.int .u8 144), .lit (.int .u8 191)], .agg [.lit (.int .u8 128), .lit (.int .u8 143)], .agg [.lit (.int .u8 0), .lit (.int .u8 0)], .agg [.lit (.int .u8 0), .lit (.int .u8 0)], .agg [.lit (.int .u8 0), .lit (.int .u8 0)], .agg [.lit (.int .u8 0), .lit (.int .u8 0)], .agg [.lit (.int .u8 0), .lit (.int .u8 0)], .agg [.lit (.int .u8 0), .lit (.int .u8 0)], .agg [.lit (.int .u8 0), .lit (.int .u8 0)], .agg [.lit (.int .u8 0), .lit (.int .u8 0)], .agg [.lit (.int .u8 0), .lit (.int .u8 0)], .agg [.lit (.int .u8 0), .lit (.int .u8 0)], .agg [.lit (.int .u8 0), .lit (.int .u8 0)]]
/-- One of Go's own tables, pinned by name: the form's constant. -/
def laid_unicode_utf8_first : DataW Unit := Go.Pinned.utf8First

/-- 'laws.FnExactGoodHealth': WHATEVER THE INPUT: true; the input reads as it did. -/
def fnExactGoodHealthSpec : ChangeSpec := { name := "fnExactGoodHealth", fn := fun _ => fun
  | [d] => { results := [.lit (.bool true)], args := [d] }
  | _ => none }
def fnExactGoodHealthRow : OpenClaim := { program := "ythckpgglghfiiaadoor", sum := "5f73442f1ee87cd9bc520d5ff446e8e3d3fa406e31fa053b837f04119d878085", func := "loop.example/g00300/laws.FnExactGoodHealth", spec := "fnExactGoodHealth", inPlace := ["internal/bytealg.CountString", "internal/bytealg.IndexByteString", "internal/bytealg.IndexString"], unfollowed := true, recurses := true, named := ["unicode/utf8.first", "unicode/utf8.acceptRanges", "internal/bytealg.MaxLen"], apart := false, laid := [("unicode/utf8.acceptRanges", laid_unicode_utf8_acceptRanges), ("unicode/utf8.first", laid_unicode_utf8_first)] }
def FnExactGoodHealthSaid : Prop := fnExactGoodHealthRow.holds Tryd.pinned (OpenSpec.ofChange fnExactGoodHealthSpec)

/-- ITS FALSE NEIGHBOUR: 'it returns false'. Refute it at one input. -/
def fnExactGoodHealthWrong : ChangeSpec := { name := "fnExactGoodHealth", fn := fun _ => fun
  | [d] => { results := [.lit (.bool false)], args := [d] }
  | _ => none }
def FnExactGoodHealthWrongFalsely : Prop := fnExactGoodHealthRow.holds Tryd.pinned (OpenSpec.ofChange fnExactGoodHealthWrong)

/-- 'laws.FnExactRowOf': WHATEVER THE INPUT: true; the input reads as it did. -/
def fnExactRowOfSpec : ChangeSpec := { name := "fnExactRowOf", fn := fun _ => fun
  | [d1, d2] => { results := [.lit (.bool true)], args := [d1, d2] }
  | _ => none }
def fnExactRowOfRow : OpenClaim := { program := "ythckpgglghfiiaadoor", sum := "5f73442f1ee87cd9bc520d5ff446e8e3d3fa406e31fa053b837f04119d878085", func := "loop.example/g00300/laws.FnExactRowOf", spec := "fnExactRowOf", inPlace := ["internal/bytealg.CountString", "internal/bytealg.IndexByteString", "internal/bytealg.IndexString"], unfollowed := true, recurses := true, named := ["unicode/utf8.first", "unicode/utf8.acceptRanges", "internal/bytealg.MaxLen"], apart := false, laid := [("unicode/utf8.acceptRanges", laid_unicode_utf8_acceptRanges), ("unicode/utf8.first", laid_unicode_utf8_first)] }
def FnExactRowOfSaid : Prop := fnExactRowOfRow.holds Tryd.pinned (OpenSpec.ofChange fnExactRowOfSpec)

/-- ITS FALSE NEIGHBOUR: 'it returns false'. Refute it at one input. -/
def fnExactRowOfWrong : ChangeSpec := { name := "fnExactRowOf", fn := fun _ => fun
  | [d1, d2] => { results := [.lit (.bool false)], args := [d1, d2] }
  | _ => none }
def FnExactRowOfWrongFalsely : Prop := fnExactRowOfRow.holds Tryd.pinned (OpenSpec.ofChange fnExactRowOfWrong)

/-- 'laws.FnExactIsUp': WHATEVER THE INPUT: true; the input reads as it did. -/
def fnExactIsUpSpec : ChangeSpec := { name := "fnExactIsUp", fn := fun _ => fun
  | [d1, d2] => { results := [.lit (.bool true)], args := [d1, d2] }
  | _ => none }
def fnExactIsUpRow : OpenClaim := { program := "ythckpgglghfiiaadoor", sum := "5f73442f1ee87cd9bc520d5ff446e8e3d3fa406e31fa053b837f04119d878085", func := "loop.example/g00300/laws.FnExactIsUp", spec := "fnExactIsUp", inPlace := ["internal/bytealg.CountString", "internal/bytealg.IndexByteString", "internal/bytealg.IndexString"], unfollowed := true, recurses := true, named := ["unicode/utf8.first", "unicode/utf8.acceptRanges", "internal/bytealg.MaxLen"], apart := false, laid := [("unicode/utf8.acceptRanges", laid_unicode_utf8_acceptRanges), ("unicode/utf8.first", laid_unicode_utf8_first)] }
def FnExactIsUpSaid : Prop := fnExactIsUpRow.holds Tryd.pinned (OpenSpec.ofChange fnExactIsUpSpec)

/-- ITS FALSE NEIGHBOUR: 'it returns false'. Refute it at one input. -/
def fnExactIsUpWrong : ChangeSpec := { name := "fnExactIsUp", fn := fun _ => fun
  | [d1, d2] => { results := [.lit (.bool false)], args := [d1, d2] }
  | _ => none }
def FnExactIsUpWrongFalsely : Prop := fnExactIsUpRow.holds Tryd.pinned (OpenSpec.ofChange fnExactIsUpWrong)

/-- 'laws.FnExactCovers': WHATEVER THE INPUT: true; the input reads as it did. -/
def fnExactCoversSpec : ChangeSpec := { name := "fnExactCovers", fn := fun _ => fun
  | [d1, d2] => { results := [.lit (.bool true)], args := [d1, d2] }
  | _ => none }
def fnExactCoversRow : OpenClaim := { program := "ythckpgglghfiiaadoor", sum := "5f73442f1ee87cd9bc520d5ff446e8e3d3fa406e31fa053b837f04119d878085", func := "loop.example/g00300/laws.FnExactCovers", spec := "fnExactCovers", inPlace := ["internal/bytealg.CountString", "internal/bytealg.IndexByteString", "internal/bytealg.IndexString"], unfollowed := true, recurses := true, named := ["unicode/utf8.first", "unicode/utf8.acceptRanges", "internal/bytealg.MaxLen"], apart := false, laid := [("unicode/utf8.acceptRanges", laid_unicode_utf8_acceptRanges), ("unicode/utf8.first", laid_unicode_utf8_first)] }
def FnExactCoversSaid : Prop := fnExactCoversRow.holds Tryd.pinned (OpenSpec.ofChange fnExactCoversSpec)

/-- ITS FALSE NEIGHBOUR: 'it returns false'. Refute it at one input. -/
def fnExactCoversWrong : ChangeSpec := { name := "fnExactCovers", fn := fun _ => fun
  | [d1, d2] => { results := [.lit (.bool false)], args := [d1, d2] }
  | _ => none }
def FnExactCoversWrongFalsely : Prop := fnExactCoversRow.holds Tryd.pinned (OpenSpec.ofChange fnExactCoversWrong)

/-- 'laws.FnExactNewHealth': WHATEVER THE INPUT: true; the input reads as it did. -/
def fnExactNewHealthSpec : ChangeSpec := { name := "fnExactNewHealth", fn := fun _ => fun
  | [d1, d2, d3] => { results := [.lit (.bool true)], args := [d1, d2, d3] }
  | _ => none }
def fnExactNewHealthRow : OpenClaim := { program := "ythckpgglghfiiaadoor", sum := "5f73442f1ee87cd9bc520d5ff446e8e3d3fa406e31fa053b837f04119d878085", func := "loop.example/g00300/laws.FnExactNewHealth", spec := "fnExactNewHealth", inPlace := ["internal/bytealg.CountString", "internal/bytealg.IndexByteString", "internal/bytealg.IndexString"], unfollowed := true, recurses := true, named := ["unicode/utf8.first", "unicode/utf8.acceptRanges", "internal/bytealg.MaxLen"], apart := false, laid := [("unicode/utf8.acceptRanges", laid_unicode_utf8_acceptRanges), ("unicode/utf8.first", laid_unicode_utf8_first)] }
def FnExactNewHealthSaid : Prop := fnExactNewHealthRow.holds Tryd.pinned (OpenSpec.ofChange fnExactNewHealthSpec)

/-- ITS FALSE NEIGHBOUR: 'it returns false'. Refute it at one input. -/
def fnExactNewHealthWrong : ChangeSpec := { name := "fnExactNewHealth", fn := fun _ => fun
  | [d1, d2, d3] => { results := [.lit (.bool false)], args := [d1, d2, d3] }
  | _ => none }
def FnExactNewHealthWrongFalsely : Prop := fnExactNewHealthRow.holds Tryd.pinned (OpenSpec.ofChange fnExactNewHealthWrong)

/-- 'laws.FnExactUpIn': WHATEVER THE INPUT: true; the input reads as it did. -/
def fnExactUpInSpec : ChangeSpec := { name := "fnExactUpIn", fn := fun _ => fun
  | [d] => { results := [.lit (.bool true)], args := [d] }
  | _ => none }
def fnExactUpInRow : OpenClaim := { program := "ythckpgglghfiiaadoor", sum := "5f73442f1ee87cd9bc520d5ff446e8e3d3fa406e31fa053b837f04119d878085", func := "loop.example/g00300/laws.FnExactUpIn", spec := "fnExactUpIn", inPlace := ["internal/bytealg.CountString", "internal/bytealg.IndexByteString", "internal/bytealg.IndexString"], unfollowed := true, recurses := true, named := ["unicode/utf8.first", "unicode/utf8.acceptRanges", "internal/bytealg.MaxLen"], apart := false, laid := [("unicode/utf8.acceptRanges", laid_unicode_utf8_acceptRanges), ("unicode/utf8.first", laid_unicode_utf8_first)] }
def FnExactUpInSaid : Prop := fnExactUpInRow.holds Tryd.pinned (OpenSpec.ofChange fnExactUpInSpec)

/-- ITS FALSE NEIGHBOUR: 'it returns false'. Refute it at one input. -/
def fnExactUpInWrong : ChangeSpec := { name := "fnExactUpIn", fn := fun _ => fun
  | [d] => { results := [.lit (.bool false)], args := [d] }
  | _ => none }
def FnExactUpInWrongFalsely : Prop := fnExactUpInRow.holds Tryd.pinned (OpenSpec.ofChange fnExactUpInWrong)

/-- 'laws.FnExactGoodGaps': WHATEVER THE INPUT: true; the input reads as it did. -/
def fnExactGoodGapsSpec : ChangeSpec := { name := "fnExactGoodGaps", fn := fun _ => fun
  | [d1, d2] => { results := [.lit (.bool true)], args := [d1, d2] }
  | _ => none }
def fnExactGoodGapsRow : OpenClaim := { program := "ythckpgglghfiiaadoor", sum := "5f73442f1ee87cd9bc520d5ff446e8e3d3fa406e31fa053b837f04119d878085", func := "loop.example/g00300/laws.FnExactGoodGaps", spec := "fnExactGoodGaps", inPlace := ["internal/bytealg.CountString", "internal/bytealg.IndexByteString", "internal/bytealg.IndexString"], unfollowed := true, recurses := true, named := ["unicode/utf8.first", "unicode/utf8.acceptRanges", "internal/bytealg.MaxLen"], apart := false, laid := [("unicode/utf8.acceptRanges", laid_unicode_utf8_acceptRanges), ("unicode/utf8.first", laid_unicode_utf8_first)] }
def FnExactGoodGapsSaid : Prop := fnExactGoodGapsRow.holds Tryd.pinned (OpenSpec.ofChange fnExactGoodGapsSpec)

/-- ITS FALSE NEIGHBOUR: 'it returns false'. Refute it at one input. -/
def fnExactGoodGapsWrong : ChangeSpec := { name := "fnExactGoodGaps", fn := fun _ => fun
  | [d1, d2] => { results := [.lit (.bool false)], args := [d1, d2] }
  | _ => none }
def FnExactGoodGapsWrongFalsely : Prop := fnExactGoodGapsRow.holds Tryd.pinned (OpenSpec.ofChange fnExactGoodGapsWrong)

/-- 'laws.FnExactClosestBy': WHATEVER THE INPUT: true; the input reads as it did. -/
def fnExactClosestBySpec : ChangeSpec := { name := "fnExactClosestBy", fn := fun _ => fun
  | [d1, d2] => { results := [.lit (.bool true)], args := [d1, d2] }
  | _ => none }
def fnExactClosestByRow : OpenClaim := { program := "ythckpgglghfiiaadoor", sum := "5f73442f1ee87cd9bc520d5ff446e8e3d3fa406e31fa053b837f04119d878085", func := "loop.example/g00300/laws.FnExactClosestBy", spec := "fnExactClosestBy", inPlace := ["internal/bytealg.CountString", "internal/bytealg.IndexByteString", "internal/bytealg.IndexString"], unfollowed := true, recurses := true, named := ["unicode/utf8.first", "unicode/utf8.acceptRanges", "internal/bytealg.MaxLen"], apart := false, laid := [("unicode/utf8.acceptRanges", laid_unicode_utf8_acceptRanges), ("unicode/utf8.first", laid_unicode_utf8_first)] }
def FnExactClosestBySaid : Prop := fnExactClosestByRow.holds Tryd.pinned (OpenSpec.ofChange fnExactClosestBySpec)

/-- ITS FALSE NEIGHBOUR: 'it returns false'. Refute it at one input. -/
def fnExactClosestByWrong : ChangeSpec := { name := "fnExactClosestBy", fn := fun _ => fun
  | [d1, d2] => { results := [.lit (.bool false)], args := [d1, d2] }
  | _ => none }
def FnExactClosestByWrongFalsely : Prop := fnExactClosestByRow.holds Tryd.pinned (OpenSpec.ofChange fnExactClosestByWrong)

/-- 'laws.FnExactCheckAbsent': WHATEVER THE INPUT: true; the input reads as it did. -/
def fnExactCheckAbsentSpec : ChangeSpec := { name := "fnExactCheckAbsent", fn := fun _ => fun
  | [d1, d2, d3] => { results := [.lit (.bool true)], args := [d1, d2, d3] }
  | _ => none }
def fnExactCheckAbsentRow : OpenClaim := { program := "ythckpgglghfiiaadoor", sum := "5f73442f1ee87cd9bc520d5ff446e8e3d3fa406e31fa053b837f04119d878085", func := "loop.example/g00300/laws.FnExactCheckAbsent", spec := "fnExactCheckAbsent", inPlace := ["internal/bytealg.CountString", "internal/bytealg.IndexByteString", "internal/bytealg.IndexString"], unfollowed := true, recurses := true, named := ["unicode/utf8.first", "unicode/utf8.acceptRanges", "internal/bytealg.MaxLen"], apart := false, laid := [("unicode/utf8.acceptRanges", laid_unicode_utf8_acceptRanges), ("unicode/utf8.first", laid_unicode_utf8_first)] }
def FnExactCheckAbsentSaid : Prop := fnExactCheckAbsentRow.holds Tryd.pinned (OpenSpec.ofChange fnExactCheckAbsentSpec)

/-- ITS FALSE NEIGHBOUR: 'it returns false'. Refute it at one input. -/
def fnExactCheckAbsentWrong : ChangeSpec := { name := "fnExactCheckAbsent", fn := fun _ => fun
  | [d1, d2, d3] => { results := [.lit (.bool false)], args := [d1, d2, d3] }
  | _ => none }
def FnExactCheckAbsentWrongFalsely : Prop := fnExactCheckAbsentRow.holds Tryd.pinned (OpenSpec.ofChange fnExactCheckAbsentWrong)

/-- 'laws.FnExactGapFor': WHATEVER THE INPUT: true; the input reads as it did. -/
def fnExactGapForSpec : ChangeSpec := { name := "fnExactGapFor", fn := fun _ => fun
  | [d1, d2] => { results := [.lit (.bool true)], args := [d1, d2] }
  | _ => none }
def fnExactGapForRow : OpenClaim := { program := "ythckpgglghfiiaadoor", sum := "5f73442f1ee87cd9bc520d5ff446e8e3d3fa406e31fa053b837f04119d878085", func := "loop.example/g00300/laws.FnExactGapFor", spec := "fnExactGapFor", inPlace := ["internal/bytealg.CountString", "internal/bytealg.IndexByteString", "internal/bytealg.IndexString"], unfollowed := true, recurses := true, named := ["unicode/utf8.first", "unicode/utf8.acceptRanges", "internal/bytealg.MaxLen"], apart := false, laid := [("unicode/utf8.acceptRanges", laid_unicode_utf8_acceptRanges), ("unicode/utf8.first", laid_unicode_utf8_first)] }
def FnExactGapForSaid : Prop := fnExactGapForRow.holds Tryd.pinned (OpenSpec.ofChange fnExactGapForSpec)

/-- ITS FALSE NEIGHBOUR: 'it returns false'. Refute it at one input. -/
def fnExactGapForWrong : ChangeSpec := { name := "fnExactGapFor", fn := fun _ => fun
  | [d1, d2] => { results := [.lit (.bool false)], args := [d1, d2] }
  | _ => none }
def FnExactGapForWrongFalsely : Prop := fnExactGapForRow.holds Tryd.pinned (OpenSpec.ofChange fnExactGapForWrong)

/- THE SECOND FORM. 'bulk': how many values and letters a reading holds, each counted each time it is reached (what is shared counts as often as it is met; a slice's spare places count too). A statement '..UptoSaid' is the law's where the arguments, and the package variables that the reading takes, are together of bulk at most 1048576: NARROWER than '..Said'. Prove '..Said' where nothing that the law and all that it calls make is longer than what came in: it says more and counts as full. Else prove '..UptoSaid'. A law counts once. -/
mutual
def uptoBulk {H : Type} : DataW H → Nat
  | .lit (.string bytes) => bytes.length + 1
  | .lit _ => 1
  | .nil => 1
  | .ptr d => uptoBulk d + 1
  | .slice elems spare => uptoBulkAll elems + uptoBulkAll spare + 1
  | .agg parts => uptoBulkAll parts + 1
  | .iface _ d => uptoBulk d + 1
  | .map entries => uptoBulkEntries entries + 1
  | .held _ => 1
def uptoBulkAll {H : Type} : List (DataW H) → Nat
  | [] => 0
  | d :: r => uptoBulk d + uptoBulkAll r
def uptoBulkEntries {H : Type} : List (Lit × DataW H) → Nat
  | [] => 0
  | x :: r => uptoBulkEntry x + uptoBulkEntries r
def uptoBulkEntry {H : Type} : Lit × DataW H → Nat
  | (.string bytes, d) => bytes.length + uptoBulk d + 1
  | (_, d) => uptoBulk d + 1
 end
def uptoSmall : (H : Type) → List (DataW H) → Bool := fun _ ds => decide (uptoBulkAll ds ≤ 1048576)
def OpenSpec.upto (s : _root_.Go.ChangeSpec) : _root_.Go.OpenSpec := { _root_.Go.OpenSpec.ofChange s with cond := some uptoSmall }

/-- 'laws.FnExactGoodHealth', WHERE WHAT IT READS IS OF BULK AT MOST 1048576: true; the input reads as it did. -/
def fnExactGoodHealthUptoRow : OpenClaim := { program := "ythckpgglghfiiaadoor", sum := "5f73442f1ee87cd9bc520d5ff446e8e3d3fa406e31fa053b837f04119d878085", func := "loop.example/g00300/laws.FnExactGoodHealth", spec := "fnExactGoodHealth", inPlace := ["internal/bytealg.CountString", "internal/bytealg.IndexByteString", "internal/bytealg.IndexString"], unfollowed := true, recurses := true, named := ["unicode/utf8.first", "unicode/utf8.acceptRanges", "internal/bytealg.MaxLen"], apart := false, laid := [("unicode/utf8.acceptRanges", laid_unicode_utf8_acceptRanges), ("unicode/utf8.first", laid_unicode_utf8_first)], narrowed := true }
def FnExactGoodHealthUptoSaid : Prop := fnExactGoodHealthUptoRow.holds Tryd.pinned (OpenSpec.upto fnExactGoodHealthSpec)

/-- 'laws.FnExactRowOf', WHERE WHAT IT READS IS OF BULK AT MOST 1048576: true; the input reads as it did. -/
def fnExactRowOfUptoRow : OpenClaim := { program := "ythckpgglghfiiaadoor", sum := "5f73442f1ee87cd9bc520d5ff446e8e3d3fa406e31fa053b837f04119d878085", func := "loop.example/g00300/laws.FnExactRowOf", spec := "fnExactRowOf", inPlace := ["internal/bytealg.CountString", "internal/bytealg.IndexByteString", "internal/bytealg.IndexString"], unfollowed := true, recurses := true, named := ["unicode/utf8.first", "unicode/utf8.acceptRanges", "internal/bytealg.MaxLen"], apart := false, laid := [("unicode/utf8.acceptRanges", laid_unicode_utf8_acceptRanges), ("unicode/utf8.first", laid_unicode_utf8_first)], narrowed := true }
def FnExactRowOfUptoSaid : Prop := fnExactRowOfUptoRow.holds Tryd.pinned (OpenSpec.upto fnExactRowOfSpec)

/-- 'laws.FnExactIsUp', WHERE WHAT IT READS IS OF BULK AT MOST 1048576: true; the input reads as it did. -/
def fnExactIsUpUptoRow : OpenClaim := { program := "ythckpgglghfiiaadoor", sum := "5f73442f1ee87cd9bc520d5ff446e8e3d3fa406e31fa053b837f04119d878085", func := "loop.example/g00300/laws.FnExactIsUp", spec := "fnExactIsUp", inPlace := ["internal/bytealg.CountString", "internal/bytealg.IndexByteString", "internal/bytealg.IndexString"], unfollowed := true, recurses := true, named := ["unicode/utf8.first", "unicode/utf8.acceptRanges", "internal/bytealg.MaxLen"], apart := false, laid := [("unicode/utf8.acceptRanges", laid_unicode_utf8_acceptRanges), ("unicode/utf8.first", laid_unicode_utf8_first)], narrowed := true }
def FnExactIsUpUptoSaid : Prop := fnExactIsUpUptoRow.holds Tryd.pinned (OpenSpec.upto fnExactIsUpSpec)

/-- 'laws.FnExactCovers', WHERE WHAT IT READS IS OF BULK AT MOST 1048576: true; the input reads as it did. -/
def fnExactCoversUptoRow : OpenClaim := { program := "ythckpgglghfiiaadoor", sum := "5f73442f1ee87cd9bc520d5ff446e8e3d3fa406e31fa053b837f04119d878085", func := "loop.example/g00300/laws.FnExactCovers", spec := "fnExactCovers", inPlace := ["internal/bytealg.CountString", "internal/bytealg.IndexByteString", "internal/bytealg.IndexString"], unfollowed := true, recurses := true, named := ["unicode/utf8.first", "unicode/utf8.acceptRanges", "internal/bytealg.MaxLen"], apart := false, laid := [("unicode/utf8.acceptRanges", laid_unicode_utf8_acceptRanges), ("unicode/utf8.first", laid_unicode_utf8_first)], narrowed := true }
def FnExactCoversUptoSaid : Prop := fnExactCoversUptoRow.holds Tryd.pinned (OpenSpec.upto fnExactCoversSpec)

/-- 'laws.FnExactNewHealth', WHERE WHAT IT READS IS OF BULK AT MOST 1048576: true; the input reads as it did. -/
def fnExactNewHealthUptoRow : OpenClaim := { program := "ythckpgglghfiiaadoor", sum := "5f73442f1ee87cd9bc520d5ff446e8e3d3fa406e31fa053b837f04119d878085", func := "loop.example/g00300/laws.FnExactNewHealth", spec := "fnExactNewHealth", inPlace := ["internal/bytealg.CountString", "internal/bytealg.IndexByteString", "internal/bytealg.IndexString"], unfollowed := true, recurses := true, named := ["unicode/utf8.first", "unicode/utf8.acceptRanges", "internal/bytealg.MaxLen"], apart := false, laid := [("unicode/utf8.acceptRanges", laid_unicode_utf8_acceptRanges), ("unicode/utf8.first", laid_unicode_utf8_first)], narrowed := true }
def FnExactNewHealthUptoSaid : Prop := fnExactNewHealthUptoRow.holds Tryd.pinned (OpenSpec.upto fnExactNewHealthSpec)

/-- 'laws.FnExactUpIn', WHERE WHAT IT READS IS OF BULK AT MOST 1048576: true; the input reads as it did. -/
def fnExactUpInUptoRow : OpenClaim := { program := "ythckpgglghfiiaadoor", sum := "5f73442f1ee87cd9bc520d5ff446e8e3d3fa406e31fa053b837f04119d878085", func := "loop.example/g00300/laws.FnExactUpIn", spec := "fnExactUpIn", inPlace := ["internal/bytealg.CountString", "internal/bytealg.IndexByteString", "internal/bytealg.IndexString"], unfollowed := true, recurses := true, named := ["unicode/utf8.first", "unicode/utf8.acceptRanges", "internal/bytealg.MaxLen"], apart := false, laid := [("unicode/utf8.acceptRanges", laid_unicode_utf8_acceptRanges), ("unicode/utf8.first", laid_unicode_utf8_first)], narrowed := true }
def FnExactUpInUptoSaid : Prop := fnExactUpInUptoRow.holds Tryd.pinned (OpenSpec.upto fnExactUpInSpec)

/-- 'laws.FnExactGoodGaps', WHERE WHAT IT READS IS OF BULK AT MOST 1048576: true; the input reads as it did. -/
def fnExactGoodGapsUptoRow : OpenClaim := { program := "ythckpgglghfiiaadoor", sum := "5f73442f1ee87cd9bc520d5ff446e8e3d3fa406e31fa053b837f04119d878085", func := "loop.example/g00300/laws.FnExactGoodGaps", spec := "fnExactGoodGaps", inPlace := ["internal/bytealg.CountString", "internal/bytealg.IndexByteString", "internal/bytealg.IndexString"], unfollowed := true, recurses := true, named := ["unicode/utf8.first", "unicode/utf8.acceptRanges", "internal/bytealg.MaxLen"], apart := false, laid := [("unicode/utf8.acceptRanges", laid_unicode_utf8_acceptRanges), ("unicode/utf8.first", laid_unicode_utf8_first)], narrowed := true }
def FnExactGoodGapsUptoSaid : Prop := fnExactGoodGapsUptoRow.holds Tryd.pinned (OpenSpec.upto fnExactGoodGapsSpec)

/-- 'laws.FnExactClosestBy', WHERE WHAT IT READS IS OF BULK AT MOST 1048576: true; the input reads as it did. -/
def fnExactClosestByUptoRow : OpenClaim := { program := "ythckpgglghfiiaadoor", sum := "5f73442f1ee87cd9bc520d5ff446e8e3d3fa406e31fa053b837f04119d878085", func := "loop.example/g00300/laws.FnExactClosestBy", spec := "fnExactClosestBy", inPlace := ["internal/bytealg.CountString", "internal/bytealg.IndexByteString", "internal/bytealg.IndexString"], unfollowed := true, recurses := true, named := ["unicode/utf8.first", "unicode/utf8.acceptRanges", "internal/bytealg.MaxLen"], apart := false, laid := [("unicode/utf8.acceptRanges", laid_unicode_utf8_acceptRanges), ("unicode/utf8.first", laid_unicode_utf8_first)], narrowed := true }
def FnExactClosestByUptoSaid : Prop := fnExactClosestByUptoRow.holds Tryd.pinned (OpenSpec.upto fnExactClosestBySpec)

/-- 'laws.FnExactCheckAbsent', WHERE WHAT IT READS IS OF BULK AT MOST 1048576: true; the input reads as it did. -/
def fnExactCheckAbsentUptoRow : OpenClaim := { program := "ythckpgglghfiiaadoor", sum := "5f73442f1ee87cd9bc520d5ff446e8e3d3fa406e31fa053b837f04119d878085", func := "loop.example/g00300/laws.FnExactCheckAbsent", spec := "fnExactCheckAbsent", inPlace := ["internal/bytealg.CountString", "internal/bytealg.IndexByteString", "internal/bytealg.IndexString"], unfollowed := true, recurses := true, named := ["unicode/utf8.first", "unicode/utf8.acceptRanges", "internal/bytealg.MaxLen"], apart := false, laid := [("unicode/utf8.acceptRanges", laid_unicode_utf8_acceptRanges), ("unicode/utf8.first", laid_unicode_utf8_first)], narrowed := true }
def FnExactCheckAbsentUptoSaid : Prop := fnExactCheckAbsentUptoRow.holds Tryd.pinned (OpenSpec.upto fnExactCheckAbsentSpec)

/-- 'laws.FnExactGapFor', WHERE WHAT IT READS IS OF BULK AT MOST 1048576: true; the input reads as it did. -/
def fnExactGapForUptoRow : OpenClaim := { program := "ythckpgglghfiiaadoor", sum := "5f73442f1ee87cd9bc520d5ff446e8e3d3fa406e31fa053b837f04119d878085", func := "loop.example/g00300/laws.FnExactGapFor", spec := "fnExactGapFor", inPlace := ["internal/bytealg.CountString", "internal/bytealg.IndexByteString", "internal/bytealg.IndexString"], unfollowed := true, recurses := true, named := ["unicode/utf8.first", "unicode/utf8.acceptRanges", "internal/bytealg.MaxLen"], apart := false, laid := [("unicode/utf8.acceptRanges", laid_unicode_utf8_acceptRanges), ("unicode/utf8.first", laid_unicode_utf8_first)], narrowed := true }
def FnExactGapForUptoSaid : Prop := fnExactGapForUptoRow.holds Tryd.pinned (OpenSpec.upto fnExactGapForSpec)

end Rows
end Go.Proofs.YthckpgglghfiiaaDoor
