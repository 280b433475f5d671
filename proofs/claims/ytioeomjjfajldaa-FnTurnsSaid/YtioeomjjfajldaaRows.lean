/-
  No cell of these rows narrows 'for every input' (looked for: loops, veiled, ifaces, maps, wideKeys, modest, calm, conditions, laid).
  DERIVED. THE GIVEN ROWS OF THIS SEAT. 12 by the template 'for every input the law returns true; each argument reads behind the call as it read before'; 0 by the template 'total and deterministic' (their statements: YtioeomjjfajldaaTotals.lean).
  GIVEN WITH THE SEED: the statements are not yours to turn. If you find one false, say at which input.
  Laid BY PROGRAM, IN A SANDBOX (cutbox-rows.mjs): the forced cells as the released guide's own fill.sh prints them over the translation 48160461470ea1bc… (all of the seat's roots in one cut). By AI agents, Wed Nov 11 2026. No macro, syntax, notation, axiom, sorry.
-/
import Derived.Test.YtioeomjjfajldaaChecked
import GoSem.Claim
import GoSem.ClaimJoined
import GoSem.ClaimMapViews
import Derived.JoinedTies
import Derived.KernelRfl
namespace Go.Proofs.Ytioeomjjfajldaa
/- THE CELL 'sum', in the pinned program and in every row, IS THE sha256 OF THE DUMP (.gsa) THAT YtioeomjjfajldaaProg.lean LOADS. Nothing in Lean hashes anything: it is a label: what it is worth is what the hold of that sum in a sandbox is worth. -/
noncomputable def Try.pinned : Pinned := { name := "ytioeomjjfajldaa", sum := "48160461470ea1bc02f08905bf2ab1ecd559f8645e5a167c85a8f11ef7fd315c", checked := Try.checked }
namespace Rows
def none {H : Type} : Left H := { results := [], args := [] }

/-- 'laws.FnExactGoodWeights': WHATEVER THE INPUT: true; the input reads as it did. -/
def fnExactGoodWeightsSpec : ChangeSpec := { name := "fnExactGoodWeights", fn := fun _ => fun
  | [d] => { results := [.lit (.bool true)], args := [d] }
  | _ => none }
def fnExactGoodWeightsRow : OpenClaim := { program := "ytioeomjjfajldaa", sum := "48160461470ea1bc02f08905bf2ab1ecd559f8645e5a167c85a8f11ef7fd315c", func := "loop.example/g00300/laws.FnExactGoodWeights", spec := "fnExactGoodWeights", unfollowed := true, recurses := true, apart := false }
def FnExactGoodWeightsSaid : Prop := fnExactGoodWeightsRow.holds Try.pinned (OpenSpec.ofChange fnExactGoodWeightsSpec)

/-- ITS FALSE NEIGHBOUR: 'it returns false'. Refute it at one input. -/
def fnExactGoodWeightsWrong : ChangeSpec := { name := "fnExactGoodWeights", fn := fun _ => fun
  | [d] => { results := [.lit (.bool false)], args := [d] }
  | _ => none }
def FnExactGoodWeightsWrongFalsely : Prop := fnExactGoodWeightsRow.holds Try.pinned (OpenSpec.ofChange fnExactGoodWeightsWrong)

/-- 'laws.FnExactGoodAlias': WHATEVER THE INPUT: true; the input reads as it did. -/
def fnExactGoodAliasSpec : ChangeSpec := { name := "fnExactGoodAlias", fn := fun _ => fun
  | [d] => { results := [.lit (.bool true)], args := [d] }
  | _ => none }
def fnExactGoodAliasRow : OpenClaim := { program := "ytioeomjjfajldaa", sum := "48160461470ea1bc02f08905bf2ab1ecd559f8645e5a167c85a8f11ef7fd315c", func := "loop.example/g00300/laws.FnExactGoodAlias", spec := "fnExactGoodAlias", unfollowed := true, recurses := true, apart := false }
def FnExactGoodAliasSaid : Prop := fnExactGoodAliasRow.holds Try.pinned (OpenSpec.ofChange fnExactGoodAliasSpec)

/-- ITS FALSE NEIGHBOUR: 'it returns false'. Refute it at one input. -/
def fnExactGoodAliasWrong : ChangeSpec := { name := "fnExactGoodAlias", fn := fun _ => fun
  | [d] => { results := [.lit (.bool false)], args := [d] }
  | _ => none }
def FnExactGoodAliasWrongFalsely : Prop := fnExactGoodAliasRow.holds Try.pinned (OpenSpec.ofChange fnExactGoodAliasWrong)

/-- 'laws.FnExactPickBy': WHATEVER THE INPUT: true; the input reads as it did. -/
def fnExactPickBySpec : ChangeSpec := { name := "fnExactPickBy", fn := fun _ => fun
  | [d1, d2, d3] => { results := [.lit (.bool true)], args := [d1, d2, d3] }
  | _ => none }
def fnExactPickByRow : OpenClaim := { program := "ytioeomjjfajldaa", sum := "48160461470ea1bc02f08905bf2ab1ecd559f8645e5a167c85a8f11ef7fd315c", func := "loop.example/g00300/laws.FnExactPickBy", spec := "fnExactPickBy", unfollowed := true, recurses := true, apart := false }
def FnExactPickBySaid : Prop := fnExactPickByRow.holds Try.pinned (OpenSpec.ofChange fnExactPickBySpec)

/-- ITS FALSE NEIGHBOUR: 'it returns false'. Refute it at one input. -/
def fnExactPickByWrong : ChangeSpec := { name := "fnExactPickBy", fn := fun _ => fun
  | [d1, d2, d3] => { results := [.lit (.bool false)], args := [d1, d2, d3] }
  | _ => none }
def FnExactPickByWrongFalsely : Prop := fnExactPickByRow.holds Try.pinned (OpenSpec.ofChange fnExactPickByWrong)

/-- 'laws.FnExactGoodTurn': WHATEVER THE INPUT: true; the input reads as it did. -/
def fnExactGoodTurnSpec : ChangeSpec := { name := "fnExactGoodTurn", fn := fun _ => fun
  | [d] => { results := [.lit (.bool true)], args := [d] }
  | _ => none }
def fnExactGoodTurnRow : OpenClaim := { program := "ytioeomjjfajldaa", sum := "48160461470ea1bc02f08905bf2ab1ecd559f8645e5a167c85a8f11ef7fd315c", func := "loop.example/g00300/laws.FnExactGoodTurn", spec := "fnExactGoodTurn", unfollowed := true, recurses := true, apart := false }
def FnExactGoodTurnSaid : Prop := fnExactGoodTurnRow.holds Try.pinned (OpenSpec.ofChange fnExactGoodTurnSpec)

/-- ITS FALSE NEIGHBOUR: 'it returns false'. Refute it at one input. -/
def fnExactGoodTurnWrong : ChangeSpec := { name := "fnExactGoodTurn", fn := fun _ => fun
  | [d] => { results := [.lit (.bool false)], args := [d] }
  | _ => none }
def FnExactGoodTurnWrongFalsely : Prop := fnExactGoodTurnRow.holds Try.pinned (OpenSpec.ofChange fnExactGoodTurnWrong)

/-- 'laws.FnExactNewTurn': WHATEVER THE INPUT: true; the input reads as it did. -/
def fnExactNewTurnSpec : ChangeSpec := { name := "fnExactNewTurn", fn := fun _ => fun
  | [d] => { results := [.lit (.bool true)], args := [d] }
  | _ => none }
def fnExactNewTurnRow : OpenClaim := { program := "ytioeomjjfajldaa", sum := "48160461470ea1bc02f08905bf2ab1ecd559f8645e5a167c85a8f11ef7fd315c", func := "loop.example/g00300/laws.FnExactNewTurn", spec := "fnExactNewTurn", unfollowed := true, recurses := true, apart := false }
def FnExactNewTurnSaid : Prop := fnExactNewTurnRow.holds Try.pinned (OpenSpec.ofChange fnExactNewTurnSpec)

/-- ITS FALSE NEIGHBOUR: 'it returns false'. Refute it at one input. -/
def fnExactNewTurnWrong : ChangeSpec := { name := "fnExactNewTurn", fn := fun _ => fun
  | [d] => { results := [.lit (.bool false)], args := [d] }
  | _ => none }
def FnExactNewTurnWrongFalsely : Prop := fnExactNewTurnRow.holds Try.pinned (OpenSpec.ofChange fnExactNewTurnWrong)

/-- 'laws.FnExactOftenIn': WHATEVER THE INPUT: true; the input reads as it did. -/
def fnExactOftenInSpec : ChangeSpec := { name := "fnExactOftenIn", fn := fun _ => fun
  | [d1, d2] => { results := [.lit (.bool true)], args := [d1, d2] }
  | _ => none }
def fnExactOftenInRow : OpenClaim := { program := "ytioeomjjfajldaa", sum := "48160461470ea1bc02f08905bf2ab1ecd559f8645e5a167c85a8f11ef7fd315c", func := "loop.example/g00300/laws.FnExactOftenIn", spec := "fnExactOftenIn", unfollowed := true, recurses := true, apart := false }
def FnExactOftenInSaid : Prop := fnExactOftenInRow.holds Try.pinned (OpenSpec.ofChange fnExactOftenInSpec)

/-- ITS FALSE NEIGHBOUR: 'it returns false'. Refute it at one input. -/
def fnExactOftenInWrong : ChangeSpec := { name := "fnExactOftenIn", fn := fun _ => fun
  | [d1, d2] => { results := [.lit (.bool false)], args := [d1, d2] }
  | _ => none }
def FnExactOftenInWrongFalsely : Prop := fnExactOftenInRow.holds Try.pinned (OpenSpec.ofChange fnExactOftenInWrong)

/-- 'laws.FnExactTurnsOf': WHATEVER THE INPUT: true; the input reads as it did. -/
def fnExactTurnsOfSpec : ChangeSpec := { name := "fnExactTurnsOf", fn := fun _ => fun
  | [d1, d2] => { results := [.lit (.bool true)], args := [d1, d2] }
  | _ => none }
def fnExactTurnsOfRow : OpenClaim := { program := "ytioeomjjfajldaa", sum := "48160461470ea1bc02f08905bf2ab1ecd559f8645e5a167c85a8f11ef7fd315c", func := "loop.example/g00300/laws.FnExactTurnsOf", spec := "fnExactTurnsOf", unfollowed := true, recurses := true, apart := false }
def FnExactTurnsOfSaid : Prop := fnExactTurnsOfRow.holds Try.pinned (OpenSpec.ofChange fnExactTurnsOfSpec)

/-- ITS FALSE NEIGHBOUR: 'it returns false'. Refute it at one input. -/
def fnExactTurnsOfWrong : ChangeSpec := { name := "fnExactTurnsOf", fn := fun _ => fun
  | [d1, d2] => { results := [.lit (.bool false)], args := [d1, d2] }
  | _ => none }
def FnExactTurnsOfWrongFalsely : Prop := fnExactTurnsOfRow.holds Try.pinned (OpenSpec.ofChange fnExactTurnsOfWrong)

/-- 'laws.FnExactAliasOf': WHATEVER THE INPUT: true; the input reads as it did. -/
def fnExactAliasOfSpec : ChangeSpec := { name := "fnExactAliasOf", fn := fun _ => fun
  | [d] => { results := [.lit (.bool true)], args := [d] }
  | _ => none }
def fnExactAliasOfRow : OpenClaim := { program := "ytioeomjjfajldaa", sum := "48160461470ea1bc02f08905bf2ab1ecd559f8645e5a167c85a8f11ef7fd315c", func := "loop.example/g00300/laws.FnExactAliasOf", spec := "fnExactAliasOf", unfollowed := true, recurses := true, apart := false }
def FnExactAliasOfSaid : Prop := fnExactAliasOfRow.holds Try.pinned (OpenSpec.ofChange fnExactAliasOfSpec)

/-- ITS FALSE NEIGHBOUR: 'it returns false'. Refute it at one input. -/
def fnExactAliasOfWrong : ChangeSpec := { name := "fnExactAliasOf", fn := fun _ => fun
  | [d] => { results := [.lit (.bool false)], args := [d] }
  | _ => none }
def FnExactAliasOfWrongFalsely : Prop := fnExactAliasOfRow.holds Try.pinned (OpenSpec.ofChange fnExactAliasOfWrong)

/-- 'laws.FnExactNextTurn': WHATEVER THE INPUT: true; the input reads as it did. -/
def fnExactNextTurnSpec : ChangeSpec := { name := "fnExactNextTurn", fn := fun _ => fun
  | [d] => { results := [.lit (.bool true)], args := [d] }
  | _ => none }
def fnExactNextTurnRow : OpenClaim := { program := "ytioeomjjfajldaa", sum := "48160461470ea1bc02f08905bf2ab1ecd559f8645e5a167c85a8f11ef7fd315c", func := "loop.example/g00300/laws.FnExactNextTurn", spec := "fnExactNextTurn", unfollowed := true, recurses := true, apart := false }
def FnExactNextTurnSaid : Prop := fnExactNextTurnRow.holds Try.pinned (OpenSpec.ofChange fnExactNextTurnSpec)

/-- ITS FALSE NEIGHBOUR: 'it returns false'. Refute it at one input. -/
def fnExactNextTurnWrong : ChangeSpec := { name := "fnExactNextTurn", fn := fun _ => fun
  | [d] => { results := [.lit (.bool false)], args := [d] }
  | _ => none }
def FnExactNextTurnWrongFalsely : Prop := fnExactNextTurnRow.holds Try.pinned (OpenSpec.ofChange fnExactNextTurnWrong)

/-- 'laws.FnTurns': WHATEVER THE INPUT: true; the input reads as it did. -/
def fnTurnsSpec : ChangeSpec := { name := "fnTurns", fn := fun _ => fun
  | [d1, d2] => { results := [.lit (.bool true)], args := [d1, d2] }
  | _ => none }
def fnTurnsRow : OpenClaim := { program := "ytioeomjjfajldaa", sum := "48160461470ea1bc02f08905bf2ab1ecd559f8645e5a167c85a8f11ef7fd315c", func := "loop.example/g00300/laws.FnTurns", spec := "fnTurns", unfollowed := true, recurses := true, apart := false }
def FnTurnsSaid : Prop := fnTurnsRow.holds Try.pinned (OpenSpec.ofChange fnTurnsSpec)

/-- ITS FALSE NEIGHBOUR: 'it returns false'. Refute it at one input. -/
def fnTurnsWrong : ChangeSpec := { name := "fnTurns", fn := fun _ => fun
  | [d1, d2] => { results := [.lit (.bool false)], args := [d1, d2] }
  | _ => none }
def FnTurnsWrongFalsely : Prop := fnTurnsRow.holds Try.pinned (OpenSpec.ofChange fnTurnsWrong)

/-- 'laws.FnAlias': WHATEVER THE INPUT: true; the input reads as it did. -/
def fnAliasSpec : ChangeSpec := { name := "fnAlias", fn := fun _ => fun
  | [d1, d2] => { results := [.lit (.bool true)], args := [d1, d2] }
  | _ => none }
def fnAliasRow : OpenClaim := { program := "ytioeomjjfajldaa", sum := "48160461470ea1bc02f08905bf2ab1ecd559f8645e5a167c85a8f11ef7fd315c", func := "loop.example/g00300/laws.FnAlias", spec := "fnAlias", unfollowed := true, recurses := true, apart := false }
def FnAliasSaid : Prop := fnAliasRow.holds Try.pinned (OpenSpec.ofChange fnAliasSpec)

/-- ITS FALSE NEIGHBOUR: 'it returns false'. Refute it at one input. -/
def fnAliasWrong : ChangeSpec := { name := "fnAlias", fn := fun _ => fun
  | [d1, d2] => { results := [.lit (.bool false)], args := [d1, d2] }
  | _ => none }
def FnAliasWrongFalsely : Prop := fnAliasRow.holds Try.pinned (OpenSpec.ofChange fnAliasWrong)

/-- 'laws.FnExactNewCache': WHATEVER THE INPUT: true; the input reads as it did. -/
def fnExactNewCacheSpec : ChangeSpec := { name := "fnExactNewCache", fn := fun _ => fun
  | [] => { results := [.lit (.bool true)], args := [] }
  | _ => none }
def fnExactNewCacheRow : OpenClaim := { program := "ytioeomjjfajldaa", sum := "48160461470ea1bc02f08905bf2ab1ecd559f8645e5a167c85a8f11ef7fd315c", func := "loop.example/g00300/laws.FnExactNewCache", spec := "fnExactNewCache", apart := false }
def FnExactNewCacheSaid : Prop := fnExactNewCacheRow.holds Try.pinned (OpenSpec.ofChange fnExactNewCacheSpec)

/-- ITS FALSE NEIGHBOUR: 'it returns false'. Refute it at one input. -/
def fnExactNewCacheWrong : ChangeSpec := { name := "fnExactNewCache", fn := fun _ => fun
  | [] => { results := [.lit (.bool false)], args := [] }
  | _ => none }
def FnExactNewCacheWrongFalsely : Prop := fnExactNewCacheRow.holds Try.pinned (OpenSpec.ofChange fnExactNewCacheWrong)

/- THE SECOND FORM. 'bulk': how many values and letters a reading holds, each counted each time it is reached (what is shared counts as often as it is met; a slice's spare places count too). A statement '..UptoSaid' is the law's where the arguments, and the package variables that the reading takes, are together of bulk at most 1048576: NARROWER than '..Said'. Prove '..Said' where nothing that the law and all that it calls make is longer than what came in: it says more and counts as full. Else prove '..UptoSaid'. A law counts once. -/
mutual
def uptoBulk {H : Type} : DataW H → Nat
  | .lit (.string bytes) => bytes.length + 1
  | .lit _ => 1
  | .nil => 1
  | .ptr d => uptoBulk d + 1
  | .slice elems spare => uptoBulkAll elems + uptoBulkAll spare + 1
  | .agg parts => uptoBulkAll parts + 1
  | .iface _ d => uptoBulk d + 1
  | .map entries => uptoBulkEntries entries + 1
  | .held _ => 1
def uptoBulkAll {H : Type} : List (DataW H) → Nat
  | [] => 0
  | d :: r => uptoBulk d + uptoBulkAll r
def uptoBulkEntries {H : Type} : List (Lit × DataW H) → Nat
  | [] => 0
  | x :: r => uptoBulkEntry x + uptoBulkEntries r
def uptoBulkEntry {H : Type} : Lit × DataW H → Nat
  | (.string bytes, d) => bytes.length + uptoBulk d + 1
  | (_, d) => uptoBulk d + 1
 end
def uptoSmall : (H : Type) → List (DataW H) → Bool := fun _ ds => decide (uptoBulkAll ds ≤ 1048576)
def OpenSpec.upto (s : _root_.Go.ChangeSpec) : _root_.Go.OpenSpec := { _root_.Go.OpenSpec.ofChange s with cond := some uptoSmall }

/-- 'laws.FnExactGoodWeights', WHERE WHAT IT READS IS OF BULK AT MOST 1048576: true; the input reads as it did. -/
def fnExactGoodWeightsUptoRow : OpenClaim := { program := "ytioeomjjfajldaa", sum := "48160461470ea1bc02f08905bf2ab1ecd559f8645e5a167c85a8f11ef7fd315c", func := "loop.example/g00300/laws.FnExactGoodWeights", spec := "fnExactGoodWeights", unfollowed := true, recurses := true, apart := false, narrowed := true }
def FnExactGoodWeightsUptoSaid : Prop := fnExactGoodWeightsUptoRow.holds Try.pinned (OpenSpec.upto fnExactGoodWeightsSpec)

/-- 'laws.FnExactGoodAlias', WHERE WHAT IT READS IS OF BULK AT MOST 1048576: true; the input reads as it did. -/
def fnExactGoodAliasUptoRow : OpenClaim := { program := "ytioeomjjfajldaa", sum := "48160461470ea1bc02f08905bf2ab1ecd559f8645e5a167c85a8f11ef7fd315c", func := "loop.example/g00300/laws.FnExactGoodAlias", spec := "fnExactGoodAlias", unfollowed := true, recurses := true, apart := false, narrowed := true }
def FnExactGoodAliasUptoSaid : Prop := fnExactGoodAliasUptoRow.holds Try.pinned (OpenSpec.upto fnExactGoodAliasSpec)

/-- 'laws.FnExactPickBy', WHERE WHAT IT READS IS OF BULK AT MOST 1048576: true; the input reads as it did. -/
def fnExactPickByUptoRow : OpenClaim := { program := "ytioeomjjfajldaa", sum := "48160461470ea1bc02f08905bf2ab1ecd559f8645e5a167c85a8f11ef7fd315c", func := "loop.example/g00300/laws.FnExactPickBy", spec := "fnExactPickBy", unfollowed := true, recurses := true, apart := false, narrowed := true }
def FnExactPickByUptoSaid : Prop := fnExactPickByUptoRow.holds Try.pinned (OpenSpec.upto fnExactPickBySpec)

/-- 'laws.FnExactGoodTurn', WHERE WHAT IT READS IS OF BULK AT MOST 1048576: true; the input reads as it did. -/
def fnExactGoodTurnUptoRow : OpenClaim := { program := "ytioeomjjfajldaa", sum := "48160461470ea1bc02f08905bf2ab1ecd559f8645e5a167c85a8f11ef7fd315c", func := "loop.example/g00300/laws.FnExactGoodTurn", spec := "fnExactGoodTurn", unfollowed := true, recurses := true, apart := false, narrowed := true }
def FnExactGoodTurnUptoSaid : Prop := fnExactGoodTurnUptoRow.holds Try.pinned (OpenSpec.upto fnExactGoodTurnSpec)

/-- 'laws.FnExactNewTurn', WHERE WHAT IT READS IS OF BULK AT MOST 1048576: true; the input reads as it did. -/
def fnExactNewTurnUptoRow : OpenClaim := { program := "ytioeomjjfajldaa", sum := "48160461470ea1bc02f08905bf2ab1ecd559f8645e5a167c85a8f11ef7fd315c", func := "loop.example/g00300/laws.FnExactNewTurn", spec := "fnExactNewTurn", unfollowed := true, recurses := true, apart := false, narrowed := true }
def FnExactNewTurnUptoSaid : Prop := fnExactNewTurnUptoRow.holds Try.pinned (OpenSpec.upto fnExactNewTurnSpec)

/-- 'laws.FnExactOftenIn', WHERE WHAT IT READS IS OF BULK AT MOST 1048576: true; the input reads as it did. -/
def fnExactOftenInUptoRow : OpenClaim := { program := "ytioeomjjfajldaa", sum := "48160461470ea1bc02f08905bf2ab1ecd559f8645e5a167c85a8f11ef7fd315c", func := "loop.example/g00300/laws.FnExactOftenIn", spec := "fnExactOftenIn", unfollowed := true, recurses := true, apart := false, narrowed := true }
def FnExactOftenInUptoSaid : Prop := fnExactOftenInUptoRow.holds Try.pinned (OpenSpec.upto fnExactOftenInSpec)

/-- 'laws.FnExactTurnsOf', WHERE WHAT IT READS IS OF BULK AT MOST 1048576: true; the input reads as it did. -/
def fnExactTurnsOfUptoRow : OpenClaim := { program := "ytioeomjjfajldaa", sum := "48160461470ea1bc02f08905bf2ab1ecd559f8645e5a167c85a8f11ef7fd315c", func := "loop.example/g00300/laws.FnExactTurnsOf", spec := "fnExactTurnsOf", unfollowed := true, recurses := true, apart := false, narrowed := true }
def FnExactTurnsOfUptoSaid : Prop := fnExactTurnsOfUptoRow.holds Try.pinned (OpenSpec.upto fnExactTurnsOfSpec)

/-- 'laws.FnExactAliasOf', WHERE WHAT IT READS IS OF BULK AT MOST 1048576: true; the input reads as it did. -/
def fnExactAliasOfUptoRow : OpenClaim := { program := "ytioeomjjfajldaa", sum := "48160461470ea1bc02f08905bf2ab1ecd559f8645e5a167c85a8f11ef7fd315c", func := "loop.example/g00300/laws.FnExactAliasOf", spec := "fnExactAliasOf", unfollowed := true, recurses := true, apart := false, narrowed := true }
def FnExactAliasOfUptoSaid : Prop := fnExactAliasOfUptoRow.holds Try.pinned (OpenSpec.upto fnExactAliasOfSpec)

/-- 'laws.FnExactNextTurn', WHERE WHAT IT READS IS OF BULK AT MOST 1048576: true; the input reads as it did. -/
def fnExactNextTurnUptoRow : OpenClaim := { program := "ytioeomjjfajldaa", sum := "48160461470ea1bc02f08905bf2ab1ecd559f8645e5a167c85a8f11ef7fd315c", func := "loop.example/g00300/laws.FnExactNextTurn", spec := "fnExactNextTurn", unfollowed := true, recurses := true, apart := false, narrowed := true }
def FnExactNextTurnUptoSaid : Prop := fnExactNextTurnUptoRow.holds Try.pinned (OpenSpec.upto fnExactNextTurnSpec)

/-- 'laws.FnTurns', WHERE WHAT IT READS IS OF BULK AT MOST 1048576: true; the input reads as it did. -/
def fnTurnsUptoRow : OpenClaim := { program := "ytioeomjjfajldaa", sum := "48160461470ea1bc02f08905bf2ab1ecd559f8645e5a167c85a8f11ef7fd315c", func := "loop.example/g00300/laws.FnTurns", spec := "fnTurns", unfollowed := true, recurses := true, apart := false, narrowed := true }
def FnTurnsUptoSaid : Prop := fnTurnsUptoRow.holds Try.pinned (OpenSpec.upto fnTurnsSpec)

/-- 'laws.FnAlias', WHERE WHAT IT READS IS OF BULK AT MOST 1048576: true; the input reads as it did. -/
def fnAliasUptoRow : OpenClaim := { program := "ytioeomjjfajldaa", sum := "48160461470ea1bc02f08905bf2ab1ecd559f8645e5a167c85a8f11ef7fd315c", func := "loop.example/g00300/laws.FnAlias", spec := "fnAlias", unfollowed := true, recurses := true, apart := false, narrowed := true }
def FnAliasUptoSaid : Prop := fnAliasUptoRow.holds Try.pinned (OpenSpec.upto fnAliasSpec)

/-- 'laws.FnExactNewCache', WHERE WHAT IT READS IS OF BULK AT MOST 1048576: true; the input reads as it did. -/
def fnExactNewCacheUptoRow : OpenClaim := { program := "ytioeomjjfajldaa", sum := "48160461470ea1bc02f08905bf2ab1ecd559f8645e5a167c85a8f11ef7fd315c", func := "loop.example/g00300/laws.FnExactNewCache", spec := "fnExactNewCache", apart := false, narrowed := true }
def FnExactNewCacheUptoSaid : Prop := fnExactNewCacheUptoRow.holds Try.pinned (OpenSpec.upto fnExactNewCacheSpec)

end Rows
end Go.Proofs.Ytioeomjjfajldaa
