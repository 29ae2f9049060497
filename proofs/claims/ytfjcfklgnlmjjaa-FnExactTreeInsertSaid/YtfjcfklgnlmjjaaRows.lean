/-
  No cell of these rows narrows 'for every input' (looked for: loops, veiled, ifaces, maps, wideKeys, modest, calm, conditions, laid).
  DERIVED. THE GIVEN ROWS OF THIS SEAT. 7 by the template 'for every input the law returns true; each argument reads behind the call as it read before'; 0 by the template 'total and deterministic' (their statements: YtfjcfklgnlmjjaaTotals.lean).
  GIVEN WITH THE SEED: the statements are not yours to turn. If you find one false, say at which input.
  Laid BY PROGRAM, IN A SANDBOX (cutbox-rows.mjs): the forced cells as the released guide's own fill.sh prints them over the translation 34a10889c4111d1a… (all of the seat's roots in one cut). By AI agents, Wed Nov 11 2026. No macro, syntax, notation, axiom, sorry.
-/
import Derived.Test.YtfjcfklgnlmjjaaChecked
import GoSem.Claim
import GoSem.ClaimJoined
import GoSem.ClaimMapViews
import Derived.JoinedTies
import Derived.KernelRfl
namespace Go.Proofs.Ytfjcfklgnlmjjaa
/- THE CELL 'sum', in the pinned program and in every row, IS THE sha256 OF THE DUMP (.gsa) THAT YtfjcfklgnlmjjaaProg.lean LOADS. Nothing in Lean hashes anything: it is a label: what it is worth is what the hold of that sum in a sandbox is worth. -/
noncomputable def Try.pinned : Pinned := { name := "ytfjcfklgnlmjjaa", sum := "34a10889c4111d1adacf01be93f688ed4f753abdebfeaa920311c5cfada07ea1", checked := Try.checked }
namespace Rows
def none {H : Type} : Left H := { results := [], args := [] }

/-- 'laws.FnExactTreeNew': WHATEVER THE INPUT: true; the input reads as it did. -/
def fnExactTreeNewSpec : ChangeSpec := { name := "fnExactTreeNew", fn := fun _ => fun
  | [] => { results := [.lit (.bool true)], args := [] }
  | _ => none }
def fnExactTreeNewRow : OpenClaim := { program := "ytfjcfklgnlmjjaa", sum := "34a10889c4111d1adacf01be93f688ed4f753abdebfeaa920311c5cfada07ea1", func := "loop.example/s01136/laws.FnExactTreeNew", spec := "fnExactTreeNew", unfollowed := true, recurses := true, apart := false }
def FnExactTreeNewSaid : Prop := fnExactTreeNewRow.holds Try.pinned (OpenSpec.ofChange fnExactTreeNewSpec)

/-- ITS FALSE NEIGHBOUR: 'it returns false'. Refute it at one input. -/
def fnExactTreeNewWrong : ChangeSpec := { name := "fnExactTreeNew", fn := fun _ => fun
  | [] => { results := [.lit (.bool false)], args := [] }
  | _ => none }
def FnExactTreeNewWrongFalsely : Prop := fnExactTreeNewRow.holds Try.pinned (OpenSpec.ofChange fnExactTreeNewWrong)

/-- 'laws.FnExactValidTree': WHATEVER THE INPUT: true; the input reads as it did. -/
def fnExactValidTreeSpec : ChangeSpec := { name := "fnExactValidTree", fn := fun _ => fun
  | [d] => { results := [.lit (.bool true)], args := [d] }
  | _ => none }
def fnExactValidTreeRow : OpenClaim := { program := "ytfjcfklgnlmjjaa", sum := "34a10889c4111d1adacf01be93f688ed4f753abdebfeaa920311c5cfada07ea1", func := "loop.example/s01136/laws.FnExactValidTree", spec := "fnExactValidTree", unfollowed := true, recurses := true, apart := false }
def FnExactValidTreeSaid : Prop := fnExactValidTreeRow.holds Try.pinned (OpenSpec.ofChange fnExactValidTreeSpec)

/-- ITS FALSE NEIGHBOUR: 'it returns false'. Refute it at one input. -/
def fnExactValidTreeWrong : ChangeSpec := { name := "fnExactValidTree", fn := fun _ => fun
  | [d] => { results := [.lit (.bool false)], args := [d] }
  | _ => none }
def FnExactValidTreeWrongFalsely : Prop := fnExactValidTreeRow.holds Try.pinned (OpenSpec.ofChange fnExactValidTreeWrong)

/-- 'laws.FnExactTreeRank': WHATEVER THE INPUT: true; the input reads as it did. -/
def fnExactTreeRankSpec : ChangeSpec := { name := "fnExactTreeRank", fn := fun _ => fun
  | [d1, d2] => { results := [.lit (.bool true)], args := [d1, d2] }
  | _ => none }
def fnExactTreeRankRow : OpenClaim := { program := "ytfjcfklgnlmjjaa", sum := "34a10889c4111d1adacf01be93f688ed4f753abdebfeaa920311c5cfada07ea1", func := "loop.example/s01136/laws.FnExactTreeRank", spec := "fnExactTreeRank", unfollowed := true, recurses := true, apart := false }
def FnExactTreeRankSaid : Prop := fnExactTreeRankRow.holds Try.pinned (OpenSpec.ofChange fnExactTreeRankSpec)

/-- ITS FALSE NEIGHBOUR: 'it returns false'. Refute it at one input. -/
def fnExactTreeRankWrong : ChangeSpec := { name := "fnExactTreeRank", fn := fun _ => fun
  | [d1, d2] => { results := [.lit (.bool false)], args := [d1, d2] }
  | _ => none }
def FnExactTreeRankWrongFalsely : Prop := fnExactTreeRankRow.holds Try.pinned (OpenSpec.ofChange fnExactTreeRankWrong)

/-- 'laws.FnExactTreeRange': WHATEVER THE INPUT: true; the input reads as it did. -/
def fnExactTreeRangeSpec : ChangeSpec := { name := "fnExactTreeRange", fn := fun _ => fun
  | [d1, d2, d3] => { results := [.lit (.bool true)], args := [d1, d2, d3] }
  | _ => none }
def fnExactTreeRangeRow : OpenClaim := { program := "ytfjcfklgnlmjjaa", sum := "34a10889c4111d1adacf01be93f688ed4f753abdebfeaa920311c5cfada07ea1", func := "loop.example/s01136/laws.FnExactTreeRange", spec := "fnExactTreeRange", unfollowed := true, recurses := true, apart := false }
def FnExactTreeRangeSaid : Prop := fnExactTreeRangeRow.holds Try.pinned (OpenSpec.ofChange fnExactTreeRangeSpec)

/-- ITS FALSE NEIGHBOUR: 'it returns false'. Refute it at one input. -/
def fnExactTreeRangeWrong : ChangeSpec := { name := "fnExactTreeRange", fn := fun _ => fun
  | [d1, d2, d3] => { results := [.lit (.bool false)], args := [d1, d2, d3] }
  | _ => none }
def FnExactTreeRangeWrongFalsely : Prop := fnExactTreeRangeRow.holds Try.pinned (OpenSpec.ofChange fnExactTreeRangeWrong)

/-- 'laws.FnExactTreeInsert': WHATEVER THE INPUT: true; the input reads as it did. -/
def fnExactTreeInsertSpec : ChangeSpec := { name := "fnExactTreeInsert", fn := fun _ => fun
  | [d1, d2] => { results := [.lit (.bool true)], args := [d1, d2] }
  | _ => none }
def fnExactTreeInsertRow : OpenClaim := { program := "ytfjcfklgnlmjjaa", sum := "34a10889c4111d1adacf01be93f688ed4f753abdebfeaa920311c5cfada07ea1", func := "loop.example/s01136/laws.FnExactTreeInsert", spec := "fnExactTreeInsert", inPlace := ["slices.overlaps[string]", "slices.overlaps[loop.example/s01136/impl.node]"], unfollowed := true, recurses := true, apart := false }
def FnExactTreeInsertSaid : Prop := fnExactTreeInsertRow.holds Try.pinned (OpenSpec.ofChange fnExactTreeInsertSpec)

/-- ITS FALSE NEIGHBOUR: 'it returns false'. Refute it at one input. -/
def fnExactTreeInsertWrong : ChangeSpec := { name := "fnExactTreeInsert", fn := fun _ => fun
  | [d1, d2] => { results := [.lit (.bool false)], args := [d1, d2] }
  | _ => none }
def FnExactTreeInsertWrongFalsely : Prop := fnExactTreeInsertRow.holds Try.pinned (OpenSpec.ofChange fnExactTreeInsertWrong)

/-- 'laws.FnExactTreeDelete': WHATEVER THE INPUT: true; the input reads as it did. -/
def fnExactTreeDeleteSpec : ChangeSpec := { name := "fnExactTreeDelete", fn := fun _ => fun
  | [d1, d2] => { results := [.lit (.bool true)], args := [d1, d2] }
  | _ => none }
def fnExactTreeDeleteRow : OpenClaim := { program := "ytfjcfklgnlmjjaa", sum := "34a10889c4111d1adacf01be93f688ed4f753abdebfeaa920311c5cfada07ea1", func := "loop.example/s01136/laws.FnExactTreeDelete", spec := "fnExactTreeDelete", inPlace := ["slices.overlaps[loop.example/s01136/impl.node]"], unfollowed := true, recurses := true, apart := false }
def FnExactTreeDeleteSaid : Prop := fnExactTreeDeleteRow.holds Try.pinned (OpenSpec.ofChange fnExactTreeDeleteSpec)

/-- ITS FALSE NEIGHBOUR: 'it returns false'. Refute it at one input. -/
def fnExactTreeDeleteWrong : ChangeSpec := { name := "fnExactTreeDelete", fn := fun _ => fun
  | [d1, d2] => { results := [.lit (.bool false)], args := [d1, d2] }
  | _ => none }
def FnExactTreeDeleteWrongFalsely : Prop := fnExactTreeDeleteRow.holds Try.pinned (OpenSpec.ofChange fnExactTreeDeleteWrong)

/-- 'laws.FnTree': WHATEVER THE INPUT: true; the input reads as it did. -/
def fnTreeSpec : ChangeSpec := { name := "fnTree", fn := fun _ => fun
  | [d1, d2] => { results := [.lit (.bool true)], args := [d1, d2] }
  | _ => none }
def fnTreeRow : OpenClaim := { program := "ytfjcfklgnlmjjaa", sum := "34a10889c4111d1adacf01be93f688ed4f753abdebfeaa920311c5cfada07ea1", func := "loop.example/s01136/laws.FnTree", spec := "fnTree", inPlace := ["slices.overlaps[loop.example/s01136/impl.node]", "slices.overlaps[string]"], unfollowed := true, recurses := true, apart := false }
def FnTreeSaid : Prop := fnTreeRow.holds Try.pinned (OpenSpec.ofChange fnTreeSpec)

/-- ITS FALSE NEIGHBOUR: 'it returns false'. Refute it at one input. -/
def fnTreeWrong : ChangeSpec := { name := "fnTree", fn := fun _ => fun
  | [d1, d2] => { results := [.lit (.bool false)], args := [d1, d2] }
  | _ => none }
def FnTreeWrongFalsely : Prop := fnTreeRow.holds Try.pinned (OpenSpec.ofChange fnTreeWrong)

/- THE SECOND FORM. 'bulk': how many values and letters a reading holds, each counted each time it is reached (what is shared counts as often as it is met; a slice's spare places count too). A statement '..UptoSaid' is the law's where the arguments, and the package variables that the reading takes, are together of bulk at most 1048576: NARROWER than '..Said'. Prove '..Said' where nothing that the law and all that it calls make is longer than what came in: it says more and counts as full. Else prove '..UptoSaid'. A law counts once. -/
mutual
def uptoBulk {H : Type} : DataW H → Nat
  | .lit (.string bytes) => bytes.length + 1
  | .lit _ => 1
  | .nil => 1
  | .ptr d => uptoBulk d + 1
  | .slice elems spare => uptoBulkAll elems + uptoBulkAll spare + 1
  | .agg parts => uptoBulkAll parts + 1
  | .iface _ d => uptoBulk d + 1
  | .map entries => uptoBulkEntries entries + 1
  | .held _ => 1
def uptoBulkAll {H : Type} : List (DataW H) → Nat
  | [] => 0
  | d :: r => uptoBulk d + uptoBulkAll r
def uptoBulkEntries {H : Type} : List (Lit × DataW H) → Nat
  | [] => 0
  | x :: r => uptoBulkEntry x + uptoBulkEntries r
def uptoBulkEntry {H : Type} : Lit × DataW H → Nat
  | (.string bytes, d) => bytes.length + uptoBulk d + 1
  | (_, d) => uptoBulk d + 1
 end
def uptoSmall : (H : Type) → List (DataW H) → Bool := fun _ ds => decide (uptoBulkAll ds ≤ 1048576)
def OpenSpec.upto (s : _root_.Go.ChangeSpec) : _root_.Go.OpenSpec := { _root_.Go.OpenSpec.ofChange s with cond := some uptoSmall }

/-- 'laws.FnExactTreeNew', WHERE WHAT IT READS IS OF BULK AT MOST 1048576: true; the input reads as it did. -/
def fnExactTreeNewUptoRow : OpenClaim := { program := "ytfjcfklgnlmjjaa", sum := "34a10889c4111d1adacf01be93f688ed4f753abdebfeaa920311c5cfada07ea1", func := "loop.example/s01136/laws.FnExactTreeNew", spec := "fnExactTreeNew", unfollowed := true, recurses := true, apart := false, narrowed := true }
def FnExactTreeNewUptoSaid : Prop := fnExactTreeNewUptoRow.holds Try.pinned (OpenSpec.upto fnExactTreeNewSpec)

/-- 'laws.FnExactValidTree', WHERE WHAT IT READS IS OF BULK AT MOST 1048576: true; the input reads as it did. -/
def fnExactValidTreeUptoRow : OpenClaim := { program := "ytfjcfklgnlmjjaa", sum := "34a10889c4111d1adacf01be93f688ed4f753abdebfeaa920311c5cfada07ea1", func := "loop.example/s01136/laws.FnExactValidTree", spec := "fnExactValidTree", unfollowed := true, recurses := true, apart := false, narrowed := true }
def FnExactValidTreeUptoSaid : Prop := fnExactValidTreeUptoRow.holds Try.pinned (OpenSpec.upto fnExactValidTreeSpec)

/-- 'laws.FnExactTreeRank', WHERE WHAT IT READS IS OF BULK AT MOST 1048576: true; the input reads as it did. -/
def fnExactTreeRankUptoRow : OpenClaim := { program := "ytfjcfklgnlmjjaa", sum := "34a10889c4111d1adacf01be93f688ed4f753abdebfeaa920311c5cfada07ea1", func := "loop.example/s01136/laws.FnExactTreeRank", spec := "fnExactTreeRank", unfollowed := true, recurses := true, apart := false, narrowed := true }
def FnExactTreeRankUptoSaid : Prop := fnExactTreeRankUptoRow.holds Try.pinned (OpenSpec.upto fnExactTreeRankSpec)

/-- 'laws.FnExactTreeRange', WHERE WHAT IT READS IS OF BULK AT MOST 1048576: true; the input reads as it did. -/
def fnExactTreeRangeUptoRow : OpenClaim := { program := "ytfjcfklgnlmjjaa", sum := "34a10889c4111d1adacf01be93f688ed4f753abdebfeaa920311c5cfada07ea1", func := "loop.example/s01136/laws.FnExactTreeRange", spec := "fnExactTreeRange", unfollowed := true, recurses := true, apart := false, narrowed := true }
def FnExactTreeRangeUptoSaid : Prop := fnExactTreeRangeUptoRow.holds Try.pinned (OpenSpec.upto fnExactTreeRangeSpec)

/-- 'laws.FnExactTreeInsert', WHERE WHAT IT READS IS OF BULK AT MOST 1048576: true; the input reads as it did. -/
def fnExactTreeInsertUptoRow : OpenClaim := { program := "ytfjcfklgnlmjjaa", sum := "34a10889c4111d1adacf01be93f688ed4f753abdebfeaa920311c5cfada07ea1", func := "loop.example/s01136/laws.FnExactTreeInsert", spec := "fnExactTreeInsert", inPlace := ["slices.overlaps[string]", "slices.overlaps[loop.example/s01136/impl.node]"], unfollowed := true, recurses := true, apart := false, narrowed := true }
def FnExactTreeInsertUptoSaid : Prop := fnExactTreeInsertUptoRow.holds Try.pinned (OpenSpec.upto fnExactTreeInsertSpec)

/-- 'laws.FnExactTreeDelete', WHERE WHAT IT READS IS OF BULK AT MOST 1048576: true; the input reads as it did. -/
def fnExactTreeDeleteUptoRow : OpenClaim := { program := "ytfjcfklgnlmjjaa", sum := "34a10889c4111d1adacf01be93f688ed4f753abdebfeaa920311c5cfada07ea1", func := "loop.example/s01136/laws.FnExactTreeDelete", spec := "fnExactTreeDelete", inPlace := ["slices.overlaps[loop.example/s01136/impl.node]"], unfollowed := true, recurses := true, apart := false, narrowed := true }
def FnExactTreeDeleteUptoSaid : Prop := fnExactTreeDeleteUptoRow.holds Try.pinned (OpenSpec.upto fnExactTreeDeleteSpec)

/-- 'laws.FnTree', WHERE WHAT IT READS IS OF BULK AT MOST 1048576: true; the input reads as it did. -/
def fnTreeUptoRow : OpenClaim := { program := "ytfjcfklgnlmjjaa", sum := "34a10889c4111d1adacf01be93f688ed4f753abdebfeaa920311c5cfada07ea1", func := "loop.example/s01136/laws.FnTree", spec := "fnTree", inPlace := ["slices.overlaps[loop.example/s01136/impl.node]", "slices.overlaps[string]"], unfollowed := true, recurses := true, apart := false, narrowed := true }
def FnTreeUptoSaid : Prop := fnTreeUptoRow.holds Try.pinned (OpenSpec.upto fnTreeSpec)

end Rows
end Go.Proofs.Ytfjcfklgnlmjjaa
