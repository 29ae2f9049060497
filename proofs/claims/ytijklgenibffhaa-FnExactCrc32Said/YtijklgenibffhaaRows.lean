/-
  No cell of these rows narrows 'for every input' (looked for: loops, veiled, ifaces, maps, wideKeys, modest, calm, conditions, laid).
  DERIVED. THE GIVEN ROWS OF THIS SEAT. 5 by the template 'for every input the law returns true; each argument reads behind the call as it read before'; 0 by the template 'total and deterministic' (their statements: YtijklgenibffhaaTotals.lean).
  GIVEN WITH THE SEED: the statements are not yours to turn. If you find one false, say at which input.
  Laid BY PROGRAM, IN A SANDBOX (cutbox-rows.mjs): the forced cells as the released guide's own fill.sh prints them over the translation 29a0e748bcd45024… (all of the seat's roots in one cut). By AI agents, Wed Nov 11 2026. No macro, syntax, notation, axiom, sorry.
-/
import Derived.Test.YtijklgenibffhaaChecked
import GoSem.Claim
import GoSem.ClaimJoined
import GoSem.ClaimMapViews
import Derived.JoinedTies
import Derived.KernelRfl
namespace Go.Proofs.Ytijklgenibffhaa
/- THE CELL 'sum', in the pinned program and in every row, IS THE sha256 OF THE DUMP (.gsa) THAT YtijklgenibffhaaProg.lean LOADS. Nothing in Lean hashes anything: it is a label: what it is worth is what the hold of that sum in a sandbox is worth. -/
noncomputable def Try.pinned : Pinned := { name := "ytijklgenibffhaa", sum := "29a0e748bcd45024abdacfa19de90f80a2a079e76e32cf2153921b318d7b282e", checked := Try.checked }
namespace Rows
def none {H : Type} : Left H := { results := [], args := [] }

/-- 'laws.FnExactConstants': WHATEVER THE INPUT: true; the input reads as it did. -/
def fnExactConstantsSpec : ChangeSpec := { name := "fnExactConstants", fn := fun _ => fun
  | [] => { results := [.lit (.bool true)], args := [] }
  | _ => none }
def fnExactConstantsRow : OpenClaim := { program := "ytijklgenibffhaa", sum := "29a0e748bcd45024abdacfa19de90f80a2a079e76e32cf2153921b318d7b282e", func := "loop.example/s01136/laws.FnExactConstants", spec := "fnExactConstants", apart := false }
def FnExactConstantsSaid : Prop := fnExactConstantsRow.holds Try.pinned (OpenSpec.ofChange fnExactConstantsSpec)

/-- ITS FALSE NEIGHBOUR: 'it returns false'. Refute it at one input. -/
def fnExactConstantsWrong : ChangeSpec := { name := "fnExactConstants", fn := fun _ => fun
  | [] => { results := [.lit (.bool false)], args := [] }
  | _ => none }
def FnExactConstantsWrongFalsely : Prop := fnExactConstantsRow.holds Try.pinned (OpenSpec.ofChange fnExactConstantsWrong)

/-- 'laws.FnExactRecSectors': WHATEVER THE INPUT: true; the input reads as it did. -/
def fnExactRecSectorsSpec : ChangeSpec := { name := "fnExactRecSectors", fn := fun _ => fun
  | [d] => { results := [.lit (.bool true)], args := [d] }
  | _ => none }
def fnExactRecSectorsRow : OpenClaim := { program := "ytijklgenibffhaa", sum := "29a0e748bcd45024abdacfa19de90f80a2a079e76e32cf2153921b318d7b282e", func := "loop.example/s01136/laws.FnExactRecSectors", spec := "fnExactRecSectors", apart := false }
def FnExactRecSectorsSaid : Prop := fnExactRecSectorsRow.holds Try.pinned (OpenSpec.ofChange fnExactRecSectorsSpec)

/-- ITS FALSE NEIGHBOUR: 'it returns false'. Refute it at one input. -/
def fnExactRecSectorsWrong : ChangeSpec := { name := "fnExactRecSectors", fn := fun _ => fun
  | [d] => { results := [.lit (.bool false)], args := [d] }
  | _ => none }
def FnExactRecSectorsWrongFalsely : Prop := fnExactRecSectorsRow.holds Try.pinned (OpenSpec.ofChange fnExactRecSectorsWrong)

/-- 'laws.FnExactCrc32': WHATEVER THE INPUT: true; the input reads as it did. -/
def fnExactCrc32Spec : ChangeSpec := { name := "fnExactCrc32", fn := fun _ => fun
  | [d] => { results := [.lit (.bool true)], args := [d] }
  | _ => none }
def fnExactCrc32Row : OpenClaim := { program := "ytijklgenibffhaa", sum := "29a0e748bcd45024abdacfa19de90f80a2a079e76e32cf2153921b318d7b282e", func := "loop.example/s01136/laws.FnExactCrc32", spec := "fnExactCrc32", apart := false }
def FnExactCrc32Said : Prop := fnExactCrc32Row.holds Try.pinned (OpenSpec.ofChange fnExactCrc32Spec)

/-- ITS FALSE NEIGHBOUR: 'it returns false'. Refute it at one input. -/
def fnExactCrc32Wrong : ChangeSpec := { name := "fnExactCrc32", fn := fun _ => fun
  | [d] => { results := [.lit (.bool false)], args := [d] }
  | _ => none }
def FnExactCrc32WrongFalsely : Prop := fnExactCrc32Row.holds Try.pinned (OpenSpec.ofChange fnExactCrc32Wrong)

/-- 'laws.FnExactDictNew': WHATEVER THE INPUT: true; the input reads as it did. -/
def fnExactDictNewSpec : ChangeSpec := { name := "fnExactDictNew", fn := fun _ => fun
  | [] => { results := [.lit (.bool true)], args := [] }
  | _ => none }
def fnExactDictNewRow : OpenClaim := { program := "ytijklgenibffhaa", sum := "29a0e748bcd45024abdacfa19de90f80a2a079e76e32cf2153921b318d7b282e", func := "loop.example/s01136/laws.FnExactDictNew", spec := "fnExactDictNew", apart := false }
def FnExactDictNewSaid : Prop := fnExactDictNewRow.holds Try.pinned (OpenSpec.ofChange fnExactDictNewSpec)

/-- ITS FALSE NEIGHBOUR: 'it returns false'. Refute it at one input. -/
def fnExactDictNewWrong : ChangeSpec := { name := "fnExactDictNew", fn := fun _ => fun
  | [] => { results := [.lit (.bool false)], args := [] }
  | _ => none }
def FnExactDictNewWrongFalsely : Prop := fnExactDictNewRow.holds Try.pinned (OpenSpec.ofChange fnExactDictNewWrong)

/-- 'laws.FnExactValidDict': WHATEVER THE INPUT: true; the input reads as it did. -/
def fnExactValidDictSpec : ChangeSpec := { name := "fnExactValidDict", fn := fun _ => fun
  | [d] => { results := [.lit (.bool true)], args := [d] }
  | _ => none }
def fnExactValidDictRow : OpenClaim := { program := "ytijklgenibffhaa", sum := "29a0e748bcd45024abdacfa19de90f80a2a079e76e32cf2153921b318d7b282e", func := "loop.example/s01136/laws.FnExactValidDict", spec := "fnExactValidDict", apart := false }
def FnExactValidDictSaid : Prop := fnExactValidDictRow.holds Try.pinned (OpenSpec.ofChange fnExactValidDictSpec)

/-- ITS FALSE NEIGHBOUR: 'it returns false'. Refute it at one input. -/
def fnExactValidDictWrong : ChangeSpec := { name := "fnExactValidDict", fn := fun _ => fun
  | [d] => { results := [.lit (.bool false)], args := [d] }
  | _ => none }
def FnExactValidDictWrongFalsely : Prop := fnExactValidDictRow.holds Try.pinned (OpenSpec.ofChange fnExactValidDictWrong)

/- THE SECOND FORM. 'bulk': how many values and letters a reading holds, each counted each time it is reached (what is shared counts as often as it is met; a slice's spare places count too). A statement '..UptoSaid' is the law's where the arguments, and the package variables that the reading takes, are together of bulk at most 1048576: NARROWER than '..Said'. Prove '..Said' where nothing that the law and all that it calls make is longer than what came in: it says more and counts as full. Else prove '..UptoSaid'. A law counts once. -/
mutual
def uptoBulk {H : Type} : DataW H → Nat
  | .lit (.string bytes) => bytes.length + 1
  | .lit _ => 1
  | .nil => 1
  | .ptr d => uptoBulk d + 1
  | .slice elems spare => uptoBulkAll elems + uptoBulkAll spare + 1
  | .agg parts => uptoBulkAll parts + 1
  | .iface _ d => uptoBulk d + 1
  | .map entries => uptoBulkEntries entries + 1
  | .held _ => 1
def uptoBulkAll {H : Type} : List (DataW H) → Nat
  | [] => 0
  | d :: r => uptoBulk d + uptoBulkAll r
def uptoBulkEntries {H : Type} : List (Lit × DataW H) → Nat
  | [] => 0
  | x :: r => uptoBulkEntry x + uptoBulkEntries r
def uptoBulkEntry {H : Type} : Lit × DataW H → Nat
  | (.string bytes, d) => bytes.length + uptoBulk d + 1
  | (_, d) => uptoBulk d + 1
 end
def uptoSmall : (H : Type) → List (DataW H) → Bool := fun _ ds => decide (uptoBulkAll ds ≤ 1048576)
def OpenSpec.upto (s : _root_.Go.ChangeSpec) : _root_.Go.OpenSpec := { _root_.Go.OpenSpec.ofChange s with cond := some uptoSmall }

/-- 'laws.FnExactConstants', WHERE WHAT IT READS IS OF BULK AT MOST 1048576: true; the input reads as it did. -/
def fnExactConstantsUptoRow : OpenClaim := { program := "ytijklgenibffhaa", sum := "29a0e748bcd45024abdacfa19de90f80a2a079e76e32cf2153921b318d7b282e", func := "loop.example/s01136/laws.FnExactConstants", spec := "fnExactConstants", apart := false, narrowed := true }
def FnExactConstantsUptoSaid : Prop := fnExactConstantsUptoRow.holds Try.pinned (OpenSpec.upto fnExactConstantsSpec)

/-- 'laws.FnExactRecSectors', WHERE WHAT IT READS IS OF BULK AT MOST 1048576: true; the input reads as it did. -/
def fnExactRecSectorsUptoRow : OpenClaim := { program := "ytijklgenibffhaa", sum := "29a0e748bcd45024abdacfa19de90f80a2a079e76e32cf2153921b318d7b282e", func := "loop.example/s01136/laws.FnExactRecSectors", spec := "fnExactRecSectors", apart := false, narrowed := true }
def FnExactRecSectorsUptoSaid : Prop := fnExactRecSectorsUptoRow.holds Try.pinned (OpenSpec.upto fnExactRecSectorsSpec)

/-- 'laws.FnExactCrc32', WHERE WHAT IT READS IS OF BULK AT MOST 1048576: true; the input reads as it did. -/
def fnExactCrc32UptoRow : OpenClaim := { program := "ytijklgenibffhaa", sum := "29a0e748bcd45024abdacfa19de90f80a2a079e76e32cf2153921b318d7b282e", func := "loop.example/s01136/laws.FnExactCrc32", spec := "fnExactCrc32", apart := false, narrowed := true }
def FnExactCrc32UptoSaid : Prop := fnExactCrc32UptoRow.holds Try.pinned (OpenSpec.upto fnExactCrc32Spec)

/-- 'laws.FnExactDictNew', WHERE WHAT IT READS IS OF BULK AT MOST 1048576: true; the input reads as it did. -/
def fnExactDictNewUptoRow : OpenClaim := { program := "ytijklgenibffhaa", sum := "29a0e748bcd45024abdacfa19de90f80a2a079e76e32cf2153921b318d7b282e", func := "loop.example/s01136/laws.FnExactDictNew", spec := "fnExactDictNew", apart := false, narrowed := true }
def FnExactDictNewUptoSaid : Prop := fnExactDictNewUptoRow.holds Try.pinned (OpenSpec.upto fnExactDictNewSpec)

/-- 'laws.FnExactValidDict', WHERE WHAT IT READS IS OF BULK AT MOST 1048576: true; the input reads as it did. -/
def fnExactValidDictUptoRow : OpenClaim := { program := "ytijklgenibffhaa", sum := "29a0e748bcd45024abdacfa19de90f80a2a079e76e32cf2153921b318d7b282e", func := "loop.example/s01136/laws.FnExactValidDict", spec := "fnExactValidDict", apart := false, narrowed := true }
def FnExactValidDictUptoSaid : Prop := fnExactValidDictUptoRow.holds Try.pinned (OpenSpec.upto fnExactValidDictSpec)

end Rows
end Go.Proofs.Ytijklgenibffhaa
