/-
  No cell of these rows narrows 'for every input' (looked for: loops, veiled, ifaces, maps, wideKeys, modest, calm, conditions, laid).
  DERIVED. THE GIVEN ROWS OF THIS SEAT. 4 by the template 'for every input the law returns true; each argument reads behind the call as it read before'; 0 by the template 'total and deterministic' (their statements: YthlkacpeindjlaaTotals.lean).
  GIVEN WITH THE SEED: the statements are not yours to turn. If you find one false, say at which input.
  Laid BY PROGRAM, IN A SANDBOX (cutbox-rows.mjs): the forced cells as the released guide's own fill.sh prints them over the translation 0147e9e1f252e58c… (all of the seat's roots in one cut). By AI agents, Wed Nov 11 2026. No macro, syntax, notation, axiom, sorry.
-/
import Derived.Test.YthlkacpeindjlaaChecked
import GoSem.Claim
import GoSem.ClaimJoined
import GoSem.ClaimMapViews
import Derived.JoinedTies
import Derived.KernelRfl
namespace Go.Proofs.Ythlkacpeindjlaa
/- THE CELL 'sum', in the pinned program and in every row, IS THE sha256 OF THE DUMP (.gsa) THAT YthlkacpeindjlaaProg.lean LOADS. Nothing in Lean hashes anything: it is a label: what it is worth is what the hold of that sum in a sandbox is worth. -/
noncomputable def Try.pinned : Pinned := { name := "ythlkacpeindjlaa", sum := "0147e9e1f252e58cb7fea6bf45ef6efce38cfcdd1c359a15e38eb2e942e5e88a", checked := Try.checked }
namespace Rows
def none {H : Type} : Left H := { results := [], args := [] }

/-- 'laws.FnExactValidPath': WHATEVER THE INPUT: true; the input reads as it did. -/
def fnExactValidPathSpec : ChangeSpec := { name := "fnExactValidPath", fn := fun _ => fun
  | [d] => { results := [.lit (.bool true)], args := [d] }
  | _ => none }
def fnExactValidPathRow : OpenClaim := { program := "ythlkacpeindjlaa", sum := "0147e9e1f252e58cb7fea6bf45ef6efce38cfcdd1c359a15e38eb2e942e5e88a", func := "loop.example/s01136/laws.FnExactValidPath", spec := "fnExactValidPath", unfollowed := true, recurses := true, apart := false }
def FnExactValidPathSaid : Prop := fnExactValidPathRow.holds Try.pinned (OpenSpec.ofChange fnExactValidPathSpec)

/-- ITS FALSE NEIGHBOUR: 'it returns false'. Refute it at one input. -/
def fnExactValidPathWrong : ChangeSpec := { name := "fnExactValidPath", fn := fun _ => fun
  | [d] => { results := [.lit (.bool false)], args := [d] }
  | _ => none }
def FnExactValidPathWrongFalsely : Prop := fnExactValidPathRow.holds Try.pinned (OpenSpec.ofChange fnExactValidPathWrong)

/-- 'laws.FnExactPrintPath': WHATEVER THE INPUT: true; the input reads as it did. -/
def fnExactPrintPathSpec : ChangeSpec := { name := "fnExactPrintPath", fn := fun _ => fun
  | [d] => { results := [.lit (.bool true)], args := [d] }
  | _ => none }
def fnExactPrintPathRow : OpenClaim := { program := "ythlkacpeindjlaa", sum := "0147e9e1f252e58cb7fea6bf45ef6efce38cfcdd1c359a15e38eb2e942e5e88a", func := "loop.example/s01136/laws.FnExactPrintPath", spec := "fnExactPrintPath", unfollowed := true, recurses := true, apart := false }
def FnExactPrintPathSaid : Prop := fnExactPrintPathRow.holds Try.pinned (OpenSpec.ofChange fnExactPrintPathSpec)

/-- ITS FALSE NEIGHBOUR: 'it returns false'. Refute it at one input. -/
def fnExactPrintPathWrong : ChangeSpec := { name := "fnExactPrintPath", fn := fun _ => fun
  | [d] => { results := [.lit (.bool false)], args := [d] }
  | _ => none }
def FnExactPrintPathWrongFalsely : Prop := fnExactPrintPathRow.holds Try.pinned (OpenSpec.ofChange fnExactPrintPathWrong)

/-- 'laws.FnExactMeaning': WHATEVER THE INPUT: true; the input reads as it did. -/
def fnExactMeaningSpec : ChangeSpec := { name := "fnExactMeaning", fn := fun _ => fun
  | [d1, d2] => { results := [.lit (.bool true)], args := [d1, d2] }
  | _ => none }
def fnExactMeaningRow : OpenClaim := { program := "ythlkacpeindjlaa", sum := "0147e9e1f252e58cb7fea6bf45ef6efce38cfcdd1c359a15e38eb2e942e5e88a", func := "loop.example/s01136/laws.FnExactMeaning", spec := "fnExactMeaning", unfollowed := true, recurses := true, apart := false }
def FnExactMeaningSaid : Prop := fnExactMeaningRow.holds Try.pinned (OpenSpec.ofChange fnExactMeaningSpec)

/-- ITS FALSE NEIGHBOUR: 'it returns false'. Refute it at one input. -/
def fnExactMeaningWrong : ChangeSpec := { name := "fnExactMeaning", fn := fun _ => fun
  | [d1, d2] => { results := [.lit (.bool false)], args := [d1, d2] }
  | _ => none }
def FnExactMeaningWrongFalsely : Prop := fnExactMeaningRow.holds Try.pinned (OpenSpec.ofChange fnExactMeaningWrong)

/-- 'laws.FnAlgebra': WHATEVER THE INPUT: true; the input reads as it did. -/
def fnAlgebraSpec : ChangeSpec := { name := "fnAlgebra", fn := fun _ => fun
  | [d1, d2] => { results := [.lit (.bool true)], args := [d1, d2] }
  | _ => none }
def fnAlgebraRow : OpenClaim := { program := "ythlkacpeindjlaa", sum := "0147e9e1f252e58cb7fea6bf45ef6efce38cfcdd1c359a15e38eb2e942e5e88a", func := "loop.example/s01136/laws.FnAlgebra", spec := "fnAlgebra", unfollowed := true, recurses := true, apart := false }
def FnAlgebraSaid : Prop := fnAlgebraRow.holds Try.pinned (OpenSpec.ofChange fnAlgebraSpec)

/-- ITS FALSE NEIGHBOUR: 'it returns false'. Refute it at one input. -/
def fnAlgebraWrong : ChangeSpec := { name := "fnAlgebra", fn := fun _ => fun
  | [d1, d2] => { results := [.lit (.bool false)], args := [d1, d2] }
  | _ => none }
def FnAlgebraWrongFalsely : Prop := fnAlgebraRow.holds Try.pinned (OpenSpec.ofChange fnAlgebraWrong)

/- THE SECOND FORM. 'bulk': how many values and letters a reading holds, each counted each time it is reached (what is shared counts as often as it is met; a slice's spare places count too). A statement '..UptoSaid' is the law's where the arguments, and the package variables that the reading takes, are together of bulk at most 1048576: NARROWER than '..Said'. Prove '..Said' where nothing that the law and all that it calls make is longer than what came in: it says more and counts as full. Else prove '..UptoSaid'. A law counts once. -/
mutual
def uptoBulk {H : Type} : DataW H → Nat
  | .lit (.string bytes) => bytes.length + 1
  | .lit _ => 1
  | .nil => 1
  | .ptr d => uptoBulk d + 1
  | .slice elems spare => uptoBulkAll elems + uptoBulkAll spare + 1
  | .agg parts => uptoBulkAll parts + 1
  | .iface _ d => uptoBulk d + 1
  | .map entries => uptoBulkEntries entries + 1
  | .held _ => 1
def uptoBulkAll {H : Type} : List (DataW H) → Nat
  | [] => 0
  | d :: r => uptoBulk d + uptoBulkAll r
def uptoBulkEntries {H : Type} : List (Lit × DataW H) → Nat
  | [] => 0
  | x :: r => uptoBulkEntry x + uptoBulkEntries r
def uptoBulkEntry {H : Type} : Lit × DataW H → Nat
  | (.string bytes, d) => bytes.length + uptoBulk d + 1
  | (_, d) => uptoBulk d + 1
 end
def uptoSmall : (H : Type) → List (DataW H) → Bool := fun _ ds => decide (uptoBulkAll ds ≤ 1048576)
def OpenSpec.upto (s : _root_.Go.ChangeSpec) : _root_.Go.OpenSpec := { _root_.Go.OpenSpec.ofChange s with cond := some uptoSmall }

/-- 'laws.FnExactValidPath', WHERE WHAT IT READS IS OF BULK AT MOST 1048576: true; the input reads as it did. -/
def fnExactValidPathUptoRow : OpenClaim := { program := "ythlkacpeindjlaa", sum := "0147e9e1f252e58cb7fea6bf45ef6efce38cfcdd1c359a15e38eb2e942e5e88a", func := "loop.example/s01136/laws.FnExactValidPath", spec := "fnExactValidPath", unfollowed := true, recurses := true, apart := false, narrowed := true }
def FnExactValidPathUptoSaid : Prop := fnExactValidPathUptoRow.holds Try.pinned (OpenSpec.upto fnExactValidPathSpec)

/-- 'laws.FnExactPrintPath', WHERE WHAT IT READS IS OF BULK AT MOST 1048576: true; the input reads as it did. -/
def fnExactPrintPathUptoRow : OpenClaim := { program := "ythlkacpeindjlaa", sum := "0147e9e1f252e58cb7fea6bf45ef6efce38cfcdd1c359a15e38eb2e942e5e88a", func := "loop.example/s01136/laws.FnExactPrintPath", spec := "fnExactPrintPath", unfollowed := true, recurses := true, apart := false, narrowed := true }
def FnExactPrintPathUptoSaid : Prop := fnExactPrintPathUptoRow.holds Try.pinned (OpenSpec.upto fnExactPrintPathSpec)

/-- 'laws.FnExactMeaning', WHERE WHAT IT READS IS OF BULK AT MOST 1048576: true; the input reads as it did. -/
def fnExactMeaningUptoRow : OpenClaim := { program := "ythlkacpeindjlaa", sum := "0147e9e1f252e58cb7fea6bf45ef6efce38cfcdd1c359a15e38eb2e942e5e88a", func := "loop.example/s01136/laws.FnExactMeaning", spec := "fnExactMeaning", unfollowed := true, recurses := true, apart := false, narrowed := true }
def FnExactMeaningUptoSaid : Prop := fnExactMeaningUptoRow.holds Try.pinned (OpenSpec.upto fnExactMeaningSpec)

/-- 'laws.FnAlgebra', WHERE WHAT IT READS IS OF BULK AT MOST 1048576: true; the input reads as it did. -/
def fnAlgebraUptoRow : OpenClaim := { program := "ythlkacpeindjlaa", sum := "0147e9e1f252e58cb7fea6bf45ef6efce38cfcdd1c359a15e38eb2e942e5e88a", func := "loop.example/s01136/laws.FnAlgebra", spec := "fnAlgebra", unfollowed := true, recurses := true, apart := false, narrowed := true }
def FnAlgebraUptoSaid : Prop := fnAlgebraUptoRow.holds Try.pinned (OpenSpec.upto fnAlgebraSpec)

end Rows
end Go.Proofs.Ythlkacpeindjlaa
