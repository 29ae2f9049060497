/-
  No cell of these rows narrows 'for every input' (looked for: loops, veiled, ifaces, maps, wideKeys, modest, calm, conditions, laid).
  DERIVED. THE GIVEN ROWS OF THIS SEAT. 6 by the template 'for every input the law returns true; each argument reads behind the call as it read before'; 0 by the template 'total and deterministic' (their statements: YtneapgdfeegmgaaTotals.lean).
  GIVEN WITH THE SEED: the statements are not yours to turn. If you find one false, say at which input.
  Laid BY PROGRAM, IN A SANDBOX (cutbox-rows.mjs): the forced cells as the released guide's own fill.sh prints them over the translation 46cecdbb840a1705… (all of the seat's roots in one cut). By AI agents, Wed Nov 11 2026. No macro, syntax, notation, axiom, sorry.
-/
import Derived.Test.YtneapgdfeegmgaaChecked
import GoSem.Claim
import GoSem.ClaimJoined
import GoSem.ClaimMapViews
import Derived.JoinedTies
import Derived.KernelRfl
namespace Go.Proofs.Ytneapgdfeegmgaa
/- THE CELL 'sum', in the pinned program and in every row, IS THE sha256 OF THE DUMP (.gsa) THAT YtneapgdfeegmgaaProg.lean LOADS. Nothing in Lean hashes anything: it is a label: what it is worth is what the hold of that sum in a sandbox is worth. -/
noncomputable def Try.pinned : Pinned := { name := "ytneapgdfeegmgaa", sum := "46cecdbb840a1705e5af2c1a037f9b08c42f985c73ab1279c08038251a7e7ffc", checked := Try.checked }
namespace Rows
def none {H : Type} : Left H := { results := [], args := [] }

/-- 'laws.FnExactValidDict': WHATEVER THE INPUT: true; the input reads as it did. -/
def fnExactValidDictSpec : ChangeSpec := { name := "fnExactValidDict", fn := fun _ => fun
  | [d] => { results := [.lit (.bool true)], args := [d] }
  | _ => none }
def fnExactValidDictRow : OpenClaim := { program := "ytneapgdfeegmgaa", sum := "46cecdbb840a1705e5af2c1a037f9b08c42f985c73ab1279c08038251a7e7ffc", func := "loop.example/s01136/laws.FnExactValidDict", spec := "fnExactValidDict", apart := false }
def FnExactValidDictSaid : Prop := fnExactValidDictRow.holds Try.pinned (OpenSpec.ofChange fnExactValidDictSpec)

/-- ITS FALSE NEIGHBOUR: 'it returns false'. Refute it at one input. -/
def fnExactValidDictWrong : ChangeSpec := { name := "fnExactValidDict", fn := fun _ => fun
  | [d] => { results := [.lit (.bool false)], args := [d] }
  | _ => none }
def FnExactValidDictWrongFalsely : Prop := fnExactValidDictRow.holds Try.pinned (OpenSpec.ofChange fnExactValidDictWrong)

/-- 'laws.FnExactTermText': WHATEVER THE INPUT: true; the input reads as it did. -/
def fnExactTermTextSpec : ChangeSpec := { name := "fnExactTermText", fn := fun _ => fun
  | [d1, d2] => { results := [.lit (.bool true)], args := [d1, d2] }
  | _ => none }
def fnExactTermTextRow : OpenClaim := { program := "ytneapgdfeegmgaa", sum := "46cecdbb840a1705e5af2c1a037f9b08c42f985c73ab1279c08038251a7e7ffc", func := "loop.example/s01136/laws.FnExactTermText", spec := "fnExactTermText", apart := false }
def FnExactTermTextSaid : Prop := fnExactTermTextRow.holds Try.pinned (OpenSpec.ofChange fnExactTermTextSpec)

/-- ITS FALSE NEIGHBOUR: 'it returns false'. Refute it at one input. -/
def fnExactTermTextWrong : ChangeSpec := { name := "fnExactTermText", fn := fun _ => fun
  | [d1, d2] => { results := [.lit (.bool false)], args := [d1, d2] }
  | _ => none }
def FnExactTermTextWrongFalsely : Prop := fnExactTermTextRow.holds Try.pinned (OpenSpec.ofChange fnExactTermTextWrong)

/-- 'laws.FnExactTermId': WHATEVER THE INPUT: true; the input reads as it did. -/
def fnExactTermIdSpec : ChangeSpec := { name := "fnExactTermId", fn := fun _ => fun
  | [d1, d2] => { results := [.lit (.bool true)], args := [d1, d2] }
  | _ => none }
def fnExactTermIdRow : OpenClaim := { program := "ytneapgdfeegmgaa", sum := "46cecdbb840a1705e5af2c1a037f9b08c42f985c73ab1279c08038251a7e7ffc", func := "loop.example/s01136/laws.FnExactTermId", spec := "fnExactTermId", apart := false }
def FnExactTermIdSaid : Prop := fnExactTermIdRow.holds Try.pinned (OpenSpec.ofChange fnExactTermIdSpec)

/-- ITS FALSE NEIGHBOUR: 'it returns false'. Refute it at one input. -/
def fnExactTermIdWrong : ChangeSpec := { name := "fnExactTermId", fn := fun _ => fun
  | [d1, d2] => { results := [.lit (.bool false)], args := [d1, d2] }
  | _ => none }
def FnExactTermIdWrongFalsely : Prop := fnExactTermIdRow.holds Try.pinned (OpenSpec.ofChange fnExactTermIdWrong)

/-- 'laws.FnExactIntern': WHATEVER THE INPUT: true; the input reads as it did. -/
def fnExactInternSpec : ChangeSpec := { name := "fnExactIntern", fn := fun _ => fun
  | [d1, d2] => { results := [.lit (.bool true)], args := [d1, d2] }
  | _ => none }
def fnExactInternRow : OpenClaim := { program := "ytneapgdfeegmgaa", sum := "46cecdbb840a1705e5af2c1a037f9b08c42f985c73ab1279c08038251a7e7ffc", func := "loop.example/s01136/laws.FnExactIntern", spec := "fnExactIntern", unfollowed := true, recurses := true, apart := false }
def FnExactInternSaid : Prop := fnExactInternRow.holds Try.pinned (OpenSpec.ofChange fnExactInternSpec)

/-- ITS FALSE NEIGHBOUR: 'it returns false'. Refute it at one input. -/
def fnExactInternWrong : ChangeSpec := { name := "fnExactIntern", fn := fun _ => fun
  | [d1, d2] => { results := [.lit (.bool false)], args := [d1, d2] }
  | _ => none }
def FnExactInternWrongFalsely : Prop := fnExactInternRow.holds Try.pinned (OpenSpec.ofChange fnExactInternWrong)

/-- 'laws.FnExactRelease': WHATEVER THE INPUT: true; the input reads as it did. -/
def fnExactReleaseSpec : ChangeSpec := { name := "fnExactRelease", fn := fun _ => fun
  | [d1, d2] => { results := [.lit (.bool true)], args := [d1, d2] }
  | _ => none }
def fnExactReleaseRow : OpenClaim := { program := "ytneapgdfeegmgaa", sum := "46cecdbb840a1705e5af2c1a037f9b08c42f985c73ab1279c08038251a7e7ffc", func := "loop.example/s01136/laws.FnExactRelease", spec := "fnExactRelease", unfollowed := true, recurses := true, apart := false }
def FnExactReleaseSaid : Prop := fnExactReleaseRow.holds Try.pinned (OpenSpec.ofChange fnExactReleaseSpec)

/-- ITS FALSE NEIGHBOUR: 'it returns false'. Refute it at one input. -/
def fnExactReleaseWrong : ChangeSpec := { name := "fnExactRelease", fn := fun _ => fun
  | [d1, d2] => { results := [.lit (.bool false)], args := [d1, d2] }
  | _ => none }
def FnExactReleaseWrongFalsely : Prop := fnExactReleaseRow.holds Try.pinned (OpenSpec.ofChange fnExactReleaseWrong)

/-- 'laws.FnDict': WHATEVER THE INPUT: true; the input reads as it did. -/
def fnDictSpec : ChangeSpec := { name := "fnDict", fn := fun _ => fun
  | [d] => { results := [.lit (.bool true)], args := [d] }
  | _ => none }
def fnDictRow : OpenClaim := { program := "ytneapgdfeegmgaa", sum := "46cecdbb840a1705e5af2c1a037f9b08c42f985c73ab1279c08038251a7e7ffc", func := "loop.example/s01136/laws.FnDict", spec := "fnDict", unfollowed := true, recurses := true, apart := false }
def FnDictSaid : Prop := fnDictRow.holds Try.pinned (OpenSpec.ofChange fnDictSpec)

/-- ITS FALSE NEIGHBOUR: 'it returns false'. Refute it at one input. -/
def fnDictWrong : ChangeSpec := { name := "fnDict", fn := fun _ => fun
  | [d] => { results := [.lit (.bool false)], args := [d] }
  | _ => none }
def FnDictWrongFalsely : Prop := fnDictRow.holds Try.pinned (OpenSpec.ofChange fnDictWrong)

/- THE SECOND FORM. 'bulk': how many values and letters a reading holds, each counted each time it is reached (what is shared counts as often as it is met; a slice's spare places count too). A statement '..UptoSaid' is the law's where the arguments, and the package variables that the reading takes, are together of bulk at most 1048576: NARROWER than '..Said'. Prove '..Said' where nothing that the law and all that it calls make is longer than what came in: it says more and counts as full. Else prove '..UptoSaid'. A law counts once. -/
mutual
def uptoBulk {H : Type} : DataW H → Nat
  | .lit (.string bytes) => bytes.length + 1
  | .lit _ => 1
  | .nil => 1
  | .ptr d => uptoBulk d + 1
  | .slice elems spare => uptoBulkAll elems + uptoBulkAll spare + 1
  | .agg parts => uptoBulkAll parts + 1
  | .iface _ d => uptoBulk d + 1
  | .map entries => uptoBulkEntries entries + 1
  | .held _ => 1
def uptoBulkAll {H : Type} : List (DataW H) → Nat
  | [] => 0
  | d :: r => uptoBulk d + uptoBulkAll r
def uptoBulkEntries {H : Type} : List (Lit × DataW H) → Nat
  | [] => 0
  | x :: r => uptoBulkEntry x + uptoBulkEntries r
def uptoBulkEntry {H : Type} : Lit × DataW H → Nat
  | (.string bytes, d) => bytes.length + uptoBulk d + 1
  | (_, d) => uptoBulk d + 1
 end
def uptoSmall : (H : Type) → List (DataW H) → Bool := fun _ ds => decide (uptoBulkAll ds ≤ 1048576)
def OpenSpec.upto (s : _root_.Go.ChangeSpec) : _root_.Go.OpenSpec := { _root_.Go.OpenSpec.ofChange s with cond := some uptoSmall }

/-- 'laws.FnExactValidDict', WHERE WHAT IT READS IS OF BULK AT MOST 1048576: true; the input reads as it did. -/
def fnExactValidDictUptoRow : OpenClaim := { program := "ytneapgdfeegmgaa", sum := "46cecdbb840a1705e5af2c1a037f9b08c42f985c73ab1279c08038251a7e7ffc", func := "loop.example/s01136/laws.FnExactValidDict", spec := "fnExactValidDict", apart := false, narrowed := true }
def FnExactValidDictUptoSaid : Prop := fnExactValidDictUptoRow.holds Try.pinned (OpenSpec.upto fnExactValidDictSpec)

/-- 'laws.FnExactTermText', WHERE WHAT IT READS IS OF BULK AT MOST 1048576: true; the input reads as it did. -/
def fnExactTermTextUptoRow : OpenClaim := { program := "ytneapgdfeegmgaa", sum := "46cecdbb840a1705e5af2c1a037f9b08c42f985c73ab1279c08038251a7e7ffc", func := "loop.example/s01136/laws.FnExactTermText", spec := "fnExactTermText", apart := false, narrowed := true }
def FnExactTermTextUptoSaid : Prop := fnExactTermTextUptoRow.holds Try.pinned (OpenSpec.upto fnExactTermTextSpec)

/-- 'laws.FnExactTermId', WHERE WHAT IT READS IS OF BULK AT MOST 1048576: true; the input reads as it did. -/
def fnExactTermIdUptoRow : OpenClaim := { program := "ytneapgdfeegmgaa", sum := "46cecdbb840a1705e5af2c1a037f9b08c42f985c73ab1279c08038251a7e7ffc", func := "loop.example/s01136/laws.FnExactTermId", spec := "fnExactTermId", apart := false, narrowed := true }
def FnExactTermIdUptoSaid : Prop := fnExactTermIdUptoRow.holds Try.pinned (OpenSpec.upto fnExactTermIdSpec)

/-- 'laws.FnExactIntern', WHERE WHAT IT READS IS OF BULK AT MOST 1048576: true; the input reads as it did. -/
def fnExactInternUptoRow : OpenClaim := { program := "ytneapgdfeegmgaa", sum := "46cecdbb840a1705e5af2c1a037f9b08c42f985c73ab1279c08038251a7e7ffc", func := "loop.example/s01136/laws.FnExactIntern", spec := "fnExactIntern", unfollowed := true, recurses := true, apart := false, narrowed := true }
def FnExactInternUptoSaid : Prop := fnExactInternUptoRow.holds Try.pinned (OpenSpec.upto fnExactInternSpec)

/-- 'laws.FnExactRelease', WHERE WHAT IT READS IS OF BULK AT MOST 1048576: true; the input reads as it did. -/
def fnExactReleaseUptoRow : OpenClaim := { program := "ytneapgdfeegmgaa", sum := "46cecdbb840a1705e5af2c1a037f9b08c42f985c73ab1279c08038251a7e7ffc", func := "loop.example/s01136/laws.FnExactRelease", spec := "fnExactRelease", unfollowed := true, recurses := true, apart := false, narrowed := true }
def FnExactReleaseUptoSaid : Prop := fnExactReleaseUptoRow.holds Try.pinned (OpenSpec.upto fnExactReleaseSpec)

/-- 'laws.FnDict', WHERE WHAT IT READS IS OF BULK AT MOST 1048576: true; the input reads as it did. -/
def fnDictUptoRow : OpenClaim := { program := "ytneapgdfeegmgaa", sum := "46cecdbb840a1705e5af2c1a037f9b08c42f985c73ab1279c08038251a7e7ffc", func := "loop.example/s01136/laws.FnDict", spec := "fnDict", unfollowed := true, recurses := true, apart := false, narrowed := true }
def FnDictUptoSaid : Prop := fnDictUptoRow.holds Try.pinned (OpenSpec.upto fnDictSpec)

end Rows
end Go.Proofs.Ytneapgdfeegmgaa
