/-
  NARROWER THAN 'FOR EVERY INPUT', by the rows' own cells (each row's printed sentence says how): FnExactEligible: laid · FnExactValidIndex: laid · FnExactCountQuads: laid · FnExactScanQuads: laid.
  DERIVED. THE GIVEN ROWS OF THIS SEAT. 4 by the template 'for every input the law returns true; each argument reads behind the call as it read before'; 0 by the template 'total and deterministic' (their statements: YtoehjeaejcbdeaaDoorTotals.lean).
  GIVEN WITH THE SEED: the statements are not yours to turn. If you find one false, say at which input.
  Laid BY PROGRAM, IN A SANDBOX (cutbox-rows.mjs): the forced cells as the released guide's own fill.sh prints them over the translation 334171c4985f13d5… (all of the seat's roots in one cut). By AI agents, Wed Nov 11 2026. No macro, syntax, notation, axiom, sorry.
-/
import Derived.Test.YtoehjeaejcbdeaaDoorChecked
import GoSem.Claim
import GoSem.ClaimJoined
import GoSem.ClaimMapViews
import Derived.JoinedTies
import Derived.KernelRfl
namespace Go.Proofs.YtoehjeaejcbdeaaDoor
/- THE CELL 'sum', in the pinned program and in every row, IS THE sha256 OF THE DUMP (.gsa) THAT YtoehjeaejcbdeaaDoorProg.lean LOADS. Nothing in Lean hashes anything: it is a label: what it is worth is what the hold of that sum in a sandbox is worth. -/
noncomputable def Tryd.pinned : Pinned := { name := "ytoehjeaejcbdeaadoor", sum := "334171c4985f13d52ada0b1b77c547e6ea6c8c4da85fec5fd77e0b861c731cf8", checked := Tryd.checked }
namespace Rows
def none {H : Type} : Left H := { results := [], args := [] }

/- WHAT THE LISTED PACKAGE-LEVEL VARIABLES READ AS WHEN THE CALL BEGINS. Each datum BY PROGRAM (the guide's laid-datum.mjs) off the statement by which the dump's own 'gosem.cut.vars' lays the variable. In a bare row this is a premise. The card (YtoehjeaejcbdeaaDoorCards.lean) ties it to the program's text. -/
def laid_loop_example_s01136_impl_orders {H : Type} : DataW H := .agg [.agg [.lit (.int .i64 0), .lit (.int .i64 1), .lit (.int .i64 2), .lit (.int .i64 3)], .agg [.lit (.int .i64 1), .lit (.int .i64 2), .lit (.int .i64 0), .lit (.int .i64 3)], .agg [.lit (.int .i64 2), .lit (.int .i64 0), .lit (.int .i64 1), .lit (.int .i64 3)], .agg [.lit (.int .i64 3), .lit (.int .i64 0), .lit (.int .i64 1), .lit (.int .i64 2)], .agg [.lit (.int .i64 3), .lit (.int .i64 1), .lit (.int .i64 2), .lit (.int .i64 0)], .agg [.lit (.int .i64 3), .lit (.int .i64 2), .lit (.int .i64 0), .lit (.int .i64 1)]]

/-- 'laws.FnExactEligible': WHATEVER THE INPUT: true; the input reads as it did. -/
def fnExactEligibleSpec : ChangeSpec := { name := "fnExactEligible", vars := ["loop.example/s01136/impl.orders"], fn := fun _ => fun
  | [d1, d2, g1] => { results := [.lit (.bool true)], args := [d1, d2], vars := [g1] }
  | _ => none }
def fnExactEligibleRow : OpenClaim := { program := "ytoehjeaejcbdeaadoor", sum := "334171c4985f13d52ada0b1b77c547e6ea6c8c4da85fec5fd77e0b861c731cf8", func := "loop.example/s01136/laws.FnExactEligible", spec := "fnExactEligible", named := ["loop.example/s01136/impl.orders"], plainKeys := false, apart := false, laid := [("loop.example/s01136/impl.orders", laid_loop_example_s01136_impl_orders)] }
def FnExactEligibleSaid : Prop := fnExactEligibleRow.holds Tryd.pinned (OpenSpec.ofChange fnExactEligibleSpec)

/-- ITS FALSE NEIGHBOUR: 'it returns false'. Refute it at one input. -/
def fnExactEligibleWrong : ChangeSpec := { name := "fnExactEligible", vars := ["loop.example/s01136/impl.orders"], fn := fun _ => fun
  | [d1, d2, g1] => { results := [.lit (.bool false)], args := [d1, d2], vars := [g1] }
  | _ => none }
def FnExactEligibleWrongFalsely : Prop := fnExactEligibleRow.holds Tryd.pinned (OpenSpec.ofChange fnExactEligibleWrong)

/-- 'laws.FnExactValidIndex': WHATEVER THE INPUT: true; the input reads as it did. -/
def fnExactValidIndexSpec : ChangeSpec := { name := "fnExactValidIndex", vars := ["loop.example/s01136/impl.orders"], fn := fun _ => fun
  | [d, g1] => { results := [.lit (.bool true)], args := [d], vars := [g1] }
  | _ => none }
def fnExactValidIndexRow : OpenClaim := { program := "ytoehjeaejcbdeaadoor", sum := "334171c4985f13d52ada0b1b77c547e6ea6c8c4da85fec5fd77e0b861c731cf8", func := "loop.example/s01136/laws.FnExactValidIndex", spec := "fnExactValidIndex", unfollowed := true, recurses := true, named := ["loop.example/s01136/impl.orders"], plainKeys := false, apart := false, laid := [("loop.example/s01136/impl.orders", laid_loop_example_s01136_impl_orders)] }
def FnExactValidIndexSaid : Prop := fnExactValidIndexRow.holds Tryd.pinned (OpenSpec.ofChange fnExactValidIndexSpec)

/-- ITS FALSE NEIGHBOUR: 'it returns false'. Refute it at one input. -/
def fnExactValidIndexWrong : ChangeSpec := { name := "fnExactValidIndex", vars := ["loop.example/s01136/impl.orders"], fn := fun _ => fun
  | [d, g1] => { results := [.lit (.bool false)], args := [d], vars := [g1] }
  | _ => none }
def FnExactValidIndexWrongFalsely : Prop := fnExactValidIndexRow.holds Tryd.pinned (OpenSpec.ofChange fnExactValidIndexWrong)

/-- 'laws.FnExactCountQuads': WHATEVER THE INPUT: true; the input reads as it did. -/
def fnExactCountQuadsSpec : ChangeSpec := { name := "fnExactCountQuads", vars := ["loop.example/s01136/impl.orders"], fn := fun _ => fun
  | [d1, d2, d3, g1] => { results := [.lit (.bool true)], args := [d1, d2, d3], vars := [g1] }
  | _ => none }
def fnExactCountQuadsRow : OpenClaim := { program := "ytoehjeaejcbdeaadoor", sum := "334171c4985f13d52ada0b1b77c547e6ea6c8c4da85fec5fd77e0b861c731cf8", func := "loop.example/s01136/laws.FnExactCountQuads", spec := "fnExactCountQuads", unfollowed := true, recurses := true, named := ["loop.example/s01136/impl.orders"], plainKeys := false, apart := false, laid := [("loop.example/s01136/impl.orders", laid_loop_example_s01136_impl_orders)] }
def FnExactCountQuadsSaid : Prop := fnExactCountQuadsRow.holds Tryd.pinned (OpenSpec.ofChange fnExactCountQuadsSpec)

/-- ITS FALSE NEIGHBOUR: 'it returns false'. Refute it at one input. -/
def fnExactCountQuadsWrong : ChangeSpec := { name := "fnExactCountQuads", vars := ["loop.example/s01136/impl.orders"], fn := fun _ => fun
  | [d1, d2, d3, g1] => { results := [.lit (.bool false)], args := [d1, d2, d3], vars := [g1] }
  | _ => none }
def FnExactCountQuadsWrongFalsely : Prop := fnExactCountQuadsRow.holds Tryd.pinned (OpenSpec.ofChange fnExactCountQuadsWrong)

/-- 'laws.FnExactScanQuads': WHATEVER THE INPUT: true; the input reads as it did. -/
def fnExactScanQuadsSpec : ChangeSpec := { name := "fnExactScanQuads", vars := ["loop.example/s01136/impl.orders"], fn := fun _ => fun
  | [d1, d2, d3, g1] => { results := [.lit (.bool true)], args := [d1, d2, d3], vars := [g1] }
  | _ => none }
def fnExactScanQuadsRow : OpenClaim := { program := "ytoehjeaejcbdeaadoor", sum := "334171c4985f13d52ada0b1b77c547e6ea6c8c4da85fec5fd77e0b861c731cf8", func := "loop.example/s01136/laws.FnExactScanQuads", spec := "fnExactScanQuads", unfollowed := true, recurses := true, named := ["loop.example/s01136/impl.orders"], plainKeys := false, apart := false, laid := [("loop.example/s01136/impl.orders", laid_loop_example_s01136_impl_orders)] }
def FnExactScanQuadsSaid : Prop := fnExactScanQuadsRow.holds Tryd.pinned (OpenSpec.ofChange fnExactScanQuadsSpec)

/-- ITS FALSE NEIGHBOUR: 'it returns false'. Refute it at one input. -/
def fnExactScanQuadsWrong : ChangeSpec := { name := "fnExactScanQuads", vars := ["loop.example/s01136/impl.orders"], fn := fun _ => fun
  | [d1, d2, d3, g1] => { results := [.lit (.bool false)], args := [d1, d2, d3], vars := [g1] }
  | _ => none }
def FnExactScanQuadsWrongFalsely : Prop := fnExactScanQuadsRow.holds Tryd.pinned (OpenSpec.ofChange fnExactScanQuadsWrong)

/- THE SECOND FORM. 'bulk': how many values and letters a reading holds, each counted each time it is reached (what is shared counts as often as it is met; a slice's spare places count too). A statement '..UptoSaid' is the law's where the arguments, and the package variables that the reading takes, are together of bulk at most 1048576: NARROWER than '..Said'. Prove '..Said' where nothing that the law and all that it calls make is longer than what came in: it says more and counts as full. Else prove '..UptoSaid'. A law counts once. -/
mutual
def uptoBulk {H : Type} : DataW H → Nat
  | .lit (.string bytes) => bytes.length + 1
  | .lit _ => 1
  | .nil => 1
  | .ptr d => uptoBulk d + 1
  | .slice elems spare => uptoBulkAll elems + uptoBulkAll spare + 1
  | .agg parts => uptoBulkAll parts + 1
  | .iface _ d => uptoBulk d + 1
  | .map entries => uptoBulkEntries entries + 1
  | .held _ => 1
def uptoBulkAll {H : Type} : List (DataW H) → Nat
  | [] => 0
  | d :: r => uptoBulk d + uptoBulkAll r
def uptoBulkEntries {H : Type} : List (Lit × DataW H) → Nat
  | [] => 0
  | x :: r => uptoBulkEntry x + uptoBulkEntries r
def uptoBulkEntry {H : Type} : Lit × DataW H → Nat
  | (.string bytes, d) => bytes.length + uptoBulk d + 1
  | (_, d) => uptoBulk d + 1
 end
def uptoSmall : (H : Type) → List (DataW H) → Bool := fun _ ds => decide (uptoBulkAll ds ≤ 1048576)
def OpenSpec.upto (s : _root_.Go.ChangeSpec) : _root_.Go.OpenSpec := { _root_.Go.OpenSpec.ofChange s with cond := some uptoSmall }

/-- 'laws.FnExactEligible', WHERE WHAT IT READS IS OF BULK AT MOST 1048576: true; the input reads as it did. -/
def fnExactEligibleUptoRow : OpenClaim := { program := "ytoehjeaejcbdeaadoor", sum := "334171c4985f13d52ada0b1b77c547e6ea6c8c4da85fec5fd77e0b861c731cf8", func := "loop.example/s01136/laws.FnExactEligible", spec := "fnExactEligible", named := ["loop.example/s01136/impl.orders"], plainKeys := false, apart := false, laid := [("loop.example/s01136/impl.orders", laid_loop_example_s01136_impl_orders)], narrowed := true }
def FnExactEligibleUptoSaid : Prop := fnExactEligibleUptoRow.holds Tryd.pinned (OpenSpec.upto fnExactEligibleSpec)

/-- 'laws.FnExactValidIndex', WHERE WHAT IT READS IS OF BULK AT MOST 1048576: true; the input reads as it did. -/
def fnExactValidIndexUptoRow : OpenClaim := { program := "ytoehjeaejcbdeaadoor", sum := "334171c4985f13d52ada0b1b77c547e6ea6c8c4da85fec5fd77e0b861c731cf8", func := "loop.example/s01136/laws.FnExactValidIndex", spec := "fnExactValidIndex", unfollowed := true, recurses := true, named := ["loop.example/s01136/impl.orders"], plainKeys := false, apart := false, laid := [("loop.example/s01136/impl.orders", laid_loop_example_s01136_impl_orders)], narrowed := true }
def FnExactValidIndexUptoSaid : Prop := fnExactValidIndexUptoRow.holds Tryd.pinned (OpenSpec.upto fnExactValidIndexSpec)

/-- 'laws.FnExactCountQuads', WHERE WHAT IT READS IS OF BULK AT MOST 1048576: true; the input reads as it did. -/
def fnExactCountQuadsUptoRow : OpenClaim := { program := "ytoehjeaejcbdeaadoor", sum := "334171c4985f13d52ada0b1b77c547e6ea6c8c4da85fec5fd77e0b861c731cf8", func := "loop.example/s01136/laws.FnExactCountQuads", spec := "fnExactCountQuads", unfollowed := true, recurses := true, named := ["loop.example/s01136/impl.orders"], plainKeys := false, apart := false, laid := [("loop.example/s01136/impl.orders", laid_loop_example_s01136_impl_orders)], narrowed := true }
def FnExactCountQuadsUptoSaid : Prop := fnExactCountQuadsUptoRow.holds Tryd.pinned (OpenSpec.upto fnExactCountQuadsSpec)

/-- 'laws.FnExactScanQuads', WHERE WHAT IT READS IS OF BULK AT MOST 1048576: true; the input reads as it did. -/
def fnExactScanQuadsUptoRow : OpenClaim := { program := "ytoehjeaejcbdeaadoor", sum := "334171c4985f13d52ada0b1b77c547e6ea6c8c4da85fec5fd77e0b861c731cf8", func := "loop.example/s01136/laws.FnExactScanQuads", spec := "fnExactScanQuads", unfollowed := true, recurses := true, named := ["loop.example/s01136/impl.orders"], plainKeys := false, apart := false, laid := [("loop.example/s01136/impl.orders", laid_loop_example_s01136_impl_orders)], narrowed := true }
def FnExactScanQuadsUptoSaid : Prop := fnExactScanQuadsUptoRow.holds Tryd.pinned (OpenSpec.upto fnExactScanQuadsSpec)

end Rows
end Go.Proofs.YtoehjeaejcbdeaaDoor
