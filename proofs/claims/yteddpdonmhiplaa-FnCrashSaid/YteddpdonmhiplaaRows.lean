/-
  No cell of these rows narrows 'for every input' (looked for: loops, veiled, ifaces, maps, wideKeys, modest, calm, conditions, laid).
  DERIVED. THE GIVEN ROWS OF THIS SEAT. 7 by the template 'for every input the law returns true; each argument reads behind the call as it read before'; 0 by the template 'total and deterministic' (their statements: YteddpdonmhiplaaTotals.lean).
  GIVEN WITH THE SEED: the statements are not yours to turn. If you find one false, say at which input.
  Laid BY PROGRAM, IN A SANDBOX (cutbox-rows.mjs): the forced cells as the released guide's own fill.sh prints them over the translation 7879737e2481ea26… (all of the seat's roots in one cut). By AI agents, Wed Nov 11 2026. No macro, syntax, notation, axiom, sorry.
-/
import Derived.Test.YteddpdonmhiplaaChecked
import GoSem.Claim
import GoSem.ClaimJoined
import GoSem.ClaimMapViews
import Derived.JoinedTies
import Derived.KernelRfl
namespace Go.Proofs.Yteddpdonmhiplaa
/- THE CELL 'sum', in the pinned program and in every row, IS THE sha256 OF THE DUMP (.gsa) THAT YteddpdonmhiplaaProg.lean LOADS. Nothing in Lean hashes anything: it is a label: what it is worth is what the hold of that sum in a sandbox is worth. -/
noncomputable def Try.pinned : Pinned := { name := "yteddpdonmhiplaa", sum := "7879737e2481ea268be190a70078bb5a0d7a69c82914ede3da7fbe5d9dc44897", checked := Try.checked }
namespace Rows
def none {H : Type} : Left H := { results := [], args := [] }

/-- 'laws.FnCrash': WHATEVER THE INPUT: true; the input reads as it did. -/
def fnCrashSpec : ChangeSpec := { name := "fnCrash", fn := fun _ => fun
  | [d] => { results := [.lit (.bool true)], args := [d] }
  | _ => none }
def fnCrashRow : OpenClaim := { program := "yteddpdonmhiplaa", sum := "7879737e2481ea268be190a70078bb5a0d7a69c82914ede3da7fbe5d9dc44897", func := "loop.example/s01136/laws.FnCrash", spec := "fnCrash", unfollowed := true, recurses := true, apart := false }
def FnCrashSaid : Prop := fnCrashRow.holds Try.pinned (OpenSpec.ofChange fnCrashSpec)

/-- ITS FALSE NEIGHBOUR: 'it returns false'. Refute it at one input. -/
def fnCrashWrong : ChangeSpec := { name := "fnCrash", fn := fun _ => fun
  | [d] => { results := [.lit (.bool false)], args := [d] }
  | _ => none }
def FnCrashWrongFalsely : Prop := fnCrashRow.holds Try.pinned (OpenSpec.ofChange fnCrashWrong)

/-- 'laws.FnExactReadSuper': WHATEVER THE INPUT: true; the input reads as it did. -/
def fnExactReadSuperSpec : ChangeSpec := { name := "fnExactReadSuper", fn := fun _ => fun
  | [d] => { results := [.lit (.bool true)], args := [d] }
  | _ => none }
def fnExactReadSuperRow : OpenClaim := { program := "yteddpdonmhiplaa", sum := "7879737e2481ea268be190a70078bb5a0d7a69c82914ede3da7fbe5d9dc44897", func := "loop.example/s01136/laws.FnExactReadSuper", spec := "fnExactReadSuper", apart := false }
def FnExactReadSuperSaid : Prop := fnExactReadSuperRow.holds Try.pinned (OpenSpec.ofChange fnExactReadSuperSpec)

/-- ITS FALSE NEIGHBOUR: 'it returns false'. Refute it at one input. -/
def fnExactReadSuperWrong : ChangeSpec := { name := "fnExactReadSuper", fn := fun _ => fun
  | [d] => { results := [.lit (.bool false)], args := [d] }
  | _ => none }
def FnExactReadSuperWrongFalsely : Prop := fnExactReadSuperRow.holds Try.pinned (OpenSpec.ofChange fnExactReadSuperWrong)

/-- 'laws.FnExactReadRec': WHATEVER THE INPUT: true; the input reads as it did. -/
def fnExactReadRecSpec : ChangeSpec := { name := "fnExactReadRec", fn := fun _ => fun
  | [d1, d2, d3] => { results := [.lit (.bool true)], args := [d1, d2, d3] }
  | _ => none }
def fnExactReadRecRow : OpenClaim := { program := "yteddpdonmhiplaa", sum := "7879737e2481ea268be190a70078bb5a0d7a69c82914ede3da7fbe5d9dc44897", func := "loop.example/s01136/laws.FnExactReadRec", spec := "fnExactReadRec", apart := false }
def FnExactReadRecSaid : Prop := fnExactReadRecRow.holds Try.pinned (OpenSpec.ofChange fnExactReadRecSpec)

/-- ITS FALSE NEIGHBOUR: 'it returns false'. Refute it at one input. -/
def fnExactReadRecWrong : ChangeSpec := { name := "fnExactReadRec", fn := fun _ => fun
  | [d1, d2, d3] => { results := [.lit (.bool false)], args := [d1, d2, d3] }
  | _ => none }
def FnExactReadRecWrongFalsely : Prop := fnExactReadRecRow.holds Try.pinned (OpenSpec.ofChange fnExactReadRecWrong)

/-- 'laws.FnExactWriteSuper': WHATEVER THE INPUT: true; the input reads as it did. -/
def fnExactWriteSuperSpec : ChangeSpec := { name := "fnExactWriteSuper", fn := fun _ => fun
  | [d1, d2] => { results := [.lit (.bool true)], args := [d1, d2] }
  | _ => none }
def fnExactWriteSuperRow : OpenClaim := { program := "yteddpdonmhiplaa", sum := "7879737e2481ea268be190a70078bb5a0d7a69c82914ede3da7fbe5d9dc44897", func := "loop.example/s01136/laws.FnExactWriteSuper", spec := "fnExactWriteSuper", unfollowed := true, recurses := true, apart := false }
def FnExactWriteSuperSaid : Prop := fnExactWriteSuperRow.holds Try.pinned (OpenSpec.ofChange fnExactWriteSuperSpec)

/-- ITS FALSE NEIGHBOUR: 'it returns false'. Refute it at one input. -/
def fnExactWriteSuperWrong : ChangeSpec := { name := "fnExactWriteSuper", fn := fun _ => fun
  | [d1, d2] => { results := [.lit (.bool false)], args := [d1, d2] }
  | _ => none }
def FnExactWriteSuperWrongFalsely : Prop := fnExactWriteSuperRow.holds Try.pinned (OpenSpec.ofChange fnExactWriteSuperWrong)

/-- 'laws.FnExactWriteRec': WHATEVER THE INPUT: true; the input reads as it did. -/
def fnExactWriteRecSpec : ChangeSpec := { name := "fnExactWriteRec", fn := fun _ => fun
  | [d1, d2, d3, d4] => { results := [.lit (.bool true)], args := [d1, d2, d3, d4] }
  | _ => none }
def fnExactWriteRecRow : OpenClaim := { program := "yteddpdonmhiplaa", sum := "7879737e2481ea268be190a70078bb5a0d7a69c82914ede3da7fbe5d9dc44897", func := "loop.example/s01136/laws.FnExactWriteRec", spec := "fnExactWriteRec", unfollowed := true, recurses := true, apart := false }
def FnExactWriteRecSaid : Prop := fnExactWriteRecRow.holds Try.pinned (OpenSpec.ofChange fnExactWriteRecSpec)

/-- ITS FALSE NEIGHBOUR: 'it returns false'. Refute it at one input. -/
def fnExactWriteRecWrong : ChangeSpec := { name := "fnExactWriteRec", fn := fun _ => fun
  | [d1, d2, d3, d4] => { results := [.lit (.bool false)], args := [d1, d2, d3, d4] }
  | _ => none }
def FnExactWriteRecWrongFalsely : Prop := fnExactWriteRecRow.holds Try.pinned (OpenSpec.ofChange fnExactWriteRecWrong)

/-- 'laws.FnExactReadArea': WHATEVER THE INPUT: true; the input reads as it did. -/
def fnExactReadAreaSpec : ChangeSpec := { name := "fnExactReadArea", fn := fun _ => fun
  | [d1, d2, d3] => { results := [.lit (.bool true)], args := [d1, d2, d3] }
  | _ => none }
def fnExactReadAreaRow : OpenClaim := { program := "yteddpdonmhiplaa", sum := "7879737e2481ea268be190a70078bb5a0d7a69c82914ede3da7fbe5d9dc44897", func := "loop.example/s01136/laws.FnExactReadArea", spec := "fnExactReadArea", apart := false }
def FnExactReadAreaSaid : Prop := fnExactReadAreaRow.holds Try.pinned (OpenSpec.ofChange fnExactReadAreaSpec)

/-- ITS FALSE NEIGHBOUR: 'it returns false'. Refute it at one input. -/
def fnExactReadAreaWrong : ChangeSpec := { name := "fnExactReadArea", fn := fun _ => fun
  | [d1, d2, d3] => { results := [.lit (.bool false)], args := [d1, d2, d3] }
  | _ => none }
def FnExactReadAreaWrongFalsely : Prop := fnExactReadAreaRow.holds Try.pinned (OpenSpec.ofChange fnExactReadAreaWrong)

/-- 'laws.FnRecord': WHATEVER THE INPUT: true; the input reads as it did. -/
def fnRecordSpec : ChangeSpec := { name := "fnRecord", fn := fun _ => fun
  | [d1, d2] => { results := [.lit (.bool true)], args := [d1, d2] }
  | _ => none }
def fnRecordRow : OpenClaim := { program := "yteddpdonmhiplaa", sum := "7879737e2481ea268be190a70078bb5a0d7a69c82914ede3da7fbe5d9dc44897", func := "loop.example/s01136/laws.FnRecord", spec := "fnRecord", unfollowed := true, recurses := true, apart := false }
def FnRecordSaid : Prop := fnRecordRow.holds Try.pinned (OpenSpec.ofChange fnRecordSpec)

/-- ITS FALSE NEIGHBOUR: 'it returns false'. Refute it at one input. -/
def fnRecordWrong : ChangeSpec := { name := "fnRecord", fn := fun _ => fun
  | [d1, d2] => { results := [.lit (.bool false)], args := [d1, d2] }
  | _ => none }
def FnRecordWrongFalsely : Prop := fnRecordRow.holds Try.pinned (OpenSpec.ofChange fnRecordWrong)

/- THE SECOND FORM. 'bulk': how many values and letters a reading holds, each counted each time it is reached (what is shared counts as often as it is met; a slice's spare places count too). A statement '..UptoSaid' is the law's where the arguments, and the package variables that the reading takes, are together of bulk at most 1048576: NARROWER than '..Said'. Prove '..Said' where nothing that the law and all that it calls make is longer than what came in: it says more and counts as full. Else prove '..UptoSaid'. A law counts once. -/
mutual
def uptoBulk {H : Type} : DataW H → Nat
  | .lit (.string bytes) => bytes.length + 1
  | .lit _ => 1
  | .nil => 1
  | .ptr d => uptoBulk d + 1
  | .slice elems spare => uptoBulkAll elems + uptoBulkAll spare + 1
  | .agg parts => uptoBulkAll parts + 1
  | .iface _ d => uptoBulk d + 1
  | .map entries => uptoBulkEntries entries + 1
  | .held _ => 1
def uptoBulkAll {H : Type} : List (DataW H) → Nat
  | [] => 0
  | d :: r => uptoBulk d + uptoBulkAll r
def uptoBulkEntries {H : Type} : List (Lit × DataW H) → Nat
  | [] => 0
  | x :: r => uptoBulkEntry x + uptoBulkEntries r
def uptoBulkEntry {H : Type} : Lit × DataW H → Nat
  | (.string bytes, d) => bytes.length + uptoBulk d + 1
  | (_, d) => uptoBulk d + 1
 end
def uptoSmall : (H : Type) → List (DataW H) → Bool := fun _ ds => decide (uptoBulkAll ds ≤ 1048576)
def OpenSpec.upto (s : _root_.Go.ChangeSpec) : _root_.Go.OpenSpec := { _root_.Go.OpenSpec.ofChange s with cond := some uptoSmall }

/-- 'laws.FnCrash', WHERE WHAT IT READS IS OF BULK AT MOST 1048576: true; the input reads as it did. -/
def fnCrashUptoRow : OpenClaim := { program := "yteddpdonmhiplaa", sum := "7879737e2481ea268be190a70078bb5a0d7a69c82914ede3da7fbe5d9dc44897", func := "loop.example/s01136/laws.FnCrash", spec := "fnCrash", unfollowed := true, recurses := true, apart := false, narrowed := true }
def FnCrashUptoSaid : Prop := fnCrashUptoRow.holds Try.pinned (OpenSpec.upto fnCrashSpec)

/-- 'laws.FnExactReadSuper', WHERE WHAT IT READS IS OF BULK AT MOST 1048576: true; the input reads as it did. -/
def fnExactReadSuperUptoRow : OpenClaim := { program := "yteddpdonmhiplaa", sum := "7879737e2481ea268be190a70078bb5a0d7a69c82914ede3da7fbe5d9dc44897", func := "loop.example/s01136/laws.FnExactReadSuper", spec := "fnExactReadSuper", apart := false, narrowed := true }
def FnExactReadSuperUptoSaid : Prop := fnExactReadSuperUptoRow.holds Try.pinned (OpenSpec.upto fnExactReadSuperSpec)

/-- 'laws.FnExactReadRec', WHERE WHAT IT READS IS OF BULK AT MOST 1048576: true; the input reads as it did. -/
def fnExactReadRecUptoRow : OpenClaim := { program := "yteddpdonmhiplaa", sum := "7879737e2481ea268be190a70078bb5a0d7a69c82914ede3da7fbe5d9dc44897", func := "loop.example/s01136/laws.FnExactReadRec", spec := "fnExactReadRec", apart := false, narrowed := true }
def FnExactReadRecUptoSaid : Prop := fnExactReadRecUptoRow.holds Try.pinned (OpenSpec.upto fnExactReadRecSpec)

/-- 'laws.FnExactWriteSuper', WHERE WHAT IT READS IS OF BULK AT MOST 1048576: true; the input reads as it did. -/
def fnExactWriteSuperUptoRow : OpenClaim := { program := "yteddpdonmhiplaa", sum := "7879737e2481ea268be190a70078bb5a0d7a69c82914ede3da7fbe5d9dc44897", func := "loop.example/s01136/laws.FnExactWriteSuper", spec := "fnExactWriteSuper", unfollowed := true, recurses := true, apart := false, narrowed := true }
def FnExactWriteSuperUptoSaid : Prop := fnExactWriteSuperUptoRow.holds Try.pinned (OpenSpec.upto fnExactWriteSuperSpec)

/-- 'laws.FnExactWriteRec', WHERE WHAT IT READS IS OF BULK AT MOST 1048576: true; the input reads as it did. -/
def fnExactWriteRecUptoRow : OpenClaim := { program := "yteddpdonmhiplaa", sum := "7879737e2481ea268be190a70078bb5a0d7a69c82914ede3da7fbe5d9dc44897", func := "loop.example/s01136/laws.FnExactWriteRec", spec := "fnExactWriteRec", unfollowed := true, recurses := true, apart := false, narrowed := true }
def FnExactWriteRecUptoSaid : Prop := fnExactWriteRecUptoRow.holds Try.pinned (OpenSpec.upto fnExactWriteRecSpec)

/-- 'laws.FnExactReadArea', WHERE WHAT IT READS IS OF BULK AT MOST 1048576: true; the input reads as it did. -/
def fnExactReadAreaUptoRow : OpenClaim := { program := "yteddpdonmhiplaa", sum := "7879737e2481ea268be190a70078bb5a0d7a69c82914ede3da7fbe5d9dc44897", func := "loop.example/s01136/laws.FnExactReadArea", spec := "fnExactReadArea", apart := false, narrowed := true }
def FnExactReadAreaUptoSaid : Prop := fnExactReadAreaUptoRow.holds Try.pinned (OpenSpec.upto fnExactReadAreaSpec)

/-- 'laws.FnRecord', WHERE WHAT IT READS IS OF BULK AT MOST 1048576: true; the input reads as it did. -/
def fnRecordUptoRow : OpenClaim := { program := "yteddpdonmhiplaa", sum := "7879737e2481ea268be190a70078bb5a0d7a69c82914ede3da7fbe5d9dc44897", func := "loop.example/s01136/laws.FnRecord", spec := "fnRecord", unfollowed := true, recurses := true, apart := false, narrowed := true }
def FnRecordUptoSaid : Prop := fnRecordUptoRow.holds Try.pinned (OpenSpec.upto fnRecordSpec)

end Rows
end Go.Proofs.Yteddpdonmhiplaa
