-- Turned by this session's program out of the words' text: what this claim reaches.
import Derived.Test.YtnkigjncfkgceaaVInv
import Derived.Test.YtnkigjncfkgceaaVFootNe
namespace Go.Proofs.YtnkigjncfkgceaaW.PrintWords
open Go.RowKit
end Go.Proofs.YtnkigjncfkgceaaW.PrintWords
namespace Go.Proofs.YtnkigjncfkgceaaW.PrintLast
section
variable {ops : Array Oper} {a : Act} {o og : Oper} {g : Nat} {t : Tmp} {u : Bool}
end
end Go.Proofs.YtnkigjncfkgceaaW.PrintLast
