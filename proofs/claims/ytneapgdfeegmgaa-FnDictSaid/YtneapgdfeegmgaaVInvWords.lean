-- Turned by this session's program out of the words' text: what this claim reaches.
import Derived.Test.YtneapgdfeegmgaaVInv
import Derived.Test.YtneapgdfeegmgaaVFootNe
namespace Go.Proofs.YtneapgdfeegmgaaW.PrintWords
open Go.RowKit
end Go.Proofs.YtneapgdfeegmgaaW.PrintWords
namespace Go.Proofs.YtneapgdfeegmgaaW.PrintLast
section
variable {ops : Array Oper} {a : Act} {o og : Oper} {g : Nat} {t : Tmp} {u : Bool}
end
end Go.Proofs.YtneapgdfeegmgaaW.PrintLast
