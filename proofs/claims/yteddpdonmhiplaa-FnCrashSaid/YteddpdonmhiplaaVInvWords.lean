-- Turned by this session's program out of the words' text: what this claim reaches.
import Derived.Test.YteddpdonmhiplaaVInv
import Derived.Test.YteddpdonmhiplaaVFootNe
namespace Go.Proofs.YteddpdonmhiplaaW.PrintWords
open Go.RowKit
end Go.Proofs.YteddpdonmhiplaaW.PrintWords
namespace Go.Proofs.YteddpdonmhiplaaW.PrintLast
section
variable {ops : Array Oper} {a : Act} {o og : Oper} {g : Nat} {t : Tmp} {u : Bool}
end
end Go.Proofs.YteddpdonmhiplaaW.PrintLast
