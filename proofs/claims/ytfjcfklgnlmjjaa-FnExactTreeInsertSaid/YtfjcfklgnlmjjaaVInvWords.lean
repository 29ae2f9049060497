-- Turned by this session's program out of the words' text: what this claim reaches.
import Derived.Test.YtfjcfklgnlmjjaaVInv
import Derived.Test.YtfjcfklgnlmjjaaVFootNe
namespace Go.Proofs.YtfjcfklgnlmjjaaW.PrintWords
open Go.RowKit
end Go.Proofs.YtfjcfklgnlmjjaaW.PrintWords
namespace Go.Proofs.YtfjcfklgnlmjjaaW.PrintLast
section
variable {ops : Array Oper} {a : Act} {o og : Oper} {g : Nat} {t : Tmp} {u : Bool}
end
end Go.Proofs.YtfjcfklgnlmjjaaW.PrintLast
