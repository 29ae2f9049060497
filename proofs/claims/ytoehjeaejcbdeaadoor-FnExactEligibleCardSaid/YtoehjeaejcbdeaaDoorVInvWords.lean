-- Turned by this session's program out of the words' text: what this claim reaches.
import Derived.Test.YtoehjeaejcbdeaaDoorVInv
import Derived.Test.YtoehjeaejcbdeaaDoorVFootNe
namespace Go.Proofs.YtoehjeaejcbdeaaDoorW.PrintWords
open Go.RowKit
end Go.Proofs.YtoehjeaejcbdeaaDoorW.PrintWords
namespace Go.Proofs.YtoehjeaejcbdeaaDoorW.PrintLast
section
variable {ops : Array Oper} {a : Act} {o og : Oper} {g : Nat} {t : Tmp} {u : Bool}
end
end Go.Proofs.YtoehjeaejcbdeaaDoorW.PrintLast
