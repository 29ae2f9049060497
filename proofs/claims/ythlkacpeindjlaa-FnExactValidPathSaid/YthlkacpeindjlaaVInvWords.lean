-- Turned by this session's program out of the words' text: what this claim reaches.
import Derived.Test.YthlkacpeindjlaaVInv
import Derived.Test.YthlkacpeindjlaaVFootNe
namespace Go.Proofs.YthlkacpeindjlaaW.PrintWords
open Go.RowKit
end Go.Proofs.YthlkacpeindjlaaW.PrintWords
namespace Go.Proofs.YthlkacpeindjlaaW.PrintLast
section
variable {ops : Array Oper} {a : Act} {o og : Oper} {g : Nat} {t : Tmp} {u : Bool}
end
end Go.Proofs.YthlkacpeindjlaaW.PrintLast
