-- Made by this session's program hyb.py out of the translation.
import Derived.Test.YtijklgenibffhaaProg
import Derived.Below
import Derived.Deep.Draws
import Derived.Deep.AppendLies
import Derived.Maps.AppendAt
import Derived.OwnWalk
import Derived.Laws.BytesArg
import Derived.Laws.MakeOwn
import Derived.Laws.OwnMore
import Derived.Deep.OwnRows
import Derived.Tactics
import Derived.Lib.ConvBytes
import Derived.Laws.Slices
import Derived.WalkKit
import Derived.KernelRfl
import Derived.RowKit3
import Derived.Deep.LoopGhost
import Derived.Deep.QuietTactic
import Derived.BigQuiet
import Derived.WideLaws
import Derived.Deep.DeepCutAuto
import Derived.Deep.CutBlock
import Derived.Deep.RegionHeld3
import Derived.Laws.Rows
import Derived.Lib.AppendStr
import Derived.ArgAppend
import Derived.Laws.IdiomCopy
import Derived.OrdersHeld
import Derived.Laws.BitsLemmas
import Derived.RowKit
import Derived.Test.YtijklgenibffhaaWWords
import Derived.Test.YtijklgenibffhaaWLast
import Derived.Test.YtijklgenibffhaaWTab
import Derived.Test.YtijklgenibffhaaWFour
import Derived.Test.YtijklgenibffhaaWQPut
import Derived.Test.YtijklgenibffhaaWApart
import Derived.Test.YtijklgenibffhaaWArr
import Derived.Test.YtijklgenibffhaaWZeros
import Derived.Test.YtijklgenibffhaaWFoot
import Derived.Test.YtijklgenibffhaaWKept
import Derived.Test.YtijklgenibffhaaWShare
import Derived.Test.YtijklgenibffhaaWN
import Derived.Test.YtijklgenibffhaaWFootNe
import Derived.Test.YtijklgenibffhaaWAt
import Derived.Test.YtijklgenibffhaaWEqStruct
import Derived.Test.YtijklgenibffhaaWRepsOne
import Derived.Test.YtijklgenibffhaaWInv
import Derived.Test.YtijklgenibffhaaWInvWords
import Derived.Test.YtijklgenibffhaaWGuard
import Derived.Test.YtijklgenibffhaaWNEv
import Derived.Test.YtijklgenibffhaaWMore
namespace Go.Proofs.Ytijklgenibffhaa.PCrc
open Go.RowKit Go.Proofs.YtijklgenibffhaaW.PrintWords Go.Proofs.YtijklgenibffhaaW.PrintLast Go.Proofs.YtijklgenibffhaaW.PrintMore
attribute [local go_sem] max2_int min2_int max_two min_two max_three min_three max_four min_four   -- for this text's walks alone
set_option linter.unusedVariables false
set_option linter.unusedSimpArgs false



def errW : Option Int → Value
  | none => .nilIface
  | some c => .iface 0 (.int .i64 c)
theorem errW_none : errW none = .nilIface := rfl
theorem errW_some (c : Int) : errW (some c) = .iface 0 (.int .i64 c) := rfl

theorem info5 : (Try.prog.info? 5).map (fun i => (i.zero, i.size, i.bytes)) = some (some (.int .u8 0), 1, 1) := by kernel_rfl
-- the values' own types

end Go.Proofs.Ytijklgenibffhaa.PCrc
