-- Made by this session's program hyb.py out of the translation.
import Derived.Test.YtoehjeaejcbdeaaDoorProg
import Derived.Below
import Derived.Deep.Draws
import Derived.Deep.AppendLies
import Derived.Maps.AppendAt
import Derived.OwnWalk
import Derived.Laws.BytesArg
import Derived.Laws.MakeOwn
import Derived.Laws.OwnMore
import Derived.Deep.OwnRows
import Derived.Tactics
import Derived.Lib.ConvBytes
import Derived.Laws.Slices
import Derived.WalkKit
import Derived.KernelRfl
import Derived.RowKit3
import Derived.Deep.LoopGhost
import Derived.Deep.QuietTactic
import Derived.BigQuiet
import Derived.WideLaws
import Derived.Deep.DeepCutAuto
import Derived.Deep.CutBlock
import Derived.Deep.RegionHeld3
import Derived.Laws.Rows
import Derived.Lib.AppendStr
import Derived.ArgAppend
import Derived.Laws.IdiomCopy
import Derived.OrdersHeld
import Derived.Laws.BitsLemmas
import Derived.RowKit
import Derived.Test.YtoehjeaejcbdeaaDoorVWords
import Derived.Test.YtoehjeaejcbdeaaDoorVLast
import Derived.Test.YtoehjeaejcbdeaaDoorVTab
import Derived.Test.YtoehjeaejcbdeaaDoorVFour
import Derived.Test.YtoehjeaejcbdeaaDoorVQPut
import Derived.Test.YtoehjeaejcbdeaaDoorVApart
import Derived.Test.YtoehjeaejcbdeaaDoorVArr
import Derived.Test.YtoehjeaejcbdeaaDoorVZeros
import Derived.Test.YtoehjeaejcbdeaaDoorVFoot
import Derived.Test.YtoehjeaejcbdeaaDoorVKept
import Derived.Test.YtoehjeaejcbdeaaDoorVShare
import Derived.Test.YtoehjeaejcbdeaaDoorVN
import Derived.Test.YtoehjeaejcbdeaaDoorVFootNe
import Derived.Test.YtoehjeaejcbdeaaDoorVAt
import Derived.Test.YtoehjeaejcbdeaaDoorVEqStruct
import Derived.Test.YtoehjeaejcbdeaaDoorVRepsOne
import Derived.Test.YtoehjeaejcbdeaaDoorVInv
import Derived.Test.YtoehjeaejcbdeaaDoorVInvWords
import Derived.Test.YtoehjeaejcbdeaaDoorVGuard
import Derived.Test.YtoehjeaejcbdeaaDoorVNEv
import Derived.Test.YtoehjeaejcbdeaaDoorVMore
namespace Go.Proofs.YtoehjeaejcbdeaaDoor.PE
open Go.RowKit Go.Proofs.YtoehjeaejcbdeaaDoorW.PrintWords Go.Proofs.YtoehjeaejcbdeaaDoorW.PrintLast Go.Proofs.YtoehjeaejcbdeaaDoorW.PrintMore
attribute [local go_sem] max2_int min2_int max_two min_two max_three min_three max_four min_four   -- for this text's walks alone
set_option linter.unusedVariables false
set_option linter.unusedSimpArgs false



def errW : Option Int → Value
  | none => .nilIface
  | some c => .iface 0 (.int .i64 c)
theorem errW_none : errW none = .nilIface := rfl
theorem errW_some (c : Int) : errW (some c) = .iface 0 (.int .i64 c) := rfl

theorem info3 : (Tryd.prog.info? 3).map (fun i => (i.zero, i.size, i.bytes)) = some (some (.int .i64 0), 1, 8) := by kernel_rfl
-- the values' own types

end Go.Proofs.YtoehjeaejcbdeaaDoor.PE
