/- The plain law of FnDict: for every list of bytes its Lean function tells true. No conditions. -/
import Derived.Test.YtneapgdfeegmgaaMFnDictg
namespace Go.Proofs.Ytneapgdfeegmgaa.Pure
open Go.RowKit Go.Proofs.Ytneapgdfeegmgaa.PI Go.Proofs.YtneapgdfeegmgaaW.PrintWords Go.Proofs.YtneapgdfeegmgaaW.PrintLast

theorem FnDict : laws_FnDict.Pure := by
  intro l0 _ _ hc
  exact (lawFnDict_ev l0 hc).rounds

end Go.Proofs.Ytneapgdfeegmgaa.Pure
