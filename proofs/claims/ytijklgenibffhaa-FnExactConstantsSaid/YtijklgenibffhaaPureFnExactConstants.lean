/- The law FnExactConstants answers true: all constants of the program are the document's. No conditions. -/
import Derived.Test.YtijklgenibffhaaPFnExactConstantsx1
namespace Go.Proofs.Ytijklgenibffhaa.Pure
open Go.RowKit Go.Proofs.Ytijklgenibffhaa.PFnExactConstants Go.Proofs.YtijklgenibffhaaW.PrintWords Go.Proofs.YtijklgenibffhaaW.PrintLast

theorem FnExactConstants : laws_FnExactConstants.Pure := rfl

end Go.Proofs.Ytijklgenibffhaa.Pure
