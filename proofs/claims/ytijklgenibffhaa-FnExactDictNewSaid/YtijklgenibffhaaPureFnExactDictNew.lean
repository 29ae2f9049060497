/- The law FnExactDictNew answers true: the program's DictNew is the reference's and new memory. No conditions. -/
import Derived.Test.YtijklgenibffhaaPFnExactDictNewx2
namespace Go.Proofs.Ytijklgenibffhaa.Pure
open Go.RowKit Go.Proofs.Ytijklgenibffhaa.PFnExactDictNew Go.Proofs.YtijklgenibffhaaW.PrintWords Go.Proofs.YtijklgenibffhaaW.PrintLast

theorem FnExactDictNew : laws_FnExactDictNew.Pure := ⟨2, by decide +kernel⟩

end Go.Proofs.Ytijklgenibffhaa.Pure
