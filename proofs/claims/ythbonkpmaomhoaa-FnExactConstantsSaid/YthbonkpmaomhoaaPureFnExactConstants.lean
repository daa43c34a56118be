/- Every exported constant of the program is the document's: the law's function answers true. No conditions. -/
import Derived.Test.YthbonkpmaomhoaaPFnExactConstantsx1
namespace Go.Proofs.Ythbonkpmaomhoaa.Pure
open Go.RowKit Go.Proofs.Ythbonkpmaomhoaa.PFnExactConstants Go.Proofs.YthbonkpmaomhoaaW.PrintWords Go.Proofs.YthbonkpmaomhoaaW.PrintLast

theorem FnExactConstants : laws_FnExactConstants.Pure := rfl

end Go.Proofs.Ythbonkpmaomhoaa.Pure
