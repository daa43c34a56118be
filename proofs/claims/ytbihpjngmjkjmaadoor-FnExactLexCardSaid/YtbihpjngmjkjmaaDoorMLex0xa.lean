/- Functions of the program and of the reference as plain functions, and that the Go code comes to their answers; several texts in one. No conditions beyond what each theorem says. -/
import Derived.Test.YtbihpjngmjkjmaaDoorMLex0a
import Derived.ProofKit
import Derived.OpenShut
namespace Go.Proofs.YtbihpjngmjkjmaaDoor.Opens
open Go.RowKit Go.Proofs.YtbihpjngmjkjmaaDoorW.PrintWords Go.ChangeShapes Go.WideShapes
set_option linter.unusedVariables false
section
variable {H : Type} (enc : TypeId × Value → H) (P : Program) (w : World)
variable {enc P w}
end
end Go.Proofs.YtbihpjngmjkjmaaDoor.Opens
namespace Go.Proofs.YtbihpjngmjkjmaaDoor.Opens
open Go.RowKit Go.Proofs.YtbihpjngmjkjmaaDoorW.PrintWords Go.Proofs.YtbihpjngmjkjmaaDoor.P
set_option linter.unusedVariables false
end Go.Proofs.YtbihpjngmjkjmaaDoor.Opens
