/- What the values of this seat's struct types keep when they come in as data, and that they can be opened. -/
import Derived.Test.YtbihpjngmjkjmaaDoorOpens
import Derived.Test.YtbihpjngmjkjmaaDoorF0
namespace Go.Proofs.YtbihpjngmjkjmaaDoor.Opens
open Go.RowKit Go.Proofs.YtbihpjngmjkjmaaDoorW.PrintWords Go.Proofs.YtbihpjngmjkjmaaDoor.P
set_option linter.unusedVariables false
end Go.Proofs.YtbihpjngmjkjmaaDoor.Opens
