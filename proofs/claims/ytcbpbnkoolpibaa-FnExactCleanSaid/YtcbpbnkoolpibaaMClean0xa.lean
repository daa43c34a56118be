/- What stays of an ascending row when runs are made single, in plain Lean. -/
import Derived.Lib.SlicesCompact
namespace Go.Proofs.Ytcbpbnkoolpibaa.P
end Go.Proofs.Ytcbpbnkoolpibaa.P
