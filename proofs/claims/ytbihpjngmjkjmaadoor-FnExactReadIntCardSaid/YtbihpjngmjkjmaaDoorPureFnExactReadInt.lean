/- What ReadInt's law answers: it is true. Conditions: a text as long as a machine holds. -/
import Derived.Test.YtbihpjngmjkjmaaDoorF7
import Derived.Test.YtbihpjngmjkjmaaDoorGread
namespace Go.Proofs.YtbihpjngmjkjmaaDoor.Pure
open Go.RowKit Go.Proofs.YtbihpjngmjkjmaaDoor.P Go.Proofs.YtbihpjngmjkjmaaDoorW.PrintWords Go.Proofs.YtbihpjngmjkjmaaDoorW.PrintLast Go.Proofs.YtbihpjngmjkjmaaDoor.Aux Go.Proofs.YtbihpjngmjkjmaaDoor.Dec
set_option linter.unusedVariables false
theorem FnExactReadInt : ∀ (a0 : ByteArray), a0.size ≤ maxLen → ∃ k, laws_FnExactReadInt.f k a0 = some true := by
  intro s hs
  apply Ev.rounds (r := true)
  unfold laws_FnExactReadInt.f
  by_cases h : (s.size : Int) > 1048576
  · exact Ev.ite_pos h (Ev.now _)
  · refine Ev.ite_neg h (Ev.bind (spec_read s (by omega)) (Ev.const (impl_read s (by omega)) ?_))
    rw [read_same s]
    exact Ev.ite_pos rfl (Ev.ite_neg (by simp) (Ev.now _))
end Go.Proofs.YtbihpjngmjkjmaaDoor.Pure
