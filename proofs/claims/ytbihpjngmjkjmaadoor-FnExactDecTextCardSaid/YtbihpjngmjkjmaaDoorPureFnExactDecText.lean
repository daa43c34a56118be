/- What DecText's law answers: it is true. Conditions: a number of 64 bits. -/
import Derived.Test.YtbihpjngmjkjmaaDoorF3
import Derived.Test.YtbihpjngmjkjmaaDoorGdec
namespace Go.Proofs.YtbihpjngmjkjmaaDoor.Pure
open Go.RowKit Go.Proofs.YtbihpjngmjkjmaaDoor.P Go.Proofs.YtbihpjngmjkjmaaDoorW.PrintWords Go.Proofs.YtbihpjngmjkjmaaDoorW.PrintLast Go.Proofs.YtbihpjngmjkjmaaDoor.Aux Go.Proofs.YtbihpjngmjkjmaaDoor.Dec
set_option linter.unusedVariables false
theorem FnExactDecText : ∀ (a0 : Int), (Lit.int .i64 a0).wf = true → ∃ k, laws_FnExactDecText.f k a0 = some true := by
  intro n hn
  apply Ev.rounds (r := true)
  unfold laws_FnExactDecText.f
  obtain ⟨h0, h1⟩ := i64_wf hn
  refine Ev.bind (dec_ev n h0 h1) (Ev.const ?_ (Ev.ite_pos rfl (Ev.now _)))
  unfold impl_DecText.f
  rw [itoa_f n h0 h1]
  rfl
end Go.Proofs.YtbihpjngmjkjmaaDoor.Pure
