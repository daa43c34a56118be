/- What PlaceText's law answers: it is true. Conditions: numbers of 64 bits. -/
import Derived.Test.YtbihpjngmjkjmaaDoorF4
import Derived.Test.YtbihpjngmjkjmaaDoorGplace
namespace Go.Proofs.YtbihpjngmjkjmaaDoor.Pure
open Go.RowKit Go.Proofs.YtbihpjngmjkjmaaDoor.P Go.Proofs.YtbihpjngmjkjmaaDoorW.PrintWords Go.Proofs.YtbihpjngmjkjmaaDoorW.PrintLast Go.Proofs.YtbihpjngmjkjmaaDoor.Aux Go.Proofs.YtbihpjngmjkjmaaDoor.Dec
set_option linter.unusedVariables false
theorem FnExactPlaceText : ∀ (a0_0 : Int) (a0_1 : Int) (a0_2 : Int) (a0_3 : Int), (Lit.int .i64 a0_0).wf = true → (Lit.int .i64 a0_1).wf = true → (Lit.int .i64 a0_2).wf = true → (Lit.int .i64 a0_3).wf = true → ∃ k, laws_FnExactPlaceText.f k a0_0 a0_1 a0_2 a0_3 = some true := by
  intro a b c d ha hb hc hd
  apply Ev.rounds (r := true)
  unfold laws_FnExactPlaceText.f
  exact Ev.const rfl (Ev.bind (spec_place a b c d (i64_wf ha) (i64_wf hb) (i64_wf hc) (i64_wf hd)) (Ev.const rfl (Ev.bind (impl_place a b c d (i64_wf ha) (i64_wf hb) (i64_wf hc) (i64_wf hd)) (Ev.ite_pos rfl (Ev.now _)))))
end Go.Proofs.YtbihpjngmjkjmaaDoor.Pure
