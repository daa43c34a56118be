/- What MaxSlot's law answers: it is true. Conditions: what came in is well made. -/
import Derived.Test.YtbbpmcignfhfmaaMMaxSlotxF9
import Derived.Test.YtbbpmcignfhfmaaMMaxSlot4va
namespace Go.Proofs.Ytbbpmcignfhfmaa.Pure
open Go.RowKit Go.Proofs.Ytbbpmcignfhfmaa.P Go.Proofs.YtbbpmcignfhfmaaW.PrintWords Go.Proofs.YtbbpmcignfhfmaaW.PrintLast Go.Proofs.Ytbbpmcignfhfmaa.Aux Go.Proofs.Ytbbpmcignfhfmaa.Opens Go.Proofs.Ytbbpmcignfhfmaa.Gr
set_option linter.unusedVariables false
theorem FnExactMaxSlot : ∀ (l0_0 : List (Int)) (a0_1 : Int) (a0_2 : Int) (a0_3 : Int) (l0_4 : List (S44)), (l0_0.length ≤ maxLen ∧ ∀ x_ ∈ l0_0, (Lit.int .i64 x_).wf = true) → (Lit.int .i64 a0_1).wf = true → (Lit.int .i64 a0_2).wf = true → (Lit.int .i64 a0_3).wf = true → (l0_4.length ≤ maxLen ∧ ∀ x_ ∈ l0_4, W44 x_) → ∃ k, laws_FnExactMaxSlot.f k l0_0 a0_1 a0_2 a0_3 l0_4 = some true := by
  intro zs p v s bs hzs hp hv hs hbs
  apply Ev.rounds (r := true)
  unfold laws_FnExactMaxSlot.f
  obtain ⟨z, hz, _, hz1⟩ := sz_ev zs p v s bs hzs.1 hbs 1048576 (by omega) (by omega)
  refine Ev.bind hz ?_
  by_cases h1 : z < 0
  · exact Ev.ite_pos h1 (Ev.now _)
  have hsm := hz1 (by omega)
  have tg := to_ev zs p v s bs hsm
  obtain ⟨r, r1, r2⟩ := MaxSlot_same zs p v s bs hsm hzs hp hv hs hbs
  refine Ev.ite_neg h1 (Ev.bind tg (Ev.bind r1 (Ev.bind tg (Ev.bind r2 ?_))))
  refine Ev.ite_pos rfl (Ev.bind tg (Ev.bind (eq_ev zs p v s bs hsm) ?_))
  exact Ev.ite_pos rfl (Ev.now _)
end Go.Proofs.Ytbbpmcignfhfmaa.Pure
