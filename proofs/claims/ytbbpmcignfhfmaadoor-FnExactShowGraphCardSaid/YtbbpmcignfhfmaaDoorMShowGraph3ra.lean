/- What ShowGraph's law answers: it is true. Conditions: what came in is well made. -/
import Derived.Test.YtbbpmcignfhfmaaDoorMShowGraphxF4
import Derived.Test.YtbbpmcignfhfmaaDoorMShowGraph2ra
namespace Go.Proofs.YtbbpmcignfhfmaaDoor.Pure
open Go.RowKit Go.Proofs.YtbbpmcignfhfmaaDoor.P Go.Proofs.YtbbpmcignfhfmaaDoorW.PrintWords Go.Proofs.YtbbpmcignfhfmaaDoorW.PrintLast Go.Proofs.YtbbpmcignfhfmaaDoor.Aux Go.Proofs.YtbbpmcignfhfmaaDoor.Opens Go.Proofs.YtbbpmcignfhfmaaDoor.Gr
set_option linter.unusedVariables false
theorem FnExactShowGraph : ∀ (l0_0 : List (Int)) (a0_1 : Int) (a0_2 : Int) (a0_3 : Int) (l0_4 : List (S57)), (l0_0.length ≤ maxLen ∧ ∀ x_ ∈ l0_0, (Lit.int .i64 x_).wf = true) → (Lit.int .i64 a0_1).wf = true → (Lit.int .i64 a0_2).wf = true → (Lit.int .i64 a0_3).wf = true → (l0_4.length ≤ maxLen ∧ ∀ x_ ∈ l0_4, W57 x_) → ∃ k, laws_FnExactShowGraph.f k l0_0 a0_1 a0_2 a0_3 l0_4 = some true := by
  intro zs p v s bs hzs hp hv hs hbs
  apply Ev.rounds (r := true)
  unfold laws_FnExactShowGraph.f
  obtain ⟨z, hz, hzn, hz1⟩ := sz_ev zs p v s bs hzs.1 hbs 1048576 (by omega) (by omega)
  refine Ev.bind hz ?_
  by_cases h1 : z < 0
  · exact Ev.ite_pos h1 (Ev.now _)
  have hsm := hz1 (by omega)
  have tg := to_ev zs p v s bs hsm
  obtain ⟨R, r1, r2⟩ := Dec.graph_same zs p v s bs hsm hbs.2
  refine Ev.ite_neg h1 (Ev.bind tg (Ev.bind r1 (Ev.bind tg (Ev.bind r2 (Ev.ite_pos rfl ?_)))))
  exact Ev.bind tg (Ev.bind (eq_ev zs p v s bs hsm) (Ev.ite_pos rfl (Ev.now _)))
end Go.Proofs.YtbbpmcignfhfmaaDoor.Pure
