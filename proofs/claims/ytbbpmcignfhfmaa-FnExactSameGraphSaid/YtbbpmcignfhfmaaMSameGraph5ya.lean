/- What SameGraph's law answers: it is true. Conditions: what came in is well made. -/
import Derived.Test.YtbbpmcignfhfmaaMSameGraphxF5
import Derived.Test.YtbbpmcignfhfmaaMSameGraph4ya
namespace Go.Proofs.Ytbbpmcignfhfmaa.Pure
open Go.RowKit Go.Proofs.Ytbbpmcignfhfmaa.P Go.Proofs.YtbbpmcignfhfmaaW.PrintWords Go.Proofs.YtbbpmcignfhfmaaW.PrintLast Go.Proofs.Ytbbpmcignfhfmaa.Aux Go.Proofs.Ytbbpmcignfhfmaa.Opens Go.Proofs.Ytbbpmcignfhfmaa.Gr
set_option linter.unusedVariables false
theorem FnExactSameGraph : ∀ (l0_0 : List (Int)) (a0_1 : Int) (a0_2 : Int) (a0_3 : Int) (l0_4 : List (S44)) (l1_0 : List (Int)) (a1_1 : Int) (a1_2 : Int) (a1_3 : Int) (l1_4 : List (S44)), (l0_0.length ≤ maxLen ∧ ∀ x_ ∈ l0_0, (Lit.int .i64 x_).wf = true) → (Lit.int .i64 a0_1).wf = true → (Lit.int .i64 a0_2).wf = true → (Lit.int .i64 a0_3).wf = true → (l0_4.length ≤ maxLen ∧ ∀ x_ ∈ l0_4, W44 x_) → (l1_0.length ≤ maxLen ∧ ∀ x_ ∈ l1_0, (Lit.int .i64 x_).wf = true) → (Lit.int .i64 a1_1).wf = true → (Lit.int .i64 a1_2).wf = true → (Lit.int .i64 a1_3).wf = true → (l1_4.length ≤ maxLen ∧ ∀ x_ ∈ l1_4, W44 x_) → ∃ k, laws_FnExactSameGraph.f k l0_0 a0_1 a0_2 a0_3 l0_4 l1_0 a1_1 a1_2 a1_3 l1_4 = some true := by
  intro zs p v s bs zs' p' v' s' bs' hzs hp hv hs hbs hzs' hp' hv' hs' hbs'
  apply Ev.rounds (r := true)
  unfold laws_FnExactSameGraph.f
  obtain ⟨z, hz, hzn, hz1⟩ := sz_ev zs p v s bs hzs.1 hbs 1048576 (by omega) (by omega)
  refine Ev.bind hz ?_
  by_cases h1 : z < 0
  · exact Ev.ite_pos h1 (Ev.now _)
  have hsm := hz1 (by omega)
  obtain ⟨y, hy, _, hy1⟩ := sz_ev zs' p' v' s' bs' hzs'.1 hbs' z (by omega) hzn
  refine Ev.ite_neg h1 (Ev.bind hy ?_)
  by_cases h2 : y < 0
  · exact Ev.ite_pos h2 (Ev.now _)
  have hsm' := hy1 (by omega)
  have tg := to_ev zs p v s bs hsm
  have tg' := to_ev zs' p' v' s' bs' hsm'
  have hbl : (bs.map convB).length ≤ 1048576 := by rw [List.length_map]; exact hsm.blocks
  have hcc : ∀ b ∈ bs.map convB, b.f0.length ≤ 4294967296 := fun b hb => by have := conv_code hsm b hb; omega
  refine Ev.ite_neg h2 (Ev.bind tg (Ev.bind tg' (Ev.bind (specSame_ev zs p v s (bs.map convB) zs' p' v' s' (bs'.map convB) hsm.sizes hbl hcc) (Ev.bind tg (Ev.bind tg' (Ev.bind (implSame_ev zs p v s (bs.map convB) zs' p' v' s' (bs'.map convB) hsm.sizes (by omega) hcc) ?_))))))
  refine Ev.ite_neg (by simp) (Ev.bind tg (Ev.bind (eq_ev zs p v s bs hsm) ?_))
  refine Ev.ite_pos rfl (Ev.bind tg' (Ev.bind (eq_ev zs' p' v' s' bs' hsm') ?_))
  exact Ev.ite_pos rfl (Ev.now _)
end Go.Proofs.Ytbbpmcignfhfmaa.Pure
