/- The program's Alias answers as the reference's, for every two places. No conditions. -/
import Derived.Test.YthbonkpmaomhoaaF6
import Derived.Test.YthbonkpmaomhoaaAux
import Derived.Test.YthbonkpmaomhoaaOpenT
namespace Go.Proofs.Ythbonkpmaomhoaa.Pure.FnExactAlias_
open Go.RowKit Go.Proofs.Ythbonkpmaomhoaa.P Go.Proofs.YthbonkpmaomhoaaW.PrintWords Go.Proofs.YthbonkpmaomhoaaW.PrintLast Go.Proofs.Ythbonkpmaomhoaa.Aux Go.Proofs.Ythbonkpmaomhoaa.Opens
set_option linter.unusedVariables false
set_option linter.unusedSimpArgs false
theorem spec_ev (a b c d e f g h : Int) : Ev (fun k => spec_Alias.f k a b c d e f g h) (if a = e then (if b = f ∧ c = g then (if d = h then 2 else 0) else 1) else 0) := by
  unfold spec_Alias.f
  by_cases h1 : a = e
  · simp only [if_pos h1]
    by_cases h2 : b = f
    · simp only [if_pos h2]
      refine Ev.step (f := fun _ => _) (fun k => by rw [spec_Alias.j0]) ?_
      by_cases h3 : c = g
      · simp only [h3, h2, bne_self_eq_false, Bool.false_eq_true, if_false, and_self, if_true]
        by_cases h4 : d = h
        · simp only [if_pos h4]
          exact Ev.now _
        · simp only [if_neg h4]
          exact Ev.now _
      · have : (c != g) = true := bne_iff_ne.mpr h3
        simp only [this, if_true, h3, and_false, if_false]
        exact Ev.now _
    · simp only [if_neg h2, h2, false_and, if_false]
      exact Ev.step (f := fun _ => _) (fun k => by rw [spec_Alias.j0, if_pos rfl]) (Ev.now _)
  · simp only [if_neg h1]
    exact Ev.now _
theorem impl_some (a b c d e f g h : Int) : impl_Alias.f a b c d e f g h = some (if a = e then (if b = f ∧ c = g then (if d = h then 2 else 0) else 1) else 0) := by
  unfold impl_Alias.f impl_alias.f
  by_cases h1 : a = e
  · by_cases h2 : b = f
    · by_cases h3 : c = g
      · by_cases h4 : d = h <;> simp [h1, h2, h3, h4]
      · simp [h1, h2, h3]
    · simp [h1, h2]
  · simp [h1]
end Go.Proofs.Ythbonkpmaomhoaa.Pure.FnExactAlias_
namespace Go.Proofs.Ythbonkpmaomhoaa.Pure
open Go.RowKit Go.Proofs.Ythbonkpmaomhoaa.P Go.Proofs.YthbonkpmaomhoaaW.PrintWords Go.Proofs.YthbonkpmaomhoaaW.PrintLast Go.Proofs.Ythbonkpmaomhoaa.Aux Go.Proofs.Ythbonkpmaomhoaa.Opens
theorem FnExactAlias : ∀ (a0_0 : Int) (a0_1 : Int) (a0_2 : Int) (a0_3 : Int) (a1_0 : Int) (a1_1 : Int) (a1_2 : Int) (a1_3 : Int), (Lit.int .i64 a0_0).wf = true → (Lit.int .i64 a0_1).wf = true → (Lit.int .i64 a0_2).wf = true → (Lit.int .i64 a0_3).wf = true → (Lit.int .i64 a1_0).wf = true → (Lit.int .i64 a1_1).wf = true → (Lit.int .i64 a1_2).wf = true → (Lit.int .i64 a1_3).wf = true → ∃ k, laws_FnExactAlias.f k a0_0 a0_1 a0_2 a0_3 a1_0 a1_1 a1_2 a1_3 = some true := by
  intro a b c d e f g h _ _ _ _ _ _ _ _
  apply Ev.rounds (r := true)
  unfold laws_FnExactAlias.f laws_toPlace.f
  simp only [Option.bind_some, FnExactAlias_.impl_some]
  refine Ev.bind (FnExactAlias_.spec_ev a b c d e f g h) ?_
  exact Ev.ite_pos rfl (Ev.now _)
end Go.Proofs.Ythbonkpmaomhoaa.Pure
