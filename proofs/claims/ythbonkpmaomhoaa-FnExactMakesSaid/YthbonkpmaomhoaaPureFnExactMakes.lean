/- The program's Makes answers as the reference's, for every step. No conditions. -/
import Derived.Test.YthbonkpmaomhoaaF7
import Derived.Test.YthbonkpmaomhoaaAux
import Derived.Test.YthbonkpmaomhoaaOpenT
namespace Go.Proofs.Ythbonkpmaomhoaa.Pure.FnExactMakes_
open Go.RowKit Go.Proofs.Ythbonkpmaomhoaa.P Go.Proofs.YthbonkpmaomhoaaW.PrintWords Go.Proofs.YthbonkpmaomhoaaW.PrintLast Go.Proofs.Ythbonkpmaomhoaa.Aux Go.Proofs.Ythbonkpmaomhoaa.Opens
set_option linter.unusedVariables false
end Go.Proofs.Ythbonkpmaomhoaa.Pure.FnExactMakes_
namespace Go.Proofs.Ythbonkpmaomhoaa.Pure
open Go.RowKit Go.Proofs.Ythbonkpmaomhoaa.P Go.Proofs.YthbonkpmaomhoaaW.PrintWords Go.Proofs.YthbonkpmaomhoaaW.PrintLast Go.Proofs.Ythbonkpmaomhoaa.Aux Go.Proofs.Ythbonkpmaomhoaa.Opens
theorem FnExactMakes : ∀ (a0_0 : Int) (a0_1 : Int) (a0_2 : Int) (a0_3 : Int) (a0_4 : Int) (a0_5 : Int) (a0_6 : ByteArray), (Lit.int .i64 a0_0).wf = true → (Lit.int .i64 a0_1).wf = true → (Lit.int .i64 a0_2).wf = true → (Lit.int .i64 a0_3).wf = true → (Lit.int .i64 a0_4).wf = true → (Lit.int .i64 a0_5).wf = true → a0_6.size ≤ maxLen → laws_FnExactMakes.f a0_0 a0_1 a0_2 a0_3 a0_4 a0_5 a0_6 = some true := by
  intro a b c d e f s _ _ _ _ _ _ _
  obtain ⟨z, hz⟩ : ∃ z, laws_szInstr.f a b c d e f s 1048576 = some z := by unfold laws_szInstr.f; split <;> exact ⟨_, rfl⟩
  obtain ⟨m, hm⟩ : ∃ m, spec_Makes.f a b c d e f s = some m := by
    unfold spec_Makes.f
    repeat' split
    all_goals exact ⟨_, rfl⟩
  have hi : impl_Makes.f a b c d e f s = some m := by
    unfold impl_Makes.f
    rw [show impl_makes.f a b c d e f s = some m from hm]
    rfl
  unfold laws_FnExactMakes.f laws_toInstr.f
  simp only [hz, Option.bind_some, hm, hi, if_true]
  split <;> rfl
end Go.Proofs.Ythbonkpmaomhoaa.Pure
