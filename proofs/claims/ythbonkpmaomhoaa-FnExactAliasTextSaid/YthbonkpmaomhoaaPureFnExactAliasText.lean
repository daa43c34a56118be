/- The program's AliasText answers as the reference's, for every number. No conditions. -/
import Derived.Test.YthbonkpmaomhoaaPFnExactAliasTextx1
namespace Go.Proofs.Ythbonkpmaomhoaa.Pure
open Go.RowKit Go.Proofs.Ythbonkpmaomhoaa.PFnExactAliasText Go.Proofs.YthbonkpmaomhoaaW.PrintWords Go.Proofs.YthbonkpmaomhoaaW.PrintLast

theorem same_in (a b c : Int) : impl_in.f a b c = spec_l01In.f a b c := rfl
theorem same (a : Int) : impl_AliasText.f a = spec_AliasText.f a := rfl
theorem total (a : Int) : ∃ r, spec_AliasText.f a = some r := by
  unfold spec_AliasText.f spec_l01In.f
  by_cases h : a ≥ 0
  · rw [if_pos h]
    simp only [Option.bind_some]
    by_cases h2 : a ≤ 2
    · rw [if_pos (by simpa using h2), if_pos h, if_pos (by simp; omega)]
      exact ⟨_, rfl⟩
    · rw [if_neg (by simpa using h2)]
      exact ⟨_, rfl⟩
  · rw [if_neg h]
    exact ⟨_, rfl⟩
theorem FnExactAliasText : laws_FnExactAliasText.Pure := by
  intro a _
  obtain ⟨r, h⟩ := total a
  unfold laws_FnExactAliasText.f
  rw [same, h]
  simp

end Go.Proofs.Ythbonkpmaomhoaa.Pure
