/- The program's Bin answers as the reference's, for every text and every two numbers. No conditions. -/
import Derived.Test.YthbonkpmaomhoaaPFnExactBinx1
namespace Go.Proofs.Ythbonkpmaomhoaa.Pure
open Go.RowKit Go.Proofs.Ythbonkpmaomhoaa.PFnExactBin Go.Proofs.YthbonkpmaomhoaaW.PrintWords Go.Proofs.YthbonkpmaomhoaaW.PrintLast

theorem same (s : ByteArray) (a b : Int) : impl_bin.f s a b = spec_Bin.f s a b := rfl
theorem total (s : ByteArray) (a b : Int) : ∃ r, spec_Bin.f s a b = some r := by
  unfold spec_Bin.f
  repeat' split
  all_goals exact ⟨_, rfl⟩
theorem FnExactBin : laws_FnExactBin.Pure := by
  intro s a b _ _ _
  obtain ⟨r, h⟩ := total s a b
  unfold laws_FnExactBin.f impl_Bin.f
  rw [same, h]
  simp

end Go.Proofs.Ythbonkpmaomhoaa.Pure
