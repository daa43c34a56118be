/- Numerals and what they spell, over lists of bytes. No program in sight. -/
import Derived.Test.YtbihpjngmjkjmaaDoorMLex0sa
import Derived.Lib.AtoiTie
namespace Go.Proofs.YtbihpjngmjkjmaaDoor.Dec
open Go.RowKit Go.Lib
set_option linter.unusedVariables false
set_option linter.unusedSimpArgs false
theorem digit_ne45 {b : UInt8} {d : Nat} (h : digitVal b = some d) : b.toNat ≠ 45 ∧ b.toNat ≠ 43 := by
  unfold digitVal at h
  split at h
  · omega
  · cases h
theorem ne45 {b : UInt8} {d : Nat} (h : digitVal b = some d) : (b == 45) = false ∧ (b == 43) = false := by
  have h1 := digit_ne45 h
  constructor
  · rw [beq_eq_false_iff_ne]
    rintro rfl
    exact h1.1 rfl
  · rw [beq_eq_false_iff_ne]
    rintro rfl
    exact h1.2 rfl
theorem atoi_digits {l : List UInt8} (hne : l ≠ []) (h : ∀ b ∈ l, ∃ d, digitVal b = some d) : atoi l = (decNat l).map fun (m : Nat) => (m : Int) := by
  cases l with
  | nil => exact absurd rfl hne
  | cons b r =>
    obtain ⟨d, hd⟩ := h b (by simp)
    obtain ⟨h1, h2⟩ := ne45 hd
    simp only [atoi, h1, h2]
    rfl
end Go.Proofs.YtbihpjngmjkjmaaDoor.Dec
