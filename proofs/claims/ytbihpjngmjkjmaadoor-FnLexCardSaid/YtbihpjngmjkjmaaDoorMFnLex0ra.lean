/- Numerals and what they spell, over lists of bytes. No program in sight. -/
import Derived.Test.YtbihpjngmjkjmaaDoorMFnLex0sa
import Derived.Lib.AtoiTie
namespace Go.Proofs.YtbihpjngmjkjmaaDoor.Dec
open Go.RowKit Go.Lib
set_option linter.unusedVariables false
set_option linter.unusedSimpArgs false
theorem digitVal_dig (d : Nat) (h : d < 10) : digitVal (UInt8.ofNat (48 + d)) = some d := by
  have : ∀ d : Fin 10, digitVal (UInt8.ofNat (48 + d.val)) = some d.val := by decide
  exact this ⟨d, h⟩
theorem decFrom_snoc (l : List UInt8) (c : UInt8) : ∀ acc, decFrom acc (l ++ [c]) = (decFrom acc l).bind fun m => (digitVal c).map fun d => m * 10 + d := by
  induction l with
  | nil =>
    intro acc
    simp only [List.nil_append, decFrom, Option.bind_some]
    cases digitVal c <;> rfl
  | cons b r ih =>
    intro acc
    simp only [List.cons_append, decFrom]
    cases digitVal b with
    | none => rfl
    | some d => exact ih _
theorem decFrom_digits (u : Nat) : decFrom 0 (decDigits u) = some u := by
  induction u using Nat.strongRecOn with
  | _ u ih =>
    by_cases h : u < 10
    · rw [decDigits, dif_pos h]
      simp only [decFrom, digitVal_dig u h]
      rw [Nat.zero_mul, Nat.zero_add]
    · rw [decDigits, dif_neg h, decFrom_snoc, ih (u / 10) (by omega), digitVal_dig (u % 10) (by omega)]
      simp only [Option.bind_some, Option.map_some, Option.some.injEq]
      omega
theorem digits_ne (u : Nat) : decDigits u ≠ [] := by
  rw [decDigits]
  split <;> simp
theorem decNat_digits (u : Nat) : decNat (decDigits u) = some u := by
  unfold decNat
  rw [if_neg (by simpa using digits_ne u)]
  exact decFrom_digits u
theorem digits_all (u : Nat) : ∀ b ∈ decDigits u, ∃ d, digitVal b = some d := by
  intro b hb
  obtain ⟨k, hk, rfl⟩ := List.getElem_of_mem hb
  exact digit_of_decFrom _ 0 u (decFrom_digits u) k _ (List.getElem?_eq_getElem hk)
theorem digit_ne45 {b : UInt8} {d : Nat} (h : digitVal b = some d) : b.toNat ≠ 45 ∧ b.toNat ≠ 43 := by
  unfold digitVal at h
  split at h
  · omega
  · cases h
theorem ne45 {b : UInt8} {d : Nat} (h : digitVal b = some d) : (b == 45) = false ∧ (b == 43) = false := by
  have h1 := digit_ne45 h
  constructor
  · rw [beq_eq_false_iff_ne]
    rintro rfl
    exact h1.1 rfl
  · rw [beq_eq_false_iff_ne]
    rintro rfl
    exact h1.2 rfl
theorem atoi_digits {l : List UInt8} (hne : l ≠ []) (h : ∀ b ∈ l, ∃ d, digitVal b = some d) : atoi l = (decNat l).map fun (m : Nat) => (m : Int) := by
  cases l with
  | nil => exact absurd rfl hne
  | cons b r =>
    obtain ⟨d, hd⟩ := h b (by simp)
    obtain ⟨h1, h2⟩ := ne45 hd
    simp only [atoi, h1, h2]
    rfl
theorem digits_le6 (u : Nat) (h : u ≤ 999999) : (decDigits u).length ≤ 6 := by
  by_cases hz : u = 0
  · subst hz
    rw [decDigits, dif_pos (by decide)]
    simp
  · have := digs_le 6 u (by have : (10 : Nat) ^ 6 = 1000000 := by decide
                            omega)
    unfold digs at this
    rw [if_neg hz] at this
    exact this
/-- The numeral of a number that is not great is read back. -/
theorem atoi_itoa (v : Int) (h0 : -999999 ≤ v) (h1 : v ≤ 999999) : atoiAll (itoa v) = .ok v := by
  have hl : (itoa v).length ≤ 18 := by
    unfold itoa
    split
    · have := digits_le6 v.natAbs (by omega)
      simp only [List.length_cons]
      omega
    · have := digits_le6 v.toNat (by omega)
      omega
  rw [atoiAll_short _ hl]
  have : atoi (itoa v) = some v := by
    unfold itoa
    split
    · rw [atoi, if_pos (by decide), decNat_digits]
      simp only [Option.map_some, Option.some.injEq]
      omega
    · rw [atoi_digits (digits_ne _) (digits_all _), decNat_digits]
      simp only [Option.map_some, Option.some.injEq]
      omega
  rw [this]
  rfl
/-- What stands behind the sign. -/
def behind (l : List UInt8) : List UInt8 := match l with
  | b :: r => if b.toNat = 45 then r else l
  | [] => []
theorem behind_itoa (v : Int) : behind (itoa v) = decDigits v.natAbs := by
  unfold itoa
  split
  · rfl
  · rename_i h
    have hn : v.toNat = v.natAbs := by omega
    rw [hn]
    cases hd : decDigits v.natAbs with
    | nil => exact absurd hd (digits_ne _)
    | cons b r =>
      obtain ⟨d, hb⟩ := digits_all v.natAbs b (by rw [hd]; simp)
      show (if b.toNat = 45 then r else b :: r) = b :: r
      rw [if_neg (digit_ne45 hb).1]
end Go.Proofs.YtbihpjngmjkjmaaDoor.Dec
