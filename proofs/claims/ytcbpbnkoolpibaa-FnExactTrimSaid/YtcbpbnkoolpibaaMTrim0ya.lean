/- What stays of an ascending row when runs are made single, in plain Lean. -/
import Derived.Lib.SlicesCompact
namespace Go.Proofs.Ytcbpbnkoolpibaa.P
theorem cut_asc (d : Array Int) (n : Nat) (hs : ∀ i j, i ≤ j → j < n → d[i]! ≤ d[j]!) : ∀ m, m ≤ n → (Lib.compactUpTo d m).Pairwise (· < ·) ∧ ∀ y, y ∈ Lib.compactUpTo d m ↔ ∃ j, j < m ∧ d[j]! = y
  | 0, _ => by simp [Lib.compactUpTo]
  | m + 1, hm => by
    obtain ⟨h1, h2⟩ := cut_asc d n hs m (by omega)
    rw [Lib.compactUpTo_succ]
    by_cases hk : Lib.keeps d m = true
    · rw [if_pos hk]
      refine ⟨List.pairwise_append.2 ⟨h1, by simp, fun y hy z hz => ?_⟩, fun y => ?_⟩
      · obtain ⟨j, hj, rfl⟩ := (h2 y).1 hy
        obtain rfl := List.mem_singleton.1 hz
        have a := hs j (m - 1) (by omega) (by omega)
        have b := hs (m - 1) m (by omega) (by omega)
        have c : m = 0 ∨ d[m]! ≠ d[m - 1]! := of_decide_eq_true hk
        omega
      · rw [List.mem_append, h2, List.mem_singleton]
        constructor
        · rintro (⟨j, hj, e⟩ | rfl)
          · exact ⟨j, by omega, e⟩
          · exact ⟨m, by omega, rfl⟩
        · rintro ⟨j, hj, e⟩
          by_cases hjm : j = m
          · subst hjm
            exact .inr e.symm
          · exact .inl ⟨j, by omega, e⟩
    · rw [if_neg hk, List.append_nil]
      refine ⟨h1, fun y => ?_⟩
      have c : ¬ (m = 0 ∨ d[m]! ≠ d[m - 1]!) := fun h => hk (decide_eq_true h)
      rw [h2]
      constructor
      · rintro ⟨j, hj, e⟩
        exact ⟨j, by omega, e⟩
      · rintro ⟨j, hj, e⟩
        by_cases hjm : j = m
        · subst hjm
          exact ⟨j - 1, by omega, by rw [← e]; by_cases q : d[j]! = d[j - 1]!; exact q.symm; exact absurd (Or.inr q) c⟩
        · exact ⟨j, by omega, e⟩
theorem compact_asc (s : List Int) (hs : s.Pairwise (· ≤ ·)) : (Lib.compact s).Pairwise (· < ·) ∧ ∀ y, y ∈ Lib.compact s ↔ y ∈ s := by
  have hm : ∀ i j, i ≤ j → j < s.length → s.toArray[i]! ≤ s.toArray[j]! := fun i j hij hj => by
    rw [getElem!_pos s.toArray i (by simpa using (by omega)), getElem!_pos s.toArray j (by simpa using hj)]
    by_cases e : i = j
    · subst e
      exact Int.le_refl _
    · simpa using List.pairwise_iff_getElem.1 hs i j (by omega) hj (by omega)
  obtain ⟨h1, h2⟩ := cut_asc s.toArray s.length hm s.length (Nat.le_refl _)
  refine ⟨h1, fun y => (h2 y).trans ?_⟩
  rw [List.mem_iff_getElem]
  constructor
  · rintro ⟨j, hj, e⟩
    rw [getElem!_pos s.toArray j (by simpa using hj)] at e
    exact ⟨j, hj, by simpa using e⟩
  · rintro ⟨j, hj, e⟩
    refine ⟨j, hj, ?_⟩
    rw [getElem!_pos s.toArray j (by simpa using hj)]
    simpa using e
theorem asc_sorted (zs : List Int) : (Lib.compact (zs.mergeSort fun x y => decide (x ≤ y))).Pairwise (· < ·) ∧ ∀ y, y ∈ Lib.compact (zs.mergeSort fun x y => decide (x ≤ y)) ↔ y ∈ zs := by
  have hp : (zs.mergeSort fun x y => decide (x ≤ y)).Pairwise (fun a b => decide (a ≤ b) = true) := List.pairwise_mergeSort (fun a b c => by simp; omega) (fun a b => by simp; omega) zs
  obtain ⟨h1, h2⟩ := compact_asc _ (hp.imp fun h => of_decide_eq_true h)
  exact ⟨h1, fun y => (h2 y).trans List.mem_mergeSort⟩
end Go.Proofs.Ytcbpbnkoolpibaa.P
