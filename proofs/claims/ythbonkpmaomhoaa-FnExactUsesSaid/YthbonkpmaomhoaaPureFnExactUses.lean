/- The program's Uses answers as the reference's, for every step; its answer is new memory. No conditions. -/
import Derived.Test.YthbonkpmaomhoaaF12
import Derived.Test.YthbonkpmaomhoaaAux
import Derived.Test.YthbonkpmaomhoaaOpenT
namespace Go.Proofs.Ythbonkpmaomhoaa.Pure.FnExactUses_
open Go.RowKit Go.Proofs.Ythbonkpmaomhoaa.P Go.Proofs.YthbonkpmaomhoaaW.PrintWords Go.Proofs.YthbonkpmaomhoaaW.PrintLast Go.Proofs.Ythbonkpmaomhoaa.Aux Go.Proofs.Ythbonkpmaomhoaa.Opens
set_option linter.unusedVariables false
set_option linter.unusedSimpArgs false
/-- The slots that a step uses. -/
def uses (o a b c : Int) : List Int := if o = 1 ∨ o = 6 then [a] else if o = 2 then [a, b] else if o = 3 ∨ o = 4 then [b] ++ (if a ≥ 0 then [a] else []) ++ (if o = 4 then [c] else []) else []
theorem uses_length (o a b c : Int) : (uses o a b c).length ≤ 3 := by
  unfold uses
  repeat' split
  all_goals simp
theorem spec_j1 (o d a b c n : Int) (s : ByteArray) (x : Bool) : Ev (fun k => spec_Uses.j1 k x o d a b c n s) (if x = true then [b] ++ (if a ≥ 0 then [a] else []) ++ (if o = 4 then [c] else []) else []) := by
  refine Ev.step (fun k => by rw [spec_Uses.j1]) ?_
  by_cases hx : x = true <;> by_cases h1 : a ≥ 0 <;> by_cases h2 : o = 4 <;> simp [hx, h1, h2] <;> exact Ev.now _
theorem impl_j1 (o d a b c n : Int) (s : ByteArray) (x : Bool) : Ev (fun k => impl_usesOf.j1 k [] x o d a b c n s) (if x = true then [b] ++ (if a ≥ 0 then [a] else []) ++ (if o = 4 then [c] else []) else []) := by
  refine Ev.step (fun k => by rw [impl_usesOf.j1]) ?_
  by_cases hx : x = true <;> by_cases h1 : a ≥ 0 <;> by_cases h2 : o = 4 <;> simp [hx, h1, h2] <;> exact Ev.now _
theorem spec_ev (o d a b c n : Int) (s : ByteArray) : Ev (fun k => spec_Uses.f k o d a b c n s) (uses o a b c) := by
  unfold spec_Uses.f uses
  by_cases h1 : o = 1
  · subst h1
    simp only [if_true, true_or]
    exact Ev.step (f := fun _ => some _) (fun k => by rw [spec_Uses.j0]; rfl) (Ev.now _)
  · by_cases h6 : o = 6
    · subst h6
      simp only [or_true, if_true]
      exact Ev.step (f := fun _ => some _) (fun k => by rw [spec_Uses.j0]; rfl) (Ev.now _)
    · simp only [if_neg h1, h1, h6, or_self, if_false]
      refine Ev.step (fun k => by rw [spec_Uses.j0, if_neg (by simpa using h6)]) ?_
      by_cases h2 : o = 2
      · simp only [if_pos h2]
        exact Ev.now _
      · simp only [if_neg h2]
        by_cases h3 : o = 3
        · simp only [if_pos h3, h3, true_or, if_true]
          exact spec_j1 _ d a b c n s _
        · simp only [if_neg h3, h3, false_or]
          have h := spec_j1 o d a b c n s (o == 4)
          simpa using h
theorem impl_ev (o d a b c n : Int) (s : ByteArray) : Ev (fun k => impl_Uses.f k o d a b c n s) (uses o a b c) := by
  unfold impl_Uses.f
  refine Ev.bind (f := fun _ t => some t) ?_ (Ev.now _)
  unfold impl_usesOf.f uses
  simp only [Option.bind_some]
  by_cases h1 : o = 1
  · subst h1
    simp only [if_true, true_or]
    exact Ev.step (f := fun _ => some _) (fun k => by rw [impl_usesOf.j0]; rfl) (Ev.now _)
  · by_cases h6 : o = 6
    · subst h6
      simp only [or_true, if_true]
      exact Ev.step (f := fun _ => some _) (fun k => by rw [impl_usesOf.j0]; rfl) (Ev.now _)
    · simp only [if_neg h1, h1, h6, or_self, if_false]
      refine Ev.step (fun k => by rw [impl_usesOf.j0, if_neg (by simpa using h6)]) ?_
      by_cases h2 : o = 2
      · simp only [if_pos h2]
        exact Ev.now _
      · simp only [if_neg h2]
        by_cases h3 : o = 3
        · simp only [if_pos h3, h3, true_or, if_true]
          exact impl_j1 _ d a b c n s _
        · simp only [if_neg h3, h3, false_or]
          have h := impl_j1 o d a b c n s (o == 4)
          simpa using h
theorem ints_ev (l m : List Int) (hl : l.length ≤ 1048576) : Ev (fun k => laws_eqIntS.f k l m) (decide (l = m)) := eqInts_ev laws_eqIntS.f laws_eqIntS.l0 (fun _ _ _ => rfl) (fun _ _ _ _ => rfl) l m (by omega)
theorem mark_ev (l : List Int) (hl : l.length ≤ 1048576) : Ev (fun k => laws_markIntS.f k l 1) (1 + l.length, seqFrom 1 l.length) := markInts_ev laws_markIntS.f laws_markIntS.l0 (fun _ _ _ => rfl) (fun _ _ _ _ => rfl) l 1 (by omega) (by omega)
theorem held_ev (n : Nat) (hl : n ≤ 1048576) : Ev (fun k => laws_heldIntS.f k (seqFrom 1 n) 1) (1 + n) := heldInts_ev laws_heldIntS.f laws_heldIntS.l0 (fun _ _ _ => rfl) (fun _ _ _ _ => rfl) 1 n (by omega) (by omega)
end Go.Proofs.Ythbonkpmaomhoaa.Pure.FnExactUses_
namespace Go.Proofs.Ythbonkpmaomhoaa.Pure
open Go.RowKit Go.Proofs.Ythbonkpmaomhoaa.P Go.Proofs.YthbonkpmaomhoaaW.PrintWords Go.Proofs.YthbonkpmaomhoaaW.PrintLast Go.Proofs.Ythbonkpmaomhoaa.Aux Go.Proofs.Ythbonkpmaomhoaa.Opens
theorem FnExactUses : ∀ (a0_0 : Int) (a0_1 : Int) (a0_2 : Int) (a0_3 : Int) (a0_4 : Int) (a0_5 : Int) (a0_6 : ByteArray), (Lit.int .i64 a0_0).wf = true → (Lit.int .i64 a0_1).wf = true → (Lit.int .i64 a0_2).wf = true → (Lit.int .i64 a0_3).wf = true → (Lit.int .i64 a0_4).wf = true → (Lit.int .i64 a0_5).wf = true → a0_6.size ≤ maxLen → ∃ k, laws_FnExactUses.f k a0_0 a0_1 a0_2 a0_3 a0_4 a0_5 a0_6 = some true := by
  intro o d a b c n s _ _ _ _ _ _ _
  apply Ev.rounds (r := true)
  unfold laws_FnExactUses.f laws_toInstr.f
  simp only [Option.bind_some]
  obtain ⟨z, hz⟩ : ∃ z, laws_szInstr.f o d a b c n s 1048576 = some z := by unfold laws_szInstr.f; split <;> exact ⟨_, rfl⟩
  refine Ev.const hz ?_
  by_cases h1 : z < 0
  · exact Ev.ite_pos h1 (Ev.now _)
  have hl := FnExactUses_.uses_length o a b c
  have hs := FnExactUses_.spec_ev o d a b c n s
  have hi := FnExactUses_.impl_ev o d a b c n s
  refine Ev.ite_neg h1 (Ev.bind hs (Ev.bind hi (Ev.bind (FnExactUses_.ints_ev _ _ (by omega)) ?_)))
  refine Ev.ite_pos (by simp) (Ev.bind (FnExactUses_.mark_ev _ (by omega)) (Ev.bind (FnExactUses_.held_ev _ (by omega)) ?_))
  refine Ev.ite_neg (by omega) (Ev.ite_pos rfl (Ev.bind hi (Ev.bind (FnExactUses_.ints_ev _ _ (by omega)) ?_)))
  refine Ev.ite_pos (by simp) (Ev.bind (FnExactUses_.held_ev _ (by omega)) ?_)
  exact Ev.ite_neg (by omega) (Ev.ite_pos rfl (Ev.now _))
end Go.Proofs.Ythbonkpmaomhoaa.Pure
