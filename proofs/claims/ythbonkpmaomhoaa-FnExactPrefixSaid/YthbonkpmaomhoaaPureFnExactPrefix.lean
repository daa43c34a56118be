/- The program's Prefix answers as the reference's, for every two slices of numbers, and writes into none. No conditions. -/
import Derived.Test.YthbonkpmaomhoaaF9
import Derived.Test.YthbonkpmaomhoaaAux
import Derived.Test.YthbonkpmaomhoaaOpenT
namespace Go.Proofs.Ythbonkpmaomhoaa.Pure.FnExactPrefix_
open Go.RowKit Go.Proofs.Ythbonkpmaomhoaa.P Go.Proofs.YthbonkpmaomhoaaW.PrintWords Go.Proofs.YthbonkpmaomhoaaW.PrintLast Go.Proofs.Ythbonkpmaomhoaa.Aux Go.Proofs.Ythbonkpmaomhoaa.Opens
set_option linter.unusedVariables false
set_option linter.unusedSimpArgs false
theorem toInts_ev (l : List Int) (hl : l.length ≤ 1048576) : Ev (fun k => laws_toIntS.f k l) l := copyInts_ev laws_toIntS.f laws_toIntS.l0 (fun _ _ => rfl) (fun _ _ _ _ => rfl) l (by omega)
theorem ints_ev (l m : List Int) (hl : l.length ≤ 1048576) : Ev (fun k => laws_eqIntS.f k l m) (decide (l = m)) := eqInts_ev laws_eqIntS.f laws_eqIntS.l0 (fun _ _ _ => rfl) (fun _ _ _ _ => rfl) l m (by omega)
theorem spec_ev (l m : List Int) (hl : l.length ≤ 1048576) : Ev (fun k => spec_Prefix.f k l m) (if l.length ≤ m.length then decide (l = m.take l.length) else false) := by
  unfold spec_Prefix.f
  by_cases h : l.length ≤ m.length
  · simp only [if_pos h]
    exact eqInts_ev spec_l02Ints.f spec_l02Ints.l0 (fun _ _ _ => rfl) (fun _ _ _ _ => rfl) l _ (by omega)
  · simp only [if_neg h]
    exact Ev.now _
theorem impl_ev (l m : List Int) (hl : l.length ≤ 1048576) : Ev (fun k => impl_Prefix.f k l m) (if l.length ≤ m.length then decide (l = m.take l.length) else false) := by
  unfold impl_Prefix.f
  by_cases h : l.length ≤ m.length
  · simp only [if_pos h]
    exact equalInts_ev slices_Equal_int_int.f slices_Equal_int_int.l0 (fun _ _ _ => rfl) (fun _ _ _ _ _ => rfl) l _ (by omega)
  · simp only [if_neg h]
    exact Ev.now _
end Go.Proofs.Ythbonkpmaomhoaa.Pure.FnExactPrefix_
namespace Go.Proofs.Ythbonkpmaomhoaa.Pure
open Go.RowKit Go.Proofs.Ythbonkpmaomhoaa.P Go.Proofs.YthbonkpmaomhoaaW.PrintWords Go.Proofs.YthbonkpmaomhoaaW.PrintLast Go.Proofs.Ythbonkpmaomhoaa.Aux Go.Proofs.Ythbonkpmaomhoaa.Opens
theorem FnExactPrefix : ∀ (l0 : List (Int)) (l1 : List (Int)), (l0.length ≤ maxLen ∧ ∀ x_ ∈ l0, (Lit.int .i64 x_).wf = true) → (l1.length ≤ maxLen ∧ ∀ x_ ∈ l1, (Lit.int .i64 x_).wf = true) → ∃ k, laws_FnExactPrefix.f k l0 l1 = some true := by
  intro l m _ _
  apply Ev.rounds (r := true)
  unfold laws_FnExactPrefix.f
  by_cases h1 : (l.length : Int) > 1048576
  · exact Ev.ite_pos h1 (Ev.now _)
  refine Ev.ite_neg h1 ?_
  by_cases h2 : (m.length : Int) > 1048576
  · exact Ev.ite_pos h2 (Ev.now _)
  refine Ev.ite_neg h2 ?_
  have hl : l.length ≤ 1048576 := by omega
  have hm : m.length ≤ 1048576 := by omega
  have t1 := FnExactPrefix_.toInts_ev l hl
  have t2 := FnExactPrefix_.toInts_ev m hm
  refine Ev.bind t1 (Ev.bind t2 (Ev.bind (FnExactPrefix_.spec_ev l m hl) (Ev.bind t1 (Ev.bind t2 (Ev.bind (FnExactPrefix_.impl_ev l m hl) ?_)))))
  refine Ev.ite_neg (by simp) (Ev.bind t1 (Ev.bind (FnExactPrefix_.ints_ev l l hl) ?_))
  refine Ev.ite_pos (by simp) (Ev.bind t2 (Ev.bind (FnExactPrefix_.ints_ev m m hm) ?_))
  exact Ev.ite_pos (by simp) (Ev.now _)
end Go.Proofs.Ythbonkpmaomhoaa.Pure
