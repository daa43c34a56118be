/- The program's SameEnd answers as the reference's, for every two ends, and writes into none. No conditions. -/
import Derived.Test.YthbonkpmaomhoaaF11
import Derived.Test.YthbonkpmaomhoaaAux
import Derived.Test.YthbonkpmaomhoaaOpenT
namespace Go.Proofs.Ythbonkpmaomhoaa.Pure.FnExactSameEnd_
open Go.RowKit Go.Proofs.Ythbonkpmaomhoaa.P Go.Proofs.YthbonkpmaomhoaaW.PrintWords Go.Proofs.YthbonkpmaomhoaaW.PrintLast Go.Proofs.Ythbonkpmaomhoaa.Aux Go.Proofs.Ythbonkpmaomhoaa.Opens
set_option linter.unusedVariables false
theorem sz (a b : Int) (l : List Int) (n : Int) (h0 : 0 ≤ n) (hn : n ≤ 1048576) (hl : l.length ≤ maxLen) : ∃ z, laws_szEnd.f a b l n = some z ∧ (0 ≤ z → z = n - l.length) := by
  unfold maxLen at hl
  unfold laws_szEnd.f laws_szIntS.f
  rw [wrap_ok (by omega) (by omega)]
  by_cases h : n - (l.length : Int) < 0
  · rw [if_pos h]
    exact ⟨-1, rfl, fun h => by omega⟩
  · rw [if_neg h, Option.bind_some, if_neg h]
    exact ⟨_, rfl, fun _ => rfl⟩
theorem toEnd_ev (a b : Int) (l : List Int) (hl : l.length ≤ 1048576) : Ev (fun k => laws_toEnd.f k a b l) (a, b, l) :=
  Ev.bind (f := fun _ t => some (a, b, t)) (copyInts_ev laws_toIntS.f laws_toIntS.l0 (fun _ _ => rfl) (fun _ _ _ _ => rfl) l (by omega)) (Ev.now _)
theorem ints_ev (l m : List Int) (hl : l.length ≤ 1048576) : Ev (fun k => laws_eqIntS.f k l m) (decide (l = m)) := eqInts_ev laws_eqIntS.f laws_eqIntS.l0 (fun _ _ _ => rfl) (fun _ _ _ _ => rfl) l m (by omega)
theorem spec_ev (a b : Int) (l : List Int) (c d : Int) (m : List Int) (hl : l.length ≤ 1048576) : Ev (fun k => spec_SameEnd.f k a b l c d m) (if a = c then (if b = d then decide (l = m) else false) else false) := by
  unfold spec_SameEnd.f
  by_cases h1 : a = c
  · by_cases h2 : b = d
    · simp only [if_pos h1, if_pos h2]
      exact Ev.bind (f := fun _ t => some t) (eqInts_ev spec_l02Ints.f spec_l02Ints.l0 (fun _ _ _ => rfl) (fun _ _ _ _ => rfl) l m (by omega)) (Ev.now _)
    · simp only [if_pos h1, if_neg h2]
      exact Ev.now _
  · simp only [if_neg h1]
    exact Ev.now _
theorem impl_ev (a b : Int) (l : List Int) (c d : Int) (m : List Int) (hl : l.length ≤ 1048576) : Ev (fun k => impl_SameEnd.f k a b l c d m) (if a = c then (if b = d then decide (l = m) else false) else false) := by
  unfold impl_SameEnd.f
  by_cases h1 : a = c
  · by_cases h2 : b = d
    · simp only [if_pos h1, if_pos h2]
      exact Ev.bind (f := fun _ t => some t) (equalInts_ev slices_Equal_int_int.f slices_Equal_int_int.l0 (fun _ _ _ => rfl) (fun _ _ _ _ _ => rfl) l m (by omega)) (Ev.now _)
    · simp only [if_pos h1, if_neg h2]
      exact Ev.now _
  · simp only [if_neg h1]
    exact Ev.now _
theorem eqEnd_ev (a b : Int) (l : List Int) (hl : l.length ≤ 1048576) : Ev (fun k => laws_eqEnd.f k a b l a b l) true := by
  unfold laws_eqEnd.f
  simp only [if_true]
  refine Ev.bind (ints_ev l l hl) ?_
  simp only [decide_true, if_true]
  exact Ev.now _
end Go.Proofs.Ythbonkpmaomhoaa.Pure.FnExactSameEnd_
namespace Go.Proofs.Ythbonkpmaomhoaa.Pure
open Go.RowKit Go.Proofs.Ythbonkpmaomhoaa.P Go.Proofs.YthbonkpmaomhoaaW.PrintWords Go.Proofs.YthbonkpmaomhoaaW.PrintLast Go.Proofs.Ythbonkpmaomhoaa.Aux Go.Proofs.Ythbonkpmaomhoaa.Opens
theorem FnExactSameEnd : ∀ (a0_0 : Int) (a0_1 : Int) (l0_2 : List (Int)) (a1_0 : Int) (a1_1 : Int) (l1_2 : List (Int)), (Lit.int .i64 a0_0).wf = true → (Lit.int .i64 a0_1).wf = true → (l0_2.length ≤ maxLen ∧ ∀ x_ ∈ l0_2, (Lit.int .i64 x_).wf = true) → (Lit.int .i64 a1_0).wf = true → (Lit.int .i64 a1_1).wf = true → (l1_2.length ≤ maxLen ∧ ∀ x_ ∈ l1_2, (Lit.int .i64 x_).wf = true) → ∃ k, laws_FnExactSameEnd.f k a0_0 a0_1 l0_2 a1_0 a1_1 l1_2 = some true := by
  intro a b l c d m _ _ hl _ _ hm
  apply Ev.rounds (r := true)
  unfold laws_FnExactSameEnd.f
  obtain ⟨z, hz, hz1⟩ := FnExactSameEnd_.sz a b l 1048576 (by omega) (by omega) hl.1
  refine Ev.const hz ?_
  by_cases h1 : z < 0
  · exact Ev.ite_pos h1 (Ev.now _)
  refine Ev.ite_neg h1 ?_
  obtain ⟨y, hy, hy1⟩ := FnExactSameEnd_.sz c d m z (by omega) (by omega) hm.1
  refine Ev.const hy ?_
  by_cases h2 : y < 0
  · exact Ev.ite_pos h2 (Ev.now _)
  refine Ev.ite_neg h2 ?_
  have hl' : l.length ≤ 1048576 := by omega
  have hm' : m.length ≤ 1048576 := by omega
  have t1 := FnExactSameEnd_.toEnd_ev a b l hl'
  have t2 := FnExactSameEnd_.toEnd_ev c d m hm'
  refine Ev.bind t1 (Ev.bind t2 (Ev.bind (FnExactSameEnd_.spec_ev a b l c d m hl') (Ev.bind t1 (Ev.bind t2 (Ev.bind (FnExactSameEnd_.impl_ev a b l c d m hl') ?_)))))
  refine Ev.ite_neg (by simp) (Ev.bind t1 (Ev.bind (FnExactSameEnd_.eqEnd_ev a b l hl') ?_))
  refine Ev.ite_pos rfl (Ev.bind t2 (Ev.bind (FnExactSameEnd_.eqEnd_ev c d m hm') ?_))
  exact Ev.ite_pos rfl (Ev.now _)
end Go.Proofs.Ythbonkpmaomhoaa.Pure
