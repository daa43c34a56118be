/- What FnExactSameProgram answers: it is true. Conditions: what a machine holds. -/
import Derived.Test.YtjcggilkfofiaaaMSameProgram3ya
import Derived.Test.YtjcggilkfofiaaaMSameProgram0xa
namespace Go.Proofs.Ytjcggilkfofiaaa.Pure
open Go.RowKit Go.Proofs.Ytjcggilkfofiaaa.P Go.Proofs.Ytjcggilkfofiaaa.Ex Go.Proofs.YtjcggilkfofiaaaW.PrintWords Go.Proofs.YtjcggilkfofiaaaW.PrintLast Go.Proofs.Ytjcggilkfofiaaa.Aux Go.Proofs.Ytjcggilkfofiaaa.Opens
set_option linter.unusedVariables false
set_option linter.unusedSimpArgs false
theorem spec_ev (zs : List Int) (p v : Int) (b : List S62) (zs' : List Int) (p' v' : Int) (b' : List S62) (h : zs.length ≤ 1048576) : Ev (fun k => spec_SameProgram.f k zs p v b zs' p' v' b') (decide (zs = zs') && decide (p = p') && decide (v = v') && eqSs b b') := by
  have hi := eqInts_ev spec_l02Ints.f spec_l02Ints.l0 (fun _ _ _ => rfl) (fun _ _ _ _ => rfl) zs zs' (by omega)
  refine Ev.bind hi ?_
  by_cases e : zs = zs'
  · rw [decide_eq_true e]
    refine Ev.ite_pos rfl ?_
    by_cases e1 : p = p'
    · refine Ev.ite_pos e1 ?_
      by_cases e2 : v = v'
      · refine Ev.ite_pos e2 (Ev.const (a := eqSs b b') rfl ?_)
        simp only [e1, e2, decide_true, Bool.true_and]
        exact Ev.now _
      · refine Ev.ite_neg e2 ?_
        simp only [e2, decide_false, Bool.and_false, Bool.false_and]
        exact Ev.now _
    · refine Ev.ite_neg e1 ?_
      simp only [e1, decide_false, Bool.and_false, Bool.false_and]
      exact Ev.now _
  · rw [decide_eq_false e]
    refine Ev.ite_neg (by simp) ?_
    simp only [Bool.false_and]
    exact Ev.now _
theorem FnExactSameProgram : ∀ (l0_0 : List (Int)) (a0_1 : Int) (a0_2 : Int) (l0_3 : List (S76)) (l1_0 : List (Int)) (a1_1 : Int) (a1_2 : Int) (l1_3 : List (S76)), (l0_0.length ≤ maxLen ∧ ∀ x_ ∈ l0_0, (Lit.int .i64 x_).wf = true) → (Lit.int .i64 a0_1).wf = true → (Lit.int .i64 a0_2).wf = true → (l0_3.length ≤ maxLen ∧ ∀ x_ ∈ l0_3, W76 x_) → (l1_0.length ≤ maxLen ∧ ∀ x_ ∈ l1_0, (Lit.int .i64 x_).wf = true) → (Lit.int .i64 a1_1).wf = true → (Lit.int .i64 a1_2).wf = true → (l1_3.length ≤ maxLen ∧ ∀ x_ ∈ l1_3, W76 x_) → ∃ k, laws_FnExactSameProgram.f k l0_0 a0_1 a0_2 l0_3 l1_0 a1_1 a1_2 l1_3 = some true := by
  intro zs p v b zs' p' v' b' hz _ _ hb hz' _ _ hb'
  apply Ev.rounds (r := true)
  unfold laws_FnExactSameProgram.f
  refine Ev.const (szP_f hz.1 hb (by omega) (by omega)) ?_
  by_cases h1 : (szP zs b : Int) ≤ 1048576
  · rw [lftE_yes h1]
    refine Ev.ite_neg (by omega) (Ev.const (szP_f hz'.1 hb' (by omega) (by omega)) ?_)
    by_cases h2 : (szP zs' b' : Int) ≤ 1048576 - (szP zs b : Int)
    · rw [lftE_yes h2]
      have g1 : szP zs b ≤ 1048576 := by omega
      have g2 : szP zs' b' ≤ 1048576 := by omega
      have hzl : zs.length ≤ 1048576 := by unfold szP at g1; omega
      refine Ev.ite_neg (by omega) (Ev.bind (toP_ev g1) (Ev.bind (toP_ev g2) (Ev.bind (spec_ev zs p v (toSs b) zs' p' v' (toSs b') hzl) (Ev.bind (toP_ev g1) (Ev.bind (toP_ev g2) ?_)))))
      refine Ev.const (a := (decide (zs = zs') && decide (p = p') && decide (v = v') && eqSs (toSs b) (toSs b'))) rfl ?_
      refine Ev.ite_neg (by simp) (Ev.bind (toP_ev g1) (Ev.bind (eqP_ev g1) (Ev.ite_pos rfl (Ev.bind (toP_ev g2) (Ev.bind (eqP_ev g2) (Ev.ite_pos rfl (Ev.now _)))))))
    · rw [lftE_no h2]
      exact Ev.ite_pos (by omega) (Ev.now _)
  · rw [lftE_no h1]
    exact Ev.ite_pos (by omega) (Ev.now _)
end Go.Proofs.Ytjcggilkfofiaaa.Pure
