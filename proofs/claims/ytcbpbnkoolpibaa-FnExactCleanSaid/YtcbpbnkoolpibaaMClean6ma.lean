/- What Clean's law answers: it is true. Conditions: what came in is well made. -/
import Derived.Test.YtcbpbnkoolpibaaMCleanxF5
import Derived.Test.YtcbpbnkoolpibaaMClean5ma
import Derived.Test.YtcbpbnkoolpibaaMClean1ta
set_option linter.unusedVariables false
namespace Go.Proofs.Ytcbpbnkoolpibaa.Pure
open RowKit P YtcbpbnkoolpibaaW.wA YtcbpbnkoolpibaaW.wB Aux Opens Gr
theorem mkSteps_mem (bs : List S47) (b : S47) (h : b ∈ bs) : b.f0.length ≤ mkSteps bs := by
  induction bs with
  | nil => cases h
  | cons c cs ih =>
    simp only [mkSteps]
    rcases List.mem_cons.1 h with rfl | h
    · omega
    · have := ih h
      omega
theorem FnExactClean : ∀ (l0_0 : List (Int)) (a0_1 : Int) (a0_2 : Int) (a0_3 : Int) (l0_4 : List (S67)), (l0_0.length ≤ maxLen ∧ ∀ x_ ∈ l0_0, (Lit.int .i64 x_).wf = true) → (Lit.int .i64 a0_1).wf = true → (Lit.int .i64 a0_2).wf = true → (Lit.int .i64 a0_3).wf = true → (l0_4.length ≤ maxLen ∧ ∀ x_ ∈ l0_4, W67 x_) → ∃ k, laws_FnExactClean.f k l0_0 a0_1 a0_2 a0_3 l0_4 = some true := by
  intro zs p v s bs hzs hp hv hs hbs
  apply Ev.rounds (r := true)
  unfold laws_FnExactClean.f
  obtain ⟨z, hz, hzn, hz1⟩ := sz_ev zs p v s bs hzs.1 hbs 1048576 (by omega) (by omega)
  refine Ev.bind hz ?_
  by_cases h1 : z < 0
  · exact Ev.ite_pos h1 (Ev.now _)
  have hsm := hz1 (by omega)
  have tg := to_ev zs p v s bs hsm
  obtain ⟨L, hL1, hL2, e1, e2⟩ := Clean_same zs p v s bs hsm
  have q1 := hsm.sizes
  have q2 := hsm.blocks
  have q3 := hsm.steps
  have hS0 : mkSteps (bs.map convB) ≤ 1048576 := by rw [mkSteps_conv]; exact q3
  have hb : mkSteps L ≤ 1048576 ∧ L.length ≤ 1048576 := ⟨hL2, hL1⟩
  obtain ⟨m1, z1, b1, f1, f2, f3⟩ := markGc_ev zs (bs.map convB) q1 (by omega) (by rw [List.length_map]; omega)
  obtain ⟨m2, z2, b2, g1, g2, g3⟩ := markGc_ev zs L q1 (by omega) (by omega)
  have eqL := eqG_ev zs p v s L q1 (by omega) (fun b hb2 => by have := mkSteps_mem L b hb2; omega)
  refine Ev.ite_neg h1 (Ev.bind tg (Ev.bind e1 (Ev.bind e2 (Ev.bind eqL (Ev.bind (eq_ev zs p v s bs hsm) (Ev.bind f1 (Ev.bind g1 (Ev.bind (g3 p v s) ?_))))))))
  exact Ev.ite_pos ⟨rfl, rfl, by omega, by omega, rfl⟩ (Ev.now _)
end Go.Proofs.Ytcbpbnkoolpibaa.Pure
