/- What Trim's law answers: it is true. Conditions: what came in is well made. -/
import Derived.Test.YtcbpbnkoolpibaaMTrimxF3
import Derived.Test.YtcbpbnkoolpibaaMTrim3pa
import Derived.Test.YtcbpbnkoolpibaaMTrim1ua
namespace Go.Proofs.Ytcbpbnkoolpibaa.Pure
open Go.RowKit Go.Proofs.Ytcbpbnkoolpibaa.P Go.Proofs.YtcbpbnkoolpibaaW.PrintWords Go.Proofs.YtcbpbnkoolpibaaW.PrintLast Go.Proofs.Ytcbpbnkoolpibaa.Aux Go.Proofs.Ytcbpbnkoolpibaa.Opens Go.Proofs.Ytcbpbnkoolpibaa.Gr
set_option linter.unusedVariables false
theorem mkSteps_drop (bs : List S47) : ∀ d, mkSteps (bs.drop d) ≤ mkSteps bs := by
  induction bs with
  | nil => intro d; rw [List.drop_nil]; exact Nat.le_refl _
  | cons b bs ih =>
    intro d
    cases d with
    | zero => exact Nat.le_refl _
    | succ d =>
      have := ih d
      simp only [List.drop_succ_cons, mkSteps]
      omega
theorem trim_bound (bs : List S47) (f : S47 → S47) (hf : ∀ b, (f b).f0 = b.f0) : ∀ (r : List Int) (lo : Nat), r.Pairwise (· < ·) → (∀ x ∈ r, (lo : Int) ≤ x ∧ x < (bs.length : Int)) → mkSteps (r.map fun x => f (rd_T47 bs x)) ≤ mkSteps (bs.drop lo) ∧ r.length ≤ bs.length - lo
  | [], lo, _, _ => ⟨Nat.zero_le _, Nat.zero_le _⟩
  | x :: r, lo, hp, hx => by
    obtain ⟨h1, h2⟩ := hx x (List.mem_cons_self ..)
    obtain ⟨n, rfl⟩ : ∃ n : Nat, x = (n : Int) := ⟨x.toNat, by omega⟩
    have hp2 := List.pairwise_cons.1 hp
    have hn : n < bs.length := by omega
    obtain ⟨g1, g2⟩ := trim_bound bs f hf r (n + 1) hp2.2 fun y hy => ⟨by have := hp2.1 y hy; omega, (hx y (List.mem_cons_of_mem _ hy)).2⟩
    have h3 := mkSteps_drop (bs.drop lo) (n - lo)
    rw [List.drop_drop, show lo + (n - lo) = n by omega, List.drop_eq_getElem_cons hn] at h3
    simp only [mkSteps] at h3
    refine ⟨?_, by rw [List.length_cons]; omega⟩
    simp only [List.map_cons, mkSteps, hf, rdIB bs n hn]
    omega
theorem mkSteps_mem (bs : List S47) (b : S47) (h : b ∈ bs) : b.f0.length ≤ mkSteps bs := by
  induction bs with
  | nil => cases h
  | cons c cs ih =>
    simp only [mkSteps]
    rcases List.mem_cons.1 h with rfl | h
    · omega
    · have := ih h
      omega
theorem FnExactTrim : ∀ (l0_0 : List (Int)) (a0_1 : Int) (a0_2 : Int) (a0_3 : Int) (l0_4 : List (S67)), (l0_0.length ≤ maxLen ∧ ∀ x_ ∈ l0_0, (Lit.int .i64 x_).wf = true) → (Lit.int .i64 a0_1).wf = true → (Lit.int .i64 a0_2).wf = true → (Lit.int .i64 a0_3).wf = true → (l0_4.length ≤ maxLen ∧ ∀ x_ ∈ l0_4, W67 x_) → ∃ k, laws_FnExactTrim.f k l0_0 a0_1 a0_2 a0_3 l0_4 = some true := by
  intro zs p v s bs hzs hp hv hs hbs
  apply Ev.rounds (r := true)
  unfold laws_FnExactTrim.f
  obtain ⟨z, hz, hzn, hz1⟩ := sz_ev zs p v s bs hzs.1 hbs 1048576 (by omega) (by omega)
  refine Ev.bind hz ?_
  by_cases h1 : z < 0
  · exact Ev.ite_pos h1 (Ev.now _)
  have hsm := hz1 (by omega)
  have tg := to_ev zs p v s bs hsm
  obtain ⟨L, hL, e1, e2⟩ := Trim_same zs p v s bs hsm
  have q1 := hsm.sizes
  have q2 := hsm.blocks
  have q3 := hsm.steps
  have hS0 : mkSteps (bs.map convB) ≤ 1048576 := by rw [mkSteps_conv]; exact q3
  have hb : mkSteps L ≤ 1048576 ∧ L.length ≤ 1048576 := by
    rcases hL with rfl | ⟨r, a1, a2, rfl⟩
    · exact ⟨hS0, by rw [List.length_map]; exact q2⟩
    · obtain ⟨g1, g2⟩ := trim_bound (bs.map convB) (nb r) (fun b => rfl) r 0 a1 fun x hx => by have := a2 x hx; omega
      rw [List.drop_zero] at g1
      rw [List.length_map] at g2 ⊢
      exact ⟨by omega, by omega⟩
  obtain ⟨m1, z1, b1, f1, f2, f3⟩ := markGc_ev zs (bs.map convB) q1 (by omega) (by rw [List.length_map]; omega)
  obtain ⟨m2, z2, b2, g1, g2, g3⟩ := markGc_ev zs L q1 (by omega) (by omega)
  have eqL := eqG_ev zs p v s L q1 (by omega) (fun b hb2 => by have := mkSteps_mem L b hb2; omega)
  refine Ev.ite_neg h1 (Ev.bind tg (Ev.bind e1 (Ev.bind e2 (Ev.bind eqL (Ev.bind (eq_ev zs p v s bs hsm) (Ev.bind f1 (Ev.bind g1 (Ev.bind (g3 p v s) ?_))))))))
  exact Ev.ite_pos ⟨rfl, rfl, by omega, by omega, rfl⟩ (Ev.now _)
end Go.Proofs.Ytcbpbnkoolpibaa.Pure
