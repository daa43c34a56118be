/- What BlockOk's law answers: it is true. Conditions: what came in is well made. -/
import Derived.Test.YtbbpmcignfhfmaaMBlockOkxF7
import Derived.Test.YtbbpmcignfhfmaaMBlockOk2xa
import Derived.Test.YtbbpmcignfhfmaaMBlockOk2wa
namespace Go.Proofs.Ytbbpmcignfhfmaa.Pure
open Go.RowKit Go.Proofs.Ytbbpmcignfhfmaa.P Go.Proofs.YtbbpmcignfhfmaaW.PrintWords Go.Proofs.YtbbpmcignfhfmaaW.PrintLast Go.Proofs.Ytbbpmcignfhfmaa.Aux Go.Proofs.Ytbbpmcignfhfmaa.Opens Go.Proofs.Ytbbpmcignfhfmaa.Gr Go.Proofs.Ytbbpmcignfhfmaa.Ok
set_option linter.unusedVariables false
theorem BlockOk_same (zs : List Int) (p v s : Int) (bs : List S49) (code : List S39) (j a to_ el : Int) (hz : zs.length ≤ 1048576) (hb : bs.length ≤ 1048576) (hc : code.length ≤ 1048576) (hs : (Lit.int .i64 s).wf = true) :
    Ev (fun k => spec_BlockOk.f k zs p v s bs code j a to_ el) (blockB (zs.length : Int) s (bs.length : Int) code j a to_ el) := by
  have hs := i64_wf hs
  unfold spec_BlockOk.f
  by_cases h : s ≥ 0
  · exact Ev.ite_pos h (Ev.bind (block_ev zs p v s bs code j a to_ el (by omega) (by omega) (by omega) (by omega) (by omega)) (Ev.now _))
  · rw [blockB_low _ _ _ _ _ _ _ _ (by omega)]
    exact Ev.ite_neg h (Ev.now _)
theorem FnExactBlockOk : ∀ (l0_0 : List (Int)) (a0_1 : Int) (a0_2 : Int) (a0_3 : Int) (l0_4 : List (S44)) (l1_0 : List (S36)) (a1_1 : Int) (a1_2 : Int) (a1_3 : Int) (a1_4 : Int), (l0_0.length ≤ maxLen ∧ ∀ x_ ∈ l0_0, (Lit.int .i64 x_).wf = true) → (Lit.int .i64 a0_1).wf = true → (Lit.int .i64 a0_2).wf = true → (Lit.int .i64 a0_3).wf = true → (l0_4.length ≤ maxLen ∧ ∀ x_ ∈ l0_4, W44 x_) → (l1_0.length ≤ maxLen ∧ ∀ x_ ∈ l1_0, W36 x_) → (Lit.int .i64 a1_1).wf = true → (Lit.int .i64 a1_2).wf = true → (Lit.int .i64 a1_3).wf = true → (Lit.int .i64 a1_4).wf = true → ∃ k, laws_FnExactBlockOk.f k l0_0 a0_1 a0_2 a0_3 l0_4 l1_0 a1_1 a1_2 a1_3 a1_4 = some true := by
  intro zs p v s bs code j a to_ el hzs hp hv hs hbs hcode hj ha hto hel
  apply Ev.rounds (r := true)
  unfold laws_FnExactBlockOk.f
  obtain ⟨z, hz, hzn, hz1⟩ := sz_ev zs p v s bs hzs.1 hbs 1048576 (by omega) (by omega)
  refine Ev.bind hz ?_
  by_cases h1 : z < 0
  · exact Ev.ite_pos h1 (Ev.now _)
  have hsm := hz1 (by omega)
  refine Ev.ite_neg h1 ?_
  obtain ⟨y, hy, _, hy1⟩ := szBlock_ev ⟨code, j, a, to_, el⟩ hcode z (by omega) hzn
  refine Ev.bind hy ?_
  by_cases h2 : y < 0
  · exact Ev.ite_pos h2 (Ev.now _)
  have hcl : code.length ≤ 1048576 := by have := hy1 (by omega); simp only at this; omega
  have tg := to_ev zs p v s bs hsm
  have tb := toBlock_ev ⟨code, j, a, to_, el⟩ hcl
  have hlen := hsm.sizes
  have hbl := hsm.blocks
  refine Ev.ite_neg h2 (Ev.bind tg (Ev.bind tb (Ev.bind (BlockOk_same zs p v s (bs.map convB) (code.map conv) j a to_ el hlen (by rw [List.length_map]; exact hbl) (by rw [List.length_map]; exact hcl) hs) (Ev.bind tg (Ev.bind tb (Ev.bind (Ev.bind (f := fun _ t => some t) (isBlock_ev zs p v s (bs.map convB) (code.map conv) j a to_ el (by rw [List.length_map]; omega)) (Ev.now _)) ?_))))))
  refine Ev.ite_neg (by simp) (Ev.bind tg (Ev.bind (eq_ev zs p v s bs hsm) ?_))
  refine Ev.ite_pos rfl (Ev.bind tb (Ev.bind (eqBlock_ev (code.map conv) j a to_ el (by rw [List.length_map]; omega)) ?_))
  exact Ev.ite_pos rfl (Ev.now _)
end Go.Proofs.Ytbbpmcignfhfmaa.Pure
