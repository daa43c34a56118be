/- What Blocks's law answers: it is true. Conditions: what came in is well made. -/
import Derived.Test.YtcbpbnkoolpibaaMBlocksxF6
import Derived.Test.YtcbpbnkoolpibaaMBlocks2pa
import Derived.Test.YtcbpbnkoolpibaaMBlocks1ua
namespace Go.Proofs.Ytcbpbnkoolpibaa.Pure
open Go.RowKit Go.Proofs.Ytcbpbnkoolpibaa.P Go.Proofs.YtcbpbnkoolpibaaW.PrintWords Go.Proofs.YtcbpbnkoolpibaaW.PrintLast Go.Proofs.Ytcbpbnkoolpibaa.Aux Go.Proofs.Ytcbpbnkoolpibaa.Opens Go.Proofs.Ytcbpbnkoolpibaa.Gr
set_option linter.unusedVariables false
theorem FnExactBlocks : ∀ (l0_0 : List (Int)) (a0_1 : Int) (a0_2 : Int) (a0_3 : Int) (l0_4 : List (S67)), (l0_0.length ≤ maxLen ∧ ∀ x_ ∈ l0_0, (Lit.int .i64 x_).wf = true) → (Lit.int .i64 a0_1).wf = true → (Lit.int .i64 a0_2).wf = true → (Lit.int .i64 a0_3).wf = true → (l0_4.length ≤ maxLen ∧ ∀ x_ ∈ l0_4, W67 x_) → ∃ k, laws_FnExactBlocks.f k l0_0 a0_1 a0_2 a0_3 l0_4 = some true := by
  intro zs p v s bs hzs hp hv hs hbs
  apply Ev.rounds (r := true)
  unfold laws_FnExactBlocks.f
  obtain ⟨z, hz, hzn, hz1⟩ := sz_ev zs p v s bs hzs.1 hbs 1048576 (by omega) (by omega)
  refine Ev.bind hz ?_
  by_cases h1 : z < 0
  · exact Ev.ite_pos h1 (Ev.now _)
  have hsm := hz1 (by omega)
  have tg := to_ev zs p v s bs hsm
  obtain ⟨r, e1, e2, hr⟩ := Blocks_same zs p v s bs hsm
  obtain ⟨g, hg, hg0⟩ := markG_ev zs bs hsm
  have eq : Ev (fun k => laws_eqIntS.f k r r) (decide (r = r)) := eqInts_ev laws_eqIntS.f laws_eqIntS.l0 (fun _ _ _ => rfl) (fun _ _ _ _ => rfl) r r (by omega)
  have mk : Ev (fun k => laws_markIntS.f k r 1) (1 + (r.length : Int), seqFrom 1 r.length) := markInts_ev laws_markIntS.f laws_markIntS.l0 (fun _ _ _ => rfl) (fun _ _ _ _ => by rw [laws_markIntS.l0]) r 1 (by omega) (by omega)
  have hd : Ev (fun k => laws_heldIntS.f k (seqFrom 1 r.length) 1) (1 + (r.length : Int)) := heldInts_ev laws_heldIntS.f laws_heldIntS.l0 (fun _ _ _ => rfl) (fun _ _ _ _ => by rw [laws_heldIntS.l0]) 1 r.length (by omega) (by omega)
  have hn : ¬ (1 + (r.length : Int) < 0) := by omega
  have hg1 : ¬ g < 0 := by omega
  refine Ev.ite_neg h1 (Ev.bind tg (Ev.bind e1 (Ev.bind tg (Ev.bind e2 (Ev.bind eq (Ev.ite_pos (by simp) ?_))))))
  refine Ev.bind tg (Ev.bind (eq_ev zs p v s bs hsm) (Ev.ite_pos rfl ?_))
  refine Ev.bind hg (Ev.ite_neg hg1 (Ev.bind eq (Ev.ite_pos (by simp) ?_)))
  refine Ev.bind mk (Ev.bind hd (Ev.ite_neg hn (Ev.ite_pos rfl ?_)))
  refine Ev.bind tg (Ev.bind e2 (Ev.bind eq (Ev.ite_pos (by simp) ?_)))
  exact Ev.bind hd (Ev.ite_neg hn (Ev.ite_pos rfl (Ev.now _)))
end Go.Proofs.Ytcbpbnkoolpibaa.Pure
