/- spec.Clean and impl.Clean answer alike. No program walk. -/
import Derived.Test.YtcbpbnkoolpibaaMCleanxGcs
import Derived.Test.YtcbpbnkoolpibaaMClean2qa
import Derived.Test.YtcbpbnkoolpibaaMClean2na
import Derived.Test.YtcbpbnkoolpibaaMClean0ta
set_option linter.unusedVariables false
set_option linter.unusedSimpArgs false
namespace Go.Proofs.Ytcbpbnkoolpibaa.Gr
open RowKit P YtcbpbnkoolpibaaW.wA YtcbpbnkoolpibaaW.wB YtcbpbnkoolpibaaW.wC Aux
theorem cleanS_eq (bs : List S47) (R : List (List Bool)) : ∀ i, cleanS bs bs R i = cleanTo bs R i
  | 0 => rfl
  | i + 1 => by rw [cleanS, cleanTo, cleanS_eq bs R i, cleanTo_ge bs R i i (Nat.le_refl _)]; rfl
theorem mkSteps_set : ∀ (bs : List S47) (i : Nat) (b : S47), b.f0.length ≤ (bs.getD i z47).f0.length → mkSteps (bs.set i b) ≤ mkSteps bs
  | [], i, b, _ => Nat.le_refl _
  | c :: bs, 0, b, h => by
    simp only [List.set_cons_zero, mkSteps]
    have h2 : b.f0.length ≤ c.f0.length := h
    omega
  | c :: bs, i + 1, b, h => by
    have := mkSteps_set bs i b (by simpa using h)
    simp only [List.set_cons_succ, mkSteps]
    omega
theorem mkSteps_clean (bs : List S47) (R : List (List Bool)) : ∀ i, mkSteps (cleanTo bs R i) ≤ mkSteps bs
  | 0 => Nat.le_refl _
  | i + 1 => by
    have h1 := mkSteps_clean bs R i
    have h2 := mkSteps_set (cleanTo bs R i) i (cleanBk (bs.getD i z47) (row R i)) (by rw [cleanTo_ge bs R i i (Nat.le_refl _)]; exact cleanC_le _ _)
    rw [cleanTo]
    omega
theorem Clean_same (zs : List Int) (p v s : Int) (bs : List S67) (h : Small zs bs) :
    ∃ L : List S47, L.length ≤ 1048576 ∧ mkSteps L ≤ 1048576 ∧ Ev (fun k => spec_Clean.f k zs p v s (bs.map convB)) (zs, p, v, s, L) ∧ Ev (fun k => impl_Clean.f k zs p v s (bs.map convB)) (zs, p, v, s, L) := by
  have hb : (bs.map convB).length ≤ 1048576 := by rw [List.length_map]; exact h.blocks
  have hc : ∀ b ∈ bs.map convB, b.f0.length ≤ 4294967296 := fun b hb => by have := conv_code h b hb; omega
  have hm : mkSteps (bs.map convB) ≤ 1048576 := by rw [mkSteps_conv]; exact h.steps
  have hS := Ok.GraphOk_ev zs p v s (bs.map convB) hb h.sizes h.stepsI
  have hI := Ok.isGraph_ev zs p v s (bs.map convB) hb h.stepsI
  generalize bs.map convB = B at hS hI hb hc hm ⊢
  have cS := copyS_ev zs p v s B h.sizes hb hc
  have cI := copyI_ev zs p v s B h.sizes hb hc
  cases hG : Ok.okG zs p v s B with
  | false =>
    rw [hG] at hS hI
    refine ⟨B, hb, hm, ?_, ?_⟩
    · exact Ev.bind cS (Ev.bind hS (Ev.ite_neg (by simp) (Ev.now _)))
    · exact Ev.bind cI (Ev.bind hI (Ev.ite_neg (by simp) (Ev.now _)))
  | true =>
    rw [hG] at hS hI
    obtain ⟨M, hM, g1, g2⟩ := live_same zs p v s B hG
    refine ⟨cleanTo B M B.length, by rw [cleanTo_len]; exact hb, Nat.le_trans (mkSteps_clean B M B.length) hm, ?_, ?_⟩
    · refine Ev.bind cS (Ev.bind hS (Ev.ite_pos rfl (Ev.bind g2 (Ev.ite_pos ⟨hG, rfl, shp_okR hM⟩ ?_))))
      rw [← cleanS_eq]
      exact Ev.now _
    · exact Ev.bind cI (Ev.bind hI (Ev.ite_pos rfl (Ev.bind g1 (Ev.ite_pos ⟨hG, shp_okR hM⟩ (Ev.now _)))))
end Go.Proofs.Ytcbpbnkoolpibaa.Gr
