/- What FnExactVarsOf answers: it is true. Conditions: what a machine holds. -/
import Derived.Test.YtjcggilkfofiaaaMVarsOfxF6
import Derived.Test.YtjcggilkfofiaaaMVarsOf0ua
import Derived.Test.YtjcggilkfofiaaaMVarsOf2ra
namespace Go.Proofs.Ytjcggilkfofiaaa.Pure
open Go.RowKit Go.Proofs.Ytjcggilkfofiaaa.P Go.Proofs.Ytjcggilkfofiaaa.Ex Go.Proofs.YtjcggilkfofiaaaW.PrintWords Go.Proofs.YtjcggilkfofiaaaW.PrintLast Go.Proofs.Ytjcggilkfofiaaa.Aux Go.Proofs.Ytjcggilkfofiaaa.Opens
set_option linter.unusedVariables false
theorem FnExactVarsOf : ∀ (a0_0 : Int) (a0_1 : Int) (a0_2 : Int) (a0_3 : ByteArray) (l0_4 : List (S24)), (Lit.int .i64 a0_0).wf = true → (Lit.int .i64 a0_1).wf = true → (Lit.int .i64 a0_2).wf = true → a0_3.size ≤ maxLen → (l0_4.length ≤ maxLen ∧ ∀ x_ ∈ l0_4, W24 x_) → ∃ k, laws_FnExactVarsOf.f k a0_0 a0_1 a0_2 a0_3 l0_4 = some true := by
  intro a b c s l _ _ _ hs hl
  apply Ev.rounds (r := true)
  unfold laws_FnExactVarsOf.f
  refine Ev.const (sz_f hs hl (by omega) (by omega)) ?_
  by_cases h1 : (szE ⟨a, b, c, s, l⟩ : Int) ≤ 1048576
  · rw [lftE_yes h1]
    have g1 : szE ⟨a, b, c, s, l⟩ ≤ 1048576 := by omega
    have hn := nE_toE ⟨a, b, c, s, l⟩
    have hx : toE ⟨a, b, c, s, l⟩ = ⟨a, b, c, s, toEs l⟩ := rfl
    rw [hx] at hn
    have hm : nEs (toEs l) ≤ 1048576 := by rw [nE_eq] at hn; show nEs (⟨a, b, c, s, toEs l⟩ : S29).f4 ≤ _; omega
    have hv := VarsOf_s ⟨a, b, c, s, toEs l⟩ (by omega)
    have tg : laws_toExp.f a b c s l = some (a, b, c, s, toEs l) := to_f g1
    have hi : impl_VarsOf.f a b c s (toEs l) = some (ascL (fol stepV [] (preE ⟨a, b, c, s, toEs l⟩))) := by
      unfold impl_VarsOf.f
      exact if_pos (by omega)
    have hk : laws_markExp.f a b c s (toEs l) 1 = some (1 + 4 * (nEs (toEs l) : Int)) := by
      unfold laws_markExp.f
      exact if_pos ⟨by omega, by omega, by omega, by omega⟩
    generalize hr : ascL (fol stepV [] (preE ⟨a, b, c, s, toEs l⟩)) = r at hv hi
    have hrl : r.length ≤ 4194304 := by
      rw [← hr]
      have q1 := compact_len ((fol stepV [] (preE ⟨a, b, c, s, toEs l⟩)).mergeSort fun x y => decide (x ≤ y))
      rw [List.length_mergeSort] at q1
      have q2 := fol_room (sz := List.length) stepV_room (preE ⟨a, b, c, s, toEs l⟩) []
      rw [preE_len, List.length_nil, nE_eq] at q2
      unfold ascL
      show (Lib.compact _).length ≤ _
      have q3 : nEs (⟨a, b, c, s, toEs l⟩ : S29).f4 = nEs (toEs l) := rfl
      omega
    have eq : Ev (fun k => laws_eqIntS.f k r r) (decide (r = r)) := eqInts_ev laws_eqIntS.f laws_eqIntS.l0 (fun _ _ _ => rfl) (fun _ _ _ _ => rfl) r r (by omega)
    have mk : Ev (fun k => laws_markIntS.f k r 1) (1 + (r.length : Int), seqFrom 1 r.length) := markInts_ev laws_markIntS.f laws_markIntS.l0 (fun _ _ _ => rfl) (fun _ _ _ _ => by rw [laws_markIntS.l0]) r 1 (by omega) (by omega)
    have hd : Ev (fun k => laws_heldIntS.f k (seqFrom 1 r.length) 1) (1 + (r.length : Int)) := heldInts_ev laws_heldIntS.f laws_heldIntS.l0 (fun _ _ _ => rfl) (fun _ _ _ _ => by rw [laws_heldIntS.l0]) 1 r.length (by omega) (by omega)
    have hn : ¬ (1 + (r.length : Int) < 0) := by omega
    refine Ev.ite_neg (by omega) (Ev.const tg (Ev.bind hv (Ev.const tg (Ev.const hi (Ev.bind eq (Ev.ite_pos (by simp) ?_))))))
    refine Ev.const tg (Ev.const (eq_f g1) (Ev.ite_pos rfl ?_))
    refine Ev.const hk (Ev.ite_neg (by omega) (Ev.bind eq (Ev.ite_pos (by simp) ?_)))
    refine Ev.bind mk (Ev.bind hd (Ev.ite_neg hn (Ev.ite_pos rfl ?_)))
    refine Ev.const tg (Ev.const hi (Ev.bind eq (Ev.ite_pos (by simp) ?_)))
    exact Ev.bind hd (Ev.ite_neg hn (Ev.ite_pos rfl (Ev.now _)))
  · rw [lftE_no h1]
    exact Ev.ite_pos (by omega) (Ev.now _)
end Go.Proofs.Ytjcggilkfofiaaa.Pure
