/- What FnExactTouches answers: it is true. Conditions: what a machine holds. -/
import Derived.Test.YtjcggilkfofiaaaMTouchesxF8
import Derived.Test.YtjcggilkfofiaaaMTouches0ua
import Derived.Test.YtjcggilkfofiaaaMTouches2ra
namespace Go.Proofs.Ytjcggilkfofiaaa.Pure
open Go.RowKit Go.Proofs.Ytjcggilkfofiaaa.P Go.Proofs.Ytjcggilkfofiaaa.Ex Go.Proofs.YtjcggilkfofiaaaW.PrintWords Go.Proofs.YtjcggilkfofiaaaW.PrintLast Go.Proofs.Ytjcggilkfofiaaa.Aux Go.Proofs.Ytjcggilkfofiaaa.Opens
set_option linter.unusedVariables false
theorem FnExactTouches : ∀ (l0_0 : List (Int)) (a0_1 : Int) (a0_2 : Int) (l0_3 : List (S76)), (l0_0.length ≤ maxLen ∧ ∀ x_ ∈ l0_0, (Lit.int .i64 x_).wf = true) → (Lit.int .i64 a0_1).wf = true → (Lit.int .i64 a0_2).wf = true → (l0_3.length ≤ maxLen ∧ ∀ x_ ∈ l0_3, W76 x_) → ∃ k, laws_FnExactTouches.f k l0_0 a0_1 a0_2 l0_3 = some true := by
  intro zs p v b hz _ _ hb
  apply Ev.rounds (r := true)
  unfold laws_FnExactTouches.f
  refine Ev.const (szP_f hz.1 hb (by omega) (by omega)) ?_
  by_cases h1 : (szP zs b : Int) ≤ 1048576
  · rw [lftE_yes h1]
    have g1 : szP zs b ≤ 1048576 := by omega
    have hn := nSs_toSs b
    have hzl : zs.length + szSs b ≤ 1048576 := by unfold szP at g1; omega
    have hnn : nSs (toSs b) ≤ 1048577 := by omega
    have hmk := mkSs_le (toSs b)
    have hv := Touches_s zs p v (toSs b) hnn
    have tg := toP_ev (p := p) (v := v) g1
    have hi : impl_Touches.f zs p v (toSs b) = some (ascL (fol stepU [] (preSs (toSs b)))) := by
      unfold impl_Touches.f
      exact if_pos (by omega)
    have hk : laws_markProgram.f zs p v (toSs b) 1 = some (1 + (zs.length : Int) + (mkSs (toSs b) : Int)) := by
      unfold laws_markProgram.f
      exact if_pos ⟨by omega, by omega, by omega⟩
    have hrl0 := ascL_len (fol stepU [] (preSs (toSs b)))
    have hrl1 := fol_roomS (sz := List.length) stepU_roomS (preSs (toSs b)) []
    rw [sumW_preSs, List.length_nil] at hrl1
    generalize hr : ascL (fol stepU [] (preSs (toSs b))) = r at hv hi hrl0
    have hrl : r.length ≤ 4194304 := by omega
    have eq : Ev (fun k => laws_eqIntS.f k r r) (decide (r = r)) := eqInts_ev laws_eqIntS.f laws_eqIntS.l0 (fun _ _ _ => rfl) (fun _ _ _ _ => rfl) r r (by omega)
    have mk : Ev (fun k => laws_markIntS.f k r 1) (1 + (r.length : Int), seqFrom 1 r.length) := markInts_ev laws_markIntS.f laws_markIntS.l0 (fun _ _ _ => rfl) (fun _ _ _ _ => by rw [laws_markIntS.l0]) r 1 (by omega) (by omega)
    have hd : Ev (fun k => laws_heldIntS.f k (seqFrom 1 r.length) 1) (1 + (r.length : Int)) := heldInts_ev laws_heldIntS.f laws_heldIntS.l0 (fun _ _ _ => rfl) (fun _ _ _ _ => by rw [laws_heldIntS.l0]) 1 r.length (by omega) (by omega)
    have hn : ¬ (1 + (r.length : Int) < 0) := by omega
    refine Ev.ite_neg (by omega) (Ev.bind tg (Ev.bind hv (Ev.bind tg (Ev.const hi (Ev.bind eq (Ev.ite_pos (by simp) ?_))))))
    refine Ev.bind tg (Ev.bind (eqP_ev g1) (Ev.ite_pos rfl ?_))
    refine Ev.const hk (Ev.ite_neg (by omega) (Ev.bind eq (Ev.ite_pos (by simp) ?_)))
    refine Ev.bind mk (Ev.bind hd (Ev.ite_neg hn (Ev.ite_pos rfl ?_)))
    refine Ev.bind tg (Ev.const hi (Ev.bind eq (Ev.ite_pos (by simp) ?_)))
    exact Ev.bind hd (Ev.ite_neg hn (Ev.ite_pos rfl (Ev.now _)))
  · rw [lftE_no h1]
    exact Ev.ite_pos (by omega) (Ev.now _)
end Go.Proofs.Ytjcggilkfofiaaa.Pure
