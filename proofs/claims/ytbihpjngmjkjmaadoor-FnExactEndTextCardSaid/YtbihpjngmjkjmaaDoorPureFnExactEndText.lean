/- What EndText's law answers: it is true. Conditions: what came in is well made. -/
import Derived.Test.YtbihpjngmjkjmaaDoorF6
import Derived.Test.YtbihpjngmjkjmaaDoorGend
namespace Go.Proofs.YtbihpjngmjkjmaaDoor.Pure
open Go.RowKit Go.Proofs.YtbihpjngmjkjmaaDoor.P Go.Proofs.YtbihpjngmjkjmaaDoorW.PrintWords Go.Proofs.YtbihpjngmjkjmaaDoorW.PrintLast Go.Proofs.YtbihpjngmjkjmaaDoor.Aux Go.Proofs.YtbihpjngmjkjmaaDoor.Dec
set_option linter.unusedVariables false
theorem FnExactEndText : ∀ (a0_0 : Int) (a0_1 : Int) (l0_2 : List (Int)), (Lit.int .i64 a0_0).wf = true → (Lit.int .i64 a0_1).wf = true → (l0_2.length ≤ maxLen ∧ ∀ x_ ∈ l0_2, (Lit.int .i64 x_).wf = true) → ∃ k, laws_FnExactEndText.f k a0_0 a0_1 l0_2 = some true := by
  intro a b l ha hb hl
  apply Ev.rounds (r := true)
  have hml := hl.1
  unfold maxLen at hml
  have hv : ∀ n ∈ l, I64 n := fun n hn => i64_wf (hl.2 n hn)
  unfold laws_FnExactEndText.f laws_szEnd.f laws_szIntS.f
  by_cases hz : (1048576 : Int) - (l.length : Int) < 0
  · have hw : wrap64 ((1048576 : Int) - (l.length : Int)) < 0 := by rw [wrap_ok (by omega) (by omega)]; exact hz
    exact Ev.const (a := (-1 : Int)) (by rw [if_pos hw]; rfl) (Ev.ite_pos (by decide) (Ev.now _))
  · have hw : ¬ wrap64 ((1048576 : Int) - (l.length : Int)) < 0 := by rw [wrap_ok (by omega) (by omega)]; exact hz
    have hle : l.length ≤ 1048576 := by omega
    have tE : Ev (fun k => laws_toEnd.f k a b l) (a, b, l) := by
      unfold laws_toEnd.f
      exact Ev.bind (copyInts_ev laws_toIntS.f laws_toIntS.l0 (fun _ _ => rfl) (fun _ _ _ _ => rfl) l (by omega)) (Ev.now _)
    have qE : Ev (fun k => laws_eqEnd.f k a b l a b l) true := by
      unfold laws_eqEnd.f
      refine Ev.ite_pos rfl (Ev.ite_pos rfl (Ev.bind (eqInts_ev laws_eqIntS.f laws_eqIntS.l0 (fun _ _ _ => rfl) (fun _ _ _ _ => rfl) l l (by omega)) (Ev.ite_pos (by simp) (Ev.now _))))
    refine Ev.const (a := wrap64 ((1048576 : Int) - (l.length : Int))) (by rw [if_neg hw, Option.bind_some, if_neg hw]) (Ev.ite_neg hw ?_)
    refine Ev.bind tE (Ev.bind (spec_end a b l (i64_wf hb) hle hv) (Ev.bind tE (Ev.bind (impl_end a b l (i64_wf hb) hle hv) (Ev.ite_pos rfl (Ev.bind tE (Ev.bind qE (Ev.ite_pos rfl (Ev.now _))))))))
end Go.Proofs.YtbihpjngmjkjmaaDoor.Pure
