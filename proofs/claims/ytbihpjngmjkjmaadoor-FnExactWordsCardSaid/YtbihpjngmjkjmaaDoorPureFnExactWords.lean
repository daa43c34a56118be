/- What Words' law answers: it is true. Conditions: a text as long as a machine holds. -/
import Derived.Test.YtbihpjngmjkjmaaDoorF5
import Derived.Test.YtbihpjngmjkjmaaDoorGwords
namespace Go.Proofs.YtbihpjngmjkjmaaDoor.Pure
open Go.RowKit Go.Proofs.YtbihpjngmjkjmaaDoor.P Go.Proofs.YtbihpjngmjkjmaaDoorW.PrintWords Go.Proofs.YtbihpjngmjkjmaaDoorW.PrintLast Go.Proofs.YtbihpjngmjkjmaaDoor.Aux Go.Proofs.YtbihpjngmjkjmaaDoor.Dec
set_option linter.unusedVariables false
theorem FnExactWords : ∀ (a0 : ByteArray), a0.size ≤ maxLen → ∃ k, laws_FnExactWords.f k a0 = some true := by
  intro s hs
  apply Ev.rounds (r := true)
  unfold laws_FnExactWords.f
  by_cases h : (s.size : Int) > 1048576
  · exact Ev.ite_pos h (Ev.now _)
  · have hz : s.size ≤ 1048576 := by omega
    have hl := words_len s hz
    have hf := words_f s hz
    have qE := eqS_ev (wordsT s) hl
    have hM := markS_ev (wordsT s) hl
    have hH := heldS_ev (wordsT s).length hl
    have hn : ¬ (1 + ((wordsT s).length : Int) < 0) := by omega
    refine Ev.ite_neg h (Ev.bind (words_ev s hz) (Ev.const hf (Ev.bind qE (Ev.ite_pos rfl (Ev.bind hM (Ev.bind hH (Ev.ite_neg hn (Ev.ite_pos rfl ?_))))))))
    exact Ev.const hf (Ev.bind qE (Ev.ite_pos rfl (Ev.bind hH (Ev.ite_neg hn (Ev.ite_pos rfl (Ev.now _))))))
end Go.Proofs.YtbihpjngmjkjmaaDoor.Pure
