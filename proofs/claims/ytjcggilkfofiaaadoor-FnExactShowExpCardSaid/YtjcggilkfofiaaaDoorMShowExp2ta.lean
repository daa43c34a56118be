/- What FnExactShowExp answers: it is true. Conditions: what a machine holds. -/
import Derived.Test.YtjcggilkfofiaaaDoorMShowExpxF3
import Derived.Test.YtjcggilkfofiaaaDoorMShowExp0xa
import Derived.Test.YtjcggilkfofiaaaDoorMShowExp1ua
namespace Go.Proofs.YtjcggilkfofiaaaDoor.Pure
open Go.RowKit Go.Proofs.YtjcggilkfofiaaaDoor.P Go.Proofs.YtjcggilkfofiaaaDoor.Ex Go.Proofs.YtjcggilkfofiaaaDoorW.PrintWords Go.Proofs.YtjcggilkfofiaaaDoorW.PrintLast Go.Proofs.YtjcggilkfofiaaaDoor.Aux Go.Proofs.YtjcggilkfofiaaaDoor.Opens
set_option linter.unusedVariables false
theorem FnExactShowExp : ∀ (l0_0 : List (Int)) (a0_1 : Int) (a0_2 : Int) (l0_3 : List (S57)) (a1_0 : Int) (a1_1 : Int) (a1_2 : Int) (a1_3 : ByteArray) (l1_4 : List (S28)), (l0_0.length ≤ maxLen ∧ ∀ x_ ∈ l0_0, (Lit.int .i64 x_).wf = true) → (Lit.int .i64 a0_1).wf = true → (Lit.int .i64 a0_2).wf = true → (l0_3.length ≤ maxLen ∧ ∀ x_ ∈ l0_3, W57 x_) → (Lit.int .i64 a1_0).wf = true → (Lit.int .i64 a1_1).wf = true → (Lit.int .i64 a1_2).wf = true → a1_3.size ≤ maxLen → (l1_4.length ≤ maxLen ∧ ∀ x_ ∈ l1_4, W28 x_) → ∃ k, laws_FnExactShowExp.f k l0_0 a0_1 a0_2 l0_3 a1_0 a1_1 a1_2 a1_3 l1_4 = some true := by
  intro zs p v body k n b t l hz hp hv hb hk hn hbb ht hl
  have hv := (Go.Proofs.YtjcggilkfofiaaaDoor.Dec.i64_wf hv).2
  apply Ev.rounds (r := true)
  unfold laws_FnExactShowExp.f
  refine Ev.const (szP_f hz.1 hb (by omega) (by omega)) ?_
  by_cases h1 : (szP zs body : Int) ≤ 1048576
  · rw [lftE_yes h1]
    have g1 : szP zs body ≤ 1048576 := by omega
    refine Ev.ite_neg (by omega) (Ev.const (sz_f ht hl (by omega) (by omega)) ?_)
    by_cases h2 : (szE ⟨k, n, b, t, l⟩ : Int) ≤ 1048576 - (szP zs body : Int)
    · rw [lftE_yes h2]
      have g2 : szE ⟨k, n, b, t, l⟩ ≤ 1048576 := by omega
      have tp := toP_ev (p := p) (v := v) g1
      have te : laws_toExp.f k n b t l = some (k, n, b, t, toEs l) := to_f g2
      have hzl : zs.length ≤ 1048576 := by unfold szP at g1; omega
      have hx : toE ⟨k, n, b, t, l⟩ = ⟨k, n, b, t, toEs l⟩ := rfl
      have hn2 := nE_toE ⟨k, n, b, t, l⟩
      rw [hx] at hn2
      obtain ⟨r, e1, e2⟩ := ShowExp_same zs p v (toSs body) ⟨k, n, b, t, toEs l⟩ hzl (by omega) (by omega)
      refine Ev.ite_neg (by omega) (Ev.bind tp (Ev.const te (Ev.bind e1 (Ev.bind tp (Ev.const te (Ev.bind e2 (Ev.ite_pos rfl ?_)))))))
      exact Ev.bind tp (Ev.bind (eqP_ev g1) (Ev.ite_pos rfl (Ev.const te (Ev.const (eq_f g2) (Ev.ite_pos rfl (Ev.now _))))))
    · rw [lftE_no h2]
      exact Ev.ite_pos (by omega) (Ev.now _)
  · rw [lftE_no h1]
    exact Ev.ite_pos (by omega) (Ev.now _)
end Go.Proofs.YtjcggilkfofiaaaDoor.Pure
