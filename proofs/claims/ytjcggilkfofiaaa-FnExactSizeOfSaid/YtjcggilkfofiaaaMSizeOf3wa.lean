/- What FnExactSizeOf answers: it is true. Conditions: what a machine holds. -/
import Derived.Test.YtjcggilkfofiaaaMSizeOf3ya
import Derived.Test.YtjcggilkfofiaaaMSizeOf0xa
import Derived.Test.YtjcggilkfofiaaaMSizeOf2ya
namespace Go.Proofs.Ytjcggilkfofiaaa.Pure
open Go.RowKit Go.Proofs.Ytjcggilkfofiaaa.P Go.Proofs.Ytjcggilkfofiaaa.Ex Go.Proofs.YtjcggilkfofiaaaW.PrintWords Go.Proofs.YtjcggilkfofiaaaW.PrintLast Go.Proofs.Ytjcggilkfofiaaa.Aux Go.Proofs.Ytjcggilkfofiaaa.Opens
set_option linter.unusedVariables false
set_option linter.unusedSimpArgs false
theorem fol_stepC : ∀ (l : List S29) (n : Nat), n + l.length < 4611686018427387904 → fol stepC (n : Int) l = ((n + l.length : Nat) : Int)
  | [], n, _ => rfl
  | x :: xs, n, h => by
    rw [List.length_cons] at h ⊢
    rw [fol_cons, stepC, wrapS n (by omega), fol_stepC xs (n + 1) (by omega)]
    congr 1
    omega
theorem fol_stepD : ∀ (l : List S62) (n : Nat), n + sumW l < 4611686018427387904 → fol stepD (n : Int) l = ((n + sumW l : Nat) : Int)
  | [], n, _ => rfl
  | x :: xs, n, h => by
    rw [sumW] at h ⊢
    have hw : wS x = 1 + nEs x.f3 := rfl
    have hl := preEs_len x.f3
    rw [fol_cons, stepD, wrapS n (by omega), fol_stepC _ _ (by omega), fol_stepD xs _ (by omega)]
    congr 1
    omega
theorem sizeOf_ev (zs : List Int) (p v : Int) (l : List S62) (h : nSs l < 1099511627776) : Ev (fun k => spec_SizeOf.f k zs p v l) (nSs l : Int) := by
  refine Ev.bind (stmts_f l h) (Ev.bind (all_f zs p v l h) ?_)
  have h1 := len_sumW (preSs l)
  rw [sumW_preSs] at h1
  rw [wrap_ok (by omega) (by omega), show ((preSs l).length : Int) + ((allE (preSs l)).length : Int) = (nSs l : Int) by omega]
  exact Ev.now _
theorem FnExactSizeOf : ∀ (l0_0 : List (Int)) (a0_1 : Int) (a0_2 : Int) (l0_3 : List (S76)), (l0_0.length ≤ maxLen ∧ ∀ x_ ∈ l0_0, (Lit.int .i64 x_).wf = true) → (Lit.int .i64 a0_1).wf = true → (Lit.int .i64 a0_2).wf = true → (l0_3.length ≤ maxLen ∧ ∀ x_ ∈ l0_3, W76 x_) → ∃ k, laws_FnExactSizeOf.f k l0_0 a0_1 a0_2 l0_3 = some true := by
  intro zs p v b hz _ _ hb
  apply Ev.rounds (r := true)
  unfold laws_FnExactSizeOf.f
  refine Ev.const (szP_f hz.1 hb (by omega) (by omega)) ?_
  by_cases h1 : (szP zs b : Int) ≤ 1048576
  · rw [lftE_yes h1]
    have g1 : szP zs b ≤ 1048576 := by omega
    have hn := nSs_toSs b
    have hzl : szSs b ≤ 1048576 := by unfold szP at g1; omega
    have hi : impl_SizeOf.f zs p v (toSs b) = some (nSs (toSs b) : Int) := by
      unfold impl_SizeOf.f
      have := fol_stepD (preSs (toSs b)) 0 (by rw [sumW_preSs]; omega)
      rw [sumW_preSs, Nat.zero_add] at this
      exact congrArg some this
    refine Ev.ite_neg (by omega) (Ev.bind (toP_ev g1) (Ev.bind (sizeOf_ev zs p v (toSs b) (by omega)) (Ev.bind (toP_ev g1) ?_)))
    refine Ev.const hi ?_
    refine Ev.ite_pos rfl (Ev.bind (toP_ev g1) (Ev.bind (eqP_ev g1) (Ev.ite_pos rfl (Ev.now _))))
  · rw [lftE_no h1]
    exact Ev.ite_pos (by omega) (Ev.now _)
end Go.Proofs.Ytjcggilkfofiaaa.Pure
