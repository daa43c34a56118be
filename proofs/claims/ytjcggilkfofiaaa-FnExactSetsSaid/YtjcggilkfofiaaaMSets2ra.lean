/- Functions of the program and of the reference as plain functions, and that the Go code comes to their answers; several texts in one. No conditions beyond what each theorem says. -/
import Derived.Test.YtjcggilkfofiaaaMSetsxF21
import Derived.Test.YtjcggilkfofiaaaMSets1a
import Derived.Test.YtjcggilkfofiaaaMSets0ya
import Derived.Test.YtjcggilkfofiaaaMSets0sa
import Derived.Test.YtjcggilkfofiaaaMSets0xa
import Derived.Test.YtjcggilkfofiaaaMSetsxF27
import Derived.Test.YtjcggilkfofiaaaMSetsxF30
import Derived.Test.YtjcggilkfofiaaaMSets1ra
namespace Go.Proofs.Ytjcggilkfofiaaa.P
open Go.RowKit Go.Proofs.YtjcggilkfofiaaaW.PrintWords Go.Proofs.YtjcggilkfofiaaaW.PrintLast Go.Proofs.Ytjcggilkfofiaaa.Aux Go.Proofs.Ytjcggilkfofiaaa.Ex
set_option linter.unusedVariables false
theorem add_f (l : List Int) (n : Int) (hl : l.length ≤ 4398046511104) : Ev (fun k => spec_l02Add.f k l n) (addL n l) := by
  have h := add_ev l n hl l.length 0 (by omega)
  simpa only [spec_l02Add.f, List.take_zero, List.drop_zero, List.nil_append, Int.natCast_zero] using h
end Go.Proofs.Ytjcggilkfofiaaa.P
namespace Go.Proofs.Ytjcggilkfofiaaa.P
open Go.RowKit Go.Proofs.YtjcggilkfofiaaaW.PrintWords Go.Proofs.YtjcggilkfofiaaaW.PrintLast Go.Proofs.Ytjcggilkfofiaaa.Aux Go.Proofs.Ytjcggilkfofiaaa.Ex
set_option linter.unusedVariables false
end Go.Proofs.Ytjcggilkfofiaaa.P
namespace Go.Proofs.Ytjcggilkfofiaaa.P
open Go.RowKit Go.Proofs.YtjcggilkfofiaaaW.PrintWords Go.Proofs.YtjcggilkfofiaaaW.PrintLast Go.Proofs.Ytjcggilkfofiaaa.Aux Go.Proofs.Ytjcggilkfofiaaa.Ex
set_option linter.unusedVariables false
theorem rdS (xs : List S62) (i : Nat) (h : i < xs.length) : rd_T62 xs (i : Int) = xs[i] := by
  unfold rd_T62
  rw [Int.toNat_natCast]
  simp [h]
theorem sets_l0 (l : List S62) (hl : l.length ≤ 1099511627776) (d : Nat) : ∀ (i : Nat) (s : List Int), i + d = l.length → s.length + 2 * d ≤ 4398046511104 → Ev (fun k => spec_Sets.l0 k s l (i : Int)) (fol insT s (l.drop i)) := by
  induction d with
  | zero =>
    intro i s hi hs
    rw [List.drop_eq_nil_of_le (by omega), show fol insT s [] = s from rfl]
    exact Ev.step (fun k => by rw [spec_Sets.l0, if_neg (by omega)]) (Ev.now _)
  | succ d ih =>
    intro i s hi hs
    have hi' : i < l.length := by omega
    have hr := rdS l i hi'
    have p1 : (i : Int) < (l.length : Int) := by omega
    have p2 : 0 ≤ (i : Int) := by omega
    have hw : wrap64 ((i : Int) + 1) = ((i + 1 : Nat) : Int) := by rw [wrap_ok (by omega) (by omega)]; omega
    have hln : (insT l[i] s).length ≤ s.length + 1 := insF_len _ _ _ _ _
    have hh := ih (i + 1) (insT l[i] s) (by omega) (by omega)
    have hd : fol insT s (l.drop i) = fol insT (insT l[i] s) (l.drop (i + 1)) := by rw [List.drop_eq_getElem_cons hi']; rfl
    rw [hd]
    unfold insT insF at hh ⊢
    by_cases h1 : l[i].f0 = 0
    · rw [if_pos h1] at hh ⊢
      refine Ev.step (fun k => by rw [spec_Sets.l0, if_pos p1, if_pos p2, hr, if_pos h1, hw]) ?_
      exact Ev.bind (add_f s l[i].f1 (by omega)) hh
    · rw [if_neg h1] at hh ⊢
      exact Ev.step (fun k => by rw [spec_Sets.l0, if_pos p1, if_pos p2, hr, if_neg h1, hw]) hh
theorem Sets_s (zs : List Int) (p v : Int) (l : List S62) (h : nSs l ≤ 1048577) : Ev (fun k => spec_Sets.f k zs p v l) (ascL (fol stepT [] (preSs l))) := by
  have h1 := len_sumW (preSs l)
  rw [sumW_preSs] at h1
  have hv := sets_l0 (preSs l) (by omega) (preSs l).length 0 [] (by omega) (by rw [List.length_nil]; omega)
  rw [List.drop_zero, sets_same] at hv
  unfold spec_Sets.f
  exact Ev.bind (stmts_f l (by omega)) hv
theorem ascL_len (l : List Int) : (ascL l).length ≤ l.length := by
  have q1 := compact_len (l.mergeSort fun x y => decide (x ≤ y))
  rw [List.length_mergeSort] at q1
  exact q1
end Go.Proofs.Ytjcggilkfofiaaa.P
