/- Functions of the program and of the reference as plain functions, and that the Go code comes to their answers; several texts in one. No conditions beyond what each theorem says. -/
import Derived.Test.YtjcggilkfofiaaaMVarsOfxF21
import Derived.Test.YtjcggilkfofiaaaMVarsOf1a
import Derived.Test.YtjcggilkfofiaaaMVarsOf0ya
import Derived.Test.YtjcggilkfofiaaaMVarsOf0sa
import Derived.Test.YtjcggilkfofiaaaMVarsOf0xa
namespace Go.Proofs.Ytjcggilkfofiaaa.P
open Go.RowKit Go.Proofs.YtjcggilkfofiaaaW.PrintWords Go.Proofs.YtjcggilkfofiaaaW.PrintLast Go.Proofs.Ytjcggilkfofiaaa.Aux Go.Proofs.Ytjcggilkfofiaaa.Ex
set_option linter.unusedVariables false
theorem add_f (l : List Int) (n : Int) (hl : l.length ≤ 4398046511104) : Ev (fun k => spec_l02Add.f k l n) (addL n l) := by
  have h := add_ev l n hl l.length 0 (by omega)
  simpa only [spec_l02Add.f, List.take_zero, List.drop_zero, List.nil_append, Int.natCast_zero] using h
/-- What one expression adds. -/
def insV (x : S29) (s : List Int) : List Int := if x.f0 = 1 then addL x.f1 s else if x.f0 = 2 ∧ 0 ≤ x.f2 then addL x.f2 s else s
theorem insV_len (x : S29) (s : List Int) : (insV x s).length ≤ s.length + 1 := by
  unfold insV
  split
  · exact addL_length _ _
  · split
    · exact addL_length _ _
    · omega
theorem insV_asc (x : S29) (s : List Int) (h : s.Pairwise (· < ·)) : (insV x s).Pairwise (· < ·) := by
  unfold insV
  split
  · exact addL_asc _ _ h
  · split
    · exact addL_asc _ _ h
    · exact h
theorem fold_same : ∀ (l : List S29) (s z : List Int), s.Pairwise (· < ·) → (∀ y, y ∈ s ↔ y ∈ z) → (fol insV s l).Pairwise (· < ·) ∧ ∀ y, y ∈ fol insV s l ↔ y ∈ fol stepV z l
  | [], s, z, h, e => ⟨h, e⟩
  | x :: xs, s, z, h, e => by
    refine fold_same xs (insV x s) (stepV x z) (insV_asc x s h) fun y => ?_
    unfold insV stepV
    split
    · rw [addL_mem, e, List.mem_append, List.mem_singleton]; exact Or.comm
    · split
      · rw [addL_mem, e, List.mem_append, List.mem_singleton]; exact Or.comm
      · exact e y
theorem fold_asc (l : List S29) : fol insV [] l = ascL (fol stepV [] l) := by
  obtain ⟨h1, h2⟩ := fold_same l [] [] List.Pairwise.nil (fun _ => Iff.rfl)
  obtain ⟨g1, g2⟩ := asc_sorted (fol stepV [] l)
  exact asc_one _ _ h1 g1 fun y => (h2 y).trans (g2 y).symm
end Go.Proofs.Ytjcggilkfofiaaa.P
namespace Go.Proofs.Ytjcggilkfofiaaa.P
open Go.RowKit Go.Proofs.YtjcggilkfofiaaaW.PrintWords Go.Proofs.YtjcggilkfofiaaaW.PrintLast Go.Proofs.Ytjcggilkfofiaaa.Aux Go.Proofs.Ytjcggilkfofiaaa.Ex
set_option linter.unusedVariables false
theorem rdE (xs : List S29) (i : Nat) (h : i < xs.length) : rd_T29 xs (i : Int) = xs[i] := by
  unfold rd_T29
  rw [Int.toNat_natCast]
  simp [h]
theorem vars_l0 (l : List S29) (hl : l.length ≤ 1099511627776) (d : Nat) : ∀ (i : Nat) (s : List Int), i + d = l.length → s.length + 2 * d ≤ 4398046511104 → Ev (fun k => spec_VarsOf.l0 k s l (i : Int)) (fol insV s (l.drop i)) := by
  induction d with
  | zero =>
    intro i s hi hs
    rw [List.drop_eq_nil_of_le (by omega), show fol insV s [] = s from rfl]
    exact Ev.step (fun k => by rw [spec_VarsOf.l0, if_neg (by omega)]) (Ev.now _)
  | succ d ih =>
    intro i s hi hs
    have hi' : i < l.length := by omega
    have hr := rdE l i hi'
    have p1 : (i : Int) < (l.length : Int) := by omega
    have p2 : 0 ≤ (i : Int) := by omega
    have hw : wrap64 ((i : Int) + 1) = ((i + 1 : Nat) : Int) := by rw [wrap_ok (by omega) (by omega)]; omega
    have hln := insV_len l[i] s
    have hh := ih (i + 1) (insV l[i] s) (by omega) (by omega)
    have hd : fol insV s (l.drop i) = fol insV (insV l[i] s) (l.drop (i + 1)) := by rw [List.drop_eq_getElem_cons hi']; rfl
    rw [hd]
    unfold insV at hh ⊢
    by_cases h1 : l[i].f0 = 1
    · have h2 : ¬ l[i].f0 = 2 := by omega
      rw [if_pos h1] at hh ⊢
      refine Ev.step (fun k => by rw [spec_VarsOf.l0, if_pos p1, if_pos p2, hr, if_pos h1, hw]) ?_
      exact Ev.bind (add_f s l[i].f1 (by omega)) (Ev.ite_neg h2 hh)
    · rw [if_neg h1] at hh ⊢
      by_cases h2 : l[i].f0 = 2
      · by_cases h3 : 0 ≤ l[i].f2
        · rw [if_pos ⟨h2, h3⟩] at hh ⊢
          refine Ev.step (fun k => by rw [spec_VarsOf.l0, if_pos p1, if_pos p2, hr, if_neg h1, if_pos h2, if_pos (show l[i].f2 ≥ 0 from h3), hw]) ?_
          exact Ev.bind (add_f s l[i].f2 (by omega)) hh
        · rw [if_neg (fun h => h3 h.2)] at hh ⊢
          exact Ev.step (fun k => by rw [spec_VarsOf.l0, if_pos p1, if_pos p2, hr, if_neg h1, if_pos h2, if_neg (show ¬ l[i].f2 ≥ 0 from h3), hw]) hh
      · rw [if_neg (fun h => h2 h.1)] at hh ⊢
        exact Ev.step (fun k => by rw [spec_VarsOf.l0, if_pos p1, if_pos p2, hr, if_neg h1, if_neg h2, hw]) hh
theorem VarsOf_s (x : S29) (h : nE x ≤ 1048577) : Ev (fun k => spec_VarsOf.f k x.f0 x.f1 x.f2 x.f3 x.f4) (ascL (fol stepV [] (preE x))) := by
  have hl : (preE x).length ≤ 1048577 := by rw [preE_len]; exact h
  have hv := vars_l0 (preE x) (by omega) (preE x).length 0 [] (by omega) (by rw [List.length_nil]; omega)
  rw [List.drop_zero, fold_asc] at hv
  unfold spec_VarsOf.f
  exact Ev.bind (exps_f x (by omega)) hv
end Go.Proofs.Ytjcggilkfofiaaa.P
