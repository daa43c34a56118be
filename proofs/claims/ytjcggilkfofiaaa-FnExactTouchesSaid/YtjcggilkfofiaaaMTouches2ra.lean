/- Functions of the program and of the reference as plain functions, and that the Go code comes to their answers; several texts in one. No conditions beyond what each theorem says. -/
import Derived.Test.YtjcggilkfofiaaaMTouchesxF21
import Derived.Test.YtjcggilkfofiaaaMTouches1a
import Derived.Test.YtjcggilkfofiaaaMTouches0ya
import Derived.Test.YtjcggilkfofiaaaMTouches0sa
import Derived.Test.YtjcggilkfofiaaaMTouches0xa
import Derived.Test.YtjcggilkfofiaaaMTouchesxF27
import Derived.Test.YtjcggilkfofiaaaMTouchesxF30
import Derived.Test.YtjcggilkfofiaaaMTouches1ra
namespace Go.Proofs.Ytjcggilkfofiaaa.P
open Go.RowKit Go.Proofs.YtjcggilkfofiaaaW.PrintWords Go.Proofs.YtjcggilkfofiaaaW.PrintLast Go.Proofs.Ytjcggilkfofiaaa.Aux Go.Proofs.Ytjcggilkfofiaaa.Ex
set_option linter.unusedVariables false
theorem add_f (l : List Int) (n : Int) (hl : l.length ≤ 4398046511104) : Ev (fun k => spec_l02Add.f k l n) (addL n l) := by
  have h := add_ev l n hl l.length 0 (by omega)
  simpa only [spec_l02Add.f, List.take_zero, List.drop_zero, List.nil_append, Int.natCast_zero] using h
end Go.Proofs.Ytjcggilkfofiaaa.P
namespace Go.Proofs.Ytjcggilkfofiaaa.P
open Go.RowKit Go.Proofs.YtjcggilkfofiaaaW.PrintWords Go.Proofs.YtjcggilkfofiaaaW.PrintLast Go.Proofs.Ytjcggilkfofiaaa.Aux Go.Proofs.Ytjcggilkfofiaaa.Ex
set_option linter.unusedVariables false
theorem rdE (xs : List S29) (i : Nat) (h : i < xs.length) : rd_T29 xs (i : Int) = xs[i] := by
  unfold rd_T29
  rw [Int.toNat_natCast]
  simp [h]
end Go.Proofs.Ytjcggilkfofiaaa.P
namespace Go.Proofs.Ytjcggilkfofiaaa.P
open Go.RowKit Go.Proofs.YtjcggilkfofiaaaW.PrintWords Go.Proofs.YtjcggilkfofiaaaW.PrintLast Go.Proofs.Ytjcggilkfofiaaa.Aux Go.Proofs.Ytjcggilkfofiaaa.Ex
set_option linter.unusedVariables false
theorem rdS (xs : List S62) (i : Nat) (h : i < xs.length) : rd_T62 xs (i : Int) = xs[i] := by
  unfold rd_T62
  rw [Int.toNat_natCast]
  simp [h]
theorem touch_l1 (l : List S29) (hl : l.length ≤ 1099511627776) (d : Nat) : ∀ (i : Nat) (s : List Int), i + d = l.length → s.length + 2 * d ≤ 4398046511104 → Ev (fun k => spec_Touches.l1 k s l (i : Int)) (fol insL s (l.drop i)) := by
  induction d with
  | zero =>
    intro i s hi hs
    rw [List.drop_eq_nil_of_le (by omega), show fol insL s [] = s from rfl]
    exact Ev.step (fun k => by rw [spec_Touches.l1, if_neg (by omega)]) (Ev.now _)
  | succ d ih =>
    intro i s hi hs
    have hi' : i < l.length := by omega
    have hr := rdE l i hi'
    have p1 : (i : Int) < (l.length : Int) := by omega
    have p2 : 0 ≤ (i : Int) := by omega
    have hw : wrap64 ((i : Int) + 1) = ((i + 1 : Nat) : Int) := by rw [wrap_ok (by omega) (by omega)]; omega
    have hln : (insL l[i] s).length ≤ s.length + 1 := insF_len _ _ _ _ _
    have hh := ih (i + 1) (insL l[i] s) (by omega) (by omega)
    have hd : fol insL s (l.drop i) = fol insL (insL l[i] s) (l.drop (i + 1)) := by rw [List.drop_eq_getElem_cons hi']; rfl
    rw [hd]
    unfold insL insF at hh ⊢
    by_cases h1 : l[i].f0 = 2
    · rw [if_pos h1] at hh ⊢
      refine Ev.step (fun k => by rw [spec_Touches.l1, if_pos p1, if_pos p2, hr, if_pos h1, hw]) ?_
      exact Ev.bind (add_f s l[i].f1 (by omega)) hh
    · rw [if_neg h1] at hh ⊢
      exact Ev.step (fun k => by rw [spec_Touches.l1, if_pos p1, if_pos p2, hr, if_neg h1, hw]) hh
theorem touch_l0 (zs : List Int) (p v : Int) (b : List S62) (hb : nSs b ≤ 1048577) (l : List S62) (hl : l.length ≤ 1048577) (d : Nat) : ∀ (i : Nat) (s : List Int), i + d = l.length → s.length + d ≤ 1048577 → Ev (fun k => spec_Touches.l0 k s l (i : Int) zs p v b) (fol insL (fol insU s (l.drop i)) (allE (preSs b))) := by
  have hbl := len_sumW (preSs b)
  rw [sumW_preSs] at hbl
  induction d with
  | zero =>
    intro i s hi hs
    rw [List.drop_eq_nil_of_le (by omega), show fol insU s [] = s from rfl]
    have hh := touch_l1 (allE (preSs b)) (by omega) (allE (preSs b)).length 0 s (by omega) (by omega)
    rw [List.drop_zero] at hh
    exact Ev.step (fun k => by rw [spec_Touches.l0, if_neg (by omega)]) (Ev.bind (all_f zs p v b (by omega)) hh)
  | succ d ih =>
    intro i s hi hs
    have hi' : i < l.length := by omega
    have hr := rdS l i hi'
    have p1 : (i : Int) < (l.length : Int) := by omega
    have p2 : 0 ≤ (i : Int) := by omega
    have hw : wrap64 ((i : Int) + 1) = ((i + 1 : Nat) : Int) := by rw [wrap_ok (by omega) (by omega)]; omega
    have hln : (insU l[i] s).length ≤ s.length + 1 := insF_len _ _ _ _ _
    have hh := ih (i + 1) (insU l[i] s) (by omega) (by omega)
    have hd : fol insU s (l.drop i) = fol insU (insU l[i] s) (l.drop (i + 1)) := by rw [List.drop_eq_getElem_cons hi']; rfl
    rw [hd]
    unfold insU insF at hh ⊢
    by_cases h1 : l[i].f0 = 1
    · rw [if_pos h1] at hh ⊢
      refine Ev.step (fun k => by rw [spec_Touches.l0, if_pos p1, if_pos p2, hr, if_pos h1, hw]) ?_
      exact Ev.bind (add_f s l[i].f1 (by omega)) hh
    · rw [if_neg h1] at hh ⊢
      exact Ev.step (fun k => by rw [spec_Touches.l0, if_pos p1, if_pos p2, hr, if_neg h1, hw]) hh
theorem Touches_s (zs : List Int) (p v : Int) (l : List S62) (h : nSs l ≤ 1048577) : Ev (fun k => spec_Touches.f k zs p v l) (ascL (fol stepU [] (preSs l))) := by
  have h1 := len_sumW (preSs l)
  rw [sumW_preSs] at h1
  have hv := touch_l0 zs p v l h (preSs l) (by omega) (preSs l).length 0 [] (by omega) (by rw [List.length_nil]; omega)
  rw [List.drop_zero, touches_same] at hv
  unfold spec_Touches.f
  exact Ev.bind (stmts_f l (by omega)) hv
theorem ascL_len (l : List Int) : (ascL l).length ≤ l.length := by
  have q1 := compact_len (l.mergeSort fun x y => decide (x ≤ y))
  rw [List.length_mergeSort] at q1
  exact q1
end Go.Proofs.Ytjcggilkfofiaaa.P
