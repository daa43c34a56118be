/- Putting a number into an ascending row: what spec's l02Add answers. -/
import Derived.Test.YtjcggilkfofiaaaMTouchesxF54
import Derived.Test.YtjcggilkfofiaaaMTouches0d
import Derived.Test.YtjcggilkfofiaaaMTouches0a
namespace Go.Proofs.Ytjcggilkfofiaaa.P
open Go.RowKit Go.Proofs.YtjcggilkfofiaaaW.PrintWords Go.Proofs.YtjcggilkfofiaaaW.PrintLast Go.Proofs.Ytjcggilkfofiaaa.Aux
theorem add_ev (l : List Int) (n : Int) (hl : l.length ≤ 4398046511104) (d : Nat) : ∀ i : Nat, i + d = l.length → Ev (fun k => spec_l02Add.l0 k l n (i : Int)) (l.take i ++ addL n (l.drop i)) := by
  induction d with
  | zero =>
    intro i hi
    have t1 : (l.take (i : Int).toNat).length ≤ 4398046511104 := by rw [List.length_take]; omega
    have t2 : (l.drop (i : Int).toNat).length ≤ 4398046511104 := by rw [List.length_drop]; omega
    refine Ev.step (fun k => by rw [spec_l02Add.l0, if_neg (by omega)]) ?_
    refine Ev.const rfl (Ev.ite_pos (by omega) (Ev.ite_pos (by omega) (Ev.ite_pos (by simp only [List.length_nil]; omega) (Ev.const rfl (Ev.const rfl (Ev.ite_pos (by simp only [List.length_append, List.length_nil, List.length_cons]; omega) (Ev.const rfl (Ev.ite_pos (by simp only [List.length_append, List.length_nil, List.length_cons]; omega) ?_))))))))
    have e1 : l.drop i = [] := List.drop_eq_nil_of_le (by omega)
    rw [Int.toNat_natCast, e1, addL, List.nil_append, List.append_nil]
    exact Ev.now _
  | succ d ih =>
    intro i hi
    have hi' : i < l.length := by omega
    have hr := rd_lt l i hi'
    have p1 : (i : Int) < (l.length : Int) := by omega
    have p2 : 0 ≤ (i : Int) := by omega
    have hw : wrap64 ((i : Int) + 1) = ((i + 1 : Nat) : Int) := by rw [wrap_ok (by omega) (by omega)]; omega
    have hd : l.drop i = l[i] :: l.drop (i + 1) := List.drop_eq_getElem_cons hi'
    by_cases hx : l[i] < n
    · have hh := ih (i + 1) (by omega)
      rw [List.take_succ_eq_append_getElem hi', List.append_assoc, List.singleton_append] at hh
      rw [hd, addL, if_pos hx]
      exact Ev.step (fun k => by rw [spec_l02Add.l0, if_pos p1, if_pos p2, hr, if_pos hx, hw]) hh
    · by_cases hy : l[i] = n
      · have e : l.take i ++ addL n (l.drop i) = l := by rw [hd, addL, if_neg hx, if_pos hy, ← hd, List.take_append_drop]
        rw [e]
        exact Ev.step (fun k => by rw [spec_l02Add.l0, if_pos p1, if_pos p2, hr, if_neg hx, if_pos hy]) (Ev.now _)
      · have t1 : (l.take (i : Int).toNat).length ≤ 4398046511104 := by rw [List.length_take]; omega
        have t2 : (l.drop (i : Int).toNat).length ≤ 4398046511104 := by rw [List.length_drop]; omega
        refine Ev.step (fun k => by rw [spec_l02Add.l0, if_pos p1, if_pos p2, hr, if_neg hx, if_neg hy]) ?_
        refine Ev.const rfl (Ev.ite_pos (by omega) (Ev.ite_pos (by simp only [List.length_nil]; omega) (Ev.const rfl (Ev.const rfl (Ev.ite_pos (by simp only [List.length_append, List.length_nil, List.length_cons]; omega) (Ev.const rfl (Ev.ite_pos (by simp only [List.length_append, List.length_nil, List.length_cons]; omega) ?_)))))))
        have e : l.take i ++ addL n (l.drop i) = ([] ++ l.take i ++ [n]) ++ l.drop i := by rw [hd, addL, if_neg hx, if_neg hy]; simp
        rw [Int.toNat_natCast, e]
        exact Ev.now _
end Go.Proofs.Ytjcggilkfofiaaa.P
