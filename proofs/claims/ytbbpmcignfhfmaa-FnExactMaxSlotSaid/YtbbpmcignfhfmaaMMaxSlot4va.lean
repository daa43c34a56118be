/- MaxSlot answers as the reference's. Conditions: a small graph. -/
import Derived.Test.YtbbpmcignfhfmaaMMaxSlot0b
import Derived.Test.YtbbpmcignfhfmaaMMaxSlot3va
import Derived.Test.YtbbpmcignfhfmaaMMaxSlotxF36
import Derived.Test.YtbbpmcignfhfmaaMMaxSlot3wa
import Derived.Test.YtbbpmcignfhfmaaMMaxSlot0xa
namespace Go.Proofs.Ytbbpmcignfhfmaa.Gr
open Go.RowKit Go.Proofs.Ytbbpmcignfhfmaa.P Go.Proofs.YtbbpmcignfhfmaaW.PrintWords Go.Proofs.YtbbpmcignfhfmaaW.PrintLast Go.Proofs.YtbbpmcignfhfmaaW.PrintMore Go.Proofs.Ytbbpmcignfhfmaa.Aux Go.Proofs.Ytbbpmcignfhfmaa.Opens Go.Proofs.Ytbbpmcignfhfmaa.Ok
set_option linter.unusedVariables false
set_option linter.unusedSimpArgs false
theorem mx_max (a b : Int) : mx a b = max a b := by unfold mx; split <;> omega
def mxs (o : Int) (l : List Int) : Int := l.foldl max o
theorem mxs_app (o : Int) (l m : List Int) : mxs o (l ++ m) = mxs (mxs o l) m := List.foldl_append
theorem mxs_pull (o a : Int) (l : List Int) : mxs (max o a) l = max (mxs o l) a := by
  induction l generalizing o with
  | nil => rfl
  | cons x l ih =>
    show mxs (max (max o a) x) l = max (mxs (max o x) l) a
    rw [← ih, show max (max o a) x = max (max o x) a by omega]
theorem mxs_swap (o : Int) (l m : List Int) : mxs (mxs o l) m = mxs (mxs o m) l := by
  induction l generalizing o with
  | nil => rfl
  | cons x l ih =>
    show mxs (mxs (max o x) l) m = mxs (max (mxs o m) x) l
    rw [ih, mxs_pull]
def stepSlots (x : S39) : List Int := usesL x ++ [makesV x]
def flat : List S39 → List Int
  | [] => []
  | x :: xs => stepSlots x ++ flat xs
def endL (b : S49) : List Int := if b.f1 = 0 then [] else [b.f2]
def maxB (o : Int) (b : S49) : Int := mxs (mxs o (endL b)) (flat b.f0)
theorem flat_length (xs : List S39) : (flat xs).length ≤ 4 * xs.length := by
  induction xs with
  | nil => simp [flat]
  | cons x xs ih =>
    have := usesL_length x
    simp only [flat, stepSlots, List.length_append, List.length_cons, List.length_nil]
    omega
/- the reference -/
section
variable (zs : List Int) (p v s : Int) (bs : List S49)
theorem s_l2 (l : List Int) (hl : l.length ≤ 4294967296) (ib : Nat) (hib : ib ≤ 1048576) (R : Int) (d : Nat) : ∀ (i : Nat) (o : Int), i + d = l.length →
    Ev (fun k => spec_MaxSlot.l0 k (mxs o (l.drop i)) ((ib + 1 : Nat) : Int) zs p v s bs) R → Ev (fun k => spec_MaxSlot.l2 k o (ib : Int) l (i : Int) zs p v s bs) R := by
  induction d with
  | zero =>
    intro i o hi h
    rw [List.drop_eq_nil_of_le (by omega), show mxs o [] = o from rfl] at h
    exact Ev.step (fun k => by rw [spec_MaxSlot.l2, if_neg (by omega), wrap_ok (i := (ib : Int) + 1) (by omega) (by omega), ← Int.natCast_succ]) h
  | succ d ih =>
    intro i o hi h
    have hi' : i < l.length := by omega
    rw [List.drop_eq_getElem_cons hi'] at h
    have hr := rd_lt l i hi'
    by_cases hg : l[i] > o
    · refine Ev.step (fun k => by rw [spec_MaxSlot.l2, if_pos (by omega), if_pos (by omega), hr, if_pos hg, wrap_ok (i := (i : Int) + 1) (by omega) (by omega), ← Int.natCast_succ]) (ih (i + 1) l[i] (by omega) ?_)
      rw [show mxs o (l[i] :: l.drop (i + 1)) = mxs (max o l[i]) (l.drop (i + 1)) from rfl, show max o l[i] = l[i] by omega] at h
      exact h
    · refine Ev.step (fun k => by rw [spec_MaxSlot.l2, if_pos (by omega), if_pos (by omega), hr, if_neg hg, wrap_ok (i := (i : Int) + 1) (by omega) (by omega), ← Int.natCast_succ]) (ih (i + 1) o (by omega) ?_)
      rw [show mxs o (l[i] :: l.drop (i + 1)) = mxs (max o l[i]) (l.drop (i + 1)) from rfl, show max o l[i] = o by omega] at h
      exact h
theorem s_l1 (code : List S39) (hc : code.length ≤ 1048576) (j a to_ el : Int) (ib : Nat) (o : Int) (R : Int) (d : Nat) : ∀ (i : Nat) (l : List Int), i + d = code.length → l.length + 4 * d ≤ 4294967296 →
    Ev (fun k => spec_MaxSlot.l2 k o (ib : Int) (l ++ flat (code.drop i)) 0 zs p v s bs) R → Ev (fun k => spec_MaxSlot.l1 k o (ib : Int) l (i : Int) zs p v s bs code j a to_ el) R := by
  induction d with
  | zero =>
    intro i l hi hl h
    rw [List.drop_eq_nil_of_le (by omega)] at h
    simp only [flat, List.append_nil] at h
    exact Ev.step (fun k => by rw [spec_MaxSlot.l1, if_neg (by omega)]) h
  | succ d ih =>
    intro i l hi hl h
    have hi' : i < code.length := by omega
    rw [List.drop_eq_getElem_cons hi'] at h
    have hr := rdII code i hi'
    have hu := usesL_length code[i]
    have hs : l ++ flat (code[i] :: code.drop (i + 1)) = (l ++ usesL code[i] ++ [makesV code[i]]) ++ flat (code.drop (i + 1)) := by simp [flat, stepSlots]
    rw [hs] at h
    have h2 := ih (i + 1) (l ++ usesL code[i] ++ [makesV code[i]]) (by omega) (by simp; omega) h
    refine Ev.step (fun k => by rw [spec_MaxSlot.l1, if_pos (by omega), if_pos (by omega), hr]) (Ev.bind (uses_ev code[i]) ?_)
    refine Ev.ite_pos (by omega) ?_
    refine Ev.const rfl (Ev.const (makes_s code[i]) ?_)
    refine Ev.ite_pos (by rw [List.length_append]; omega) ?_
    rw [wrap_ok (i := (i : Int) + 1) (by omega) (by omega), ← Int.natCast_succ]
    exact h2
theorem s_l0 (hb : bs.length ≤ 1048576) (hc : ∀ b ∈ bs, b.f0.length ≤ 1048576) (hg : Ev (fun k => spec_GraphOk.f k zs p v s bs) true) (d : Nat) : ∀ (i : Nat) (o : Int), i + d = bs.length →
    Ev (fun k => spec_MaxSlot.l0 k o (i : Int) zs p v s bs) ((bs.drop i).foldl maxB o) := by
  induction d with
  | zero =>
    intro i o hi
    rw [List.drop_eq_nil_of_le (by omega)]
    refine Ev.step (f := fun k => spec_MaxSlot.j1 k o (i : Int) false zs p v s bs) (fun k => by rw [spec_MaxSlot.l0, if_neg (by omega)]) ?_
    exact Ev.step (f := fun k => some o) (fun k => by rw [spec_MaxSlot.j1, if_neg (by simp)]) (Ev.now _)
  | succ d ih =>
    intro i o hi
    have hi' : i < bs.length := by omega
    rw [List.drop_eq_getElem_cons hi']
    have hr := rdIB bs i hi'
    have hcc := hc bs[i] (List.getElem_mem hi')
    have h0 := ih (i + 1) (maxB o bs[i]) (by omega)
    have hfl := flat_length bs[i].f0
    refine Ev.step (fun k => by rw [spec_MaxSlot.l0, if_pos (by omega)]) (Ev.bind hg ?_)
    refine Ev.step (fun k => by rw [spec_MaxSlot.j1, if_pos rfl, if_pos (by omega), if_pos (by omega), hr]) (Ev.const rfl ?_)
    have go : ∀ l : List Int, l = endL bs[i] → Ev (fun k => spec_MaxSlot.j2 k o (i : Int) l zs p v s bs bs[i].f0 bs[i].f1 bs[i].f2 bs[i].f3 bs[i].f4) ((bs[i] :: bs.drop (i + 1)).foldl maxB o) := fun l hl => by
      have hl1 : l.length ≤ 1 := by rw [hl]; unfold endL; split <;> simp
      refine Ev.step (f := fun k => spec_MaxSlot.l1 k o (i : Int) l 0 zs p v s bs bs[i].f0 bs[i].f1 bs[i].f2 bs[i].f3 bs[i].f4) (fun k => by rw [spec_MaxSlot.j2]) ?_
      refine s_l1 zs p v s bs bs[i].f0 hcc bs[i].f1 bs[i].f2 bs[i].f3 bs[i].f4 i o _ bs[i].f0.length 0 l (by omega) (by omega) ?_
      rw [List.drop_zero]
      refine s_l2 zs p v s bs (l ++ flat bs[i].f0) (by rw [List.length_append]; omega) i (by omega) _ _ 0 o (Nat.zero_add _) ?_
      rw [List.drop_zero, mxs_app, hl]
      exact h0
    by_cases hj : bs[i].f1 = 0
    · exact Ev.ite_pos hj (go [] (by unfold endL; rw [if_pos hj]))
    · exact Ev.ite_neg hj (Ev.ite_pos (by simp) (go [bs[i].f2] (by unfold endL; rw [if_neg hj])))
end
/- the program -/
section
variable (bs : List S49)
theorem i_l2 (code : List S39) (l : List Int) (hl : l.length ≤ 3) (ib jj : Nat) (hj : jj ≤ 1048576) (n : Int) (bc : List S39) (j a to_ el : Int) (R : Int) (d : Nat) : ∀ (i : Nat) (o : Int), i + d = l.length →
    Ev (fun k => impl_MaxSlot.l1 k (mxs o (l.drop i)) bs (bs.length : Int) (ib : Int) code n ((jj + 1 : Nat) : Int) bc j a to_ el) R → Ev (fun k => impl_MaxSlot.l2 k o bs (bs.length : Int) (ib : Int) code n (jj : Int) l (l.length : Int) (i : Int) bc j a to_ el) R := by
  induction d with
  | zero =>
    intro i o hi h
    rw [List.drop_eq_nil_of_le (by omega), show mxs o [] = o from rfl] at h
    exact Ev.step (fun k => by rw [impl_MaxSlot.l2, if_neg (by omega), wrap_ok (i := (jj : Int) + 1) (by omega) (by omega), ← Int.natCast_succ]) h
  | succ d ih =>
    intro i o hi h
    have hi' : i < l.length := by omega
    rw [List.drop_eq_getElem_cons hi'] at h
    have hr := rd_lt l i hi'
    exact Ev.step (fun k => by rw [impl_MaxSlot.l2, if_pos (by omega), if_pos (by omega), if_pos (by omega), hr, mx_max, wrap_ok (i := (i : Int) + 1) (by omega) (by omega), ← Int.natCast_succ]) (ih (i + 1) (max o l[i]) (by omega) h)
theorem i_l1 (code : List S39) (hc : code.length ≤ 1048576) (ib : Nat) (hib : ib ≤ 1048576) (bc : List S39) (j a to_ el : Int) (R : Int) (d : Nat) : ∀ (i : Nat) (o : Int), i + d = code.length →
    Ev (fun k => impl_MaxSlot.l0 k (mxs (mxs o (flat (code.drop i))) (if j = 0 then [] else [a])) bs (bs.length : Int) ((ib + 1 : Nat) : Int)) R →
    Ev (fun k => impl_MaxSlot.l1 k o bs (bs.length : Int) (ib : Int) code (code.length : Int) (i : Int) bc j a to_ el) R := by
  induction d with
  | zero =>
    intro i o hi h
    rw [List.drop_eq_nil_of_le (by omega)] at h
    by_cases hj : j = 0
    · rw [if_pos hj, show mxs (mxs o (flat [])) [] = o from rfl] at h
      exact Ev.step (fun k => by rw [impl_MaxSlot.l1, if_neg (by omega), if_pos hj, wrap_ok (i := (ib : Int) + 1) (by omega) (by omega), ← Int.natCast_succ]) h
    · rw [if_neg hj, show mxs (mxs o (flat [])) [a] = max o a from rfl] at h
      exact Ev.step (fun k => by rw [impl_MaxSlot.l1, if_neg (by omega), if_neg hj, mx_max, wrap_ok (i := (ib : Int) + 1) (by omega) (by omega), ← Int.natCast_succ]) h
  | succ d ih =>
    intro i o hi h
    have hi' : i < code.length := by omega
    have hr := rdII code i hi'
    have hu := usesL_length code[i]
    rw [List.drop_eq_getElem_cons hi'] at h
    have e : mxs o (flat (code[i] :: code.drop (i + 1))) = mxs (mxs (max o (makesV code[i])) (usesL code[i])) (flat (code.drop (i + 1))) := by
      show mxs o (usesL code[i] ++ [makesV code[i]] ++ flat (code.drop (i + 1))) = _
      rw [mxs_app, mxs_app, mxs_pull]
      rfl
    rw [e] at h
    refine Ev.step (fun k => by rw [impl_MaxSlot.l1, if_pos (by omega), if_pos (by omega), if_pos (by omega), hr]) (Ev.const (makes_i code[i]) (Ev.bind (usesOf_ev code[i]) ?_))
    rw [mx_max]
    refine i_l2 bs code (usesL code[i]) hu ib i (by omega) (code.length : Int) bc j a to_ el R (usesL code[i]).length 0 _ (Nat.zero_add _) ?_
    rw [List.drop_zero]
    exact ih (i + 1) _ (by omega) h
theorem i_l0 (hb : bs.length ≤ 1048576) (hc : ∀ b ∈ bs, b.f0.length ≤ 1048576) (d : Nat) : ∀ (i : Nat) (o : Int), i + d = bs.length →
    Ev (fun k => impl_MaxSlot.l0 k o bs (bs.length : Int) (i : Int)) ((bs.drop i).foldl maxB o) := by
  induction d with
  | zero =>
    intro i o hi
    rw [List.drop_eq_nil_of_le (by omega)]
    exact Ev.step (f := fun _ => some o) (fun k => by rw [impl_MaxSlot.l0, if_neg (by omega)]) (Ev.now _)
  | succ d ih =>
    intro i o hi
    have hi' : i < bs.length := by omega
    rw [List.drop_eq_getElem_cons hi']
    have hr := rdIB bs i hi'
    have hcc := hc bs[i] (List.getElem_mem hi')
    refine Ev.step (f := fun k => impl_MaxSlot.l1 k o bs (bs.length : Int) (i : Int) bs[i].f0 (bs[i].f0.length : Int) 0 bs[i].f0 bs[i].f1 bs[i].f2 bs[i].f3 bs[i].f4) (fun k => by rw [impl_MaxSlot.l0, if_pos (by omega), if_pos (by omega), if_pos (by omega), hr]) (i_l1 bs bs[i].f0 hcc i (by omega) bs[i].f0 bs[i].f1 bs[i].f2 bs[i].f3 bs[i].f4 _ bs[i].f0.length 0 o (by omega) ?_)
    rw [List.drop_zero, mxs_swap]
    exact ih (i + 1) (maxB o bs[i]) (by omega)
end
theorem MaxSlot_same (zs : List Int) (p v s : Int) (bs : List S44) (h : Small zs bs) (_ : zs.length ≤ maxLen ∧ ∀ x_ ∈ zs, (Lit.int .i64 x_).wf = true) (_ : (Lit.int .i64 p).wf = true) (_ : (Lit.int .i64 v).wf = true) (_ : (Lit.int .i64 s).wf = true) (_ : bs.length ≤ maxLen ∧ ∀ x_ ∈ bs, W44 x_) :
    ∃ r, Ev (fun k => spec_MaxSlot.f k zs p v s (bs.map convB)) r ∧ Ev (fun k => impl_MaxSlot.f k zs p v s (bs.map convB)) r := by
  have hb : (bs.map convB).length ≤ 1048576 := by rw [List.length_map]; exact h.blocks
  have hS := GraphOk_ev zs p v s (bs.map convB) hb h.sizes h.stepsI
  have hI := isGraph_ev zs p v s (bs.map convB) hb h.stepsI
  cases hG : okG zs p v s (bs.map convB) with
  | false =>
    rw [hG] at hS hI
    refine ⟨-1, ?_, Ev.bind hI (Ev.ite_neg (by simp) (Ev.now _))⟩
    have h1 : Ev (fun k => spec_MaxSlot.j1 k (-1) 0 false zs p v s (bs.map convB)) (-1) := Ev.step (f := fun _ => some (-1)) (fun k => by rw [spec_MaxSlot.j1, if_neg (by simp)]) (Ev.now _)
    show Ev (fun k => spec_MaxSlot.l0 k (-1) 0 zs p v s (bs.map convB)) (-1)
    by_cases hl : (0 : Int) < ((bs.map convB).length : Int)
    · exact Ev.step (fun k => by rw [spec_MaxSlot.l0, if_pos hl]) (Ev.bind hS h1)
    · exact Ev.step (fun k => by rw [spec_MaxSlot.l0, if_neg hl]) h1
  | true =>
    rw [hG] at hS hI
    have h1 := s_l0 zs p v s (bs.map convB) hb (conv_code h) hS (bs.map convB).length 0 (-1) (by omega)
    have h2 := i_l0 (bs.map convB) hb (conv_code h) (bs.map convB).length 0 (-1) (by omega)
    exact ⟨_, h1, Ev.bind hI (Ev.ite_pos rfl h2)⟩
end Go.Proofs.Ytbbpmcignfhfmaa.Gr
