/- SameGraph answers as the reference's. Conditions: the lists are not too long. -/
import Derived.Test.YtbbpmcignfhfmaaMSameGraphxF23
import Derived.Test.YtbbpmcignfhfmaaMSameGraphxF24
import Derived.Test.YtbbpmcignfhfmaaMSameGraph3ya
namespace Go.Proofs.Ytbbpmcignfhfmaa.Gr
open Go.RowKit Go.Proofs.Ytbbpmcignfhfmaa.P Go.Proofs.YtbbpmcignfhfmaaW.PrintWords Go.Proofs.YtbbpmcignfhfmaaW.PrintLast Go.Proofs.Ytbbpmcignfhfmaa.Aux
set_option linter.unusedVariables false
set_option linter.unusedSimpArgs false
/-- Whether two steps are apart. -/
def neI (x y : S39) : Bool := !(x.f0 == y.f0) || (!(x.f1 == y.f1) || (!(x.f2 == y.f2) || (!(x.f3 == y.f3) || (!(x.f4 == y.f4) || (!(x.f5 == y.f5) || (!(x.f6.toList == y.f6.toList)))))))
def eqI : List S39 → List S39 → Bool
  | [], [] => true
  | x :: xs, y :: ys => !neI x y && eqI xs ys
  | _, _ => false
def eqK (b c : S49) : Bool := eqI b.f0 c.f0 && (b.f1 == c.f1 && (b.f2 == c.f2 && (b.f3 == c.f3 && b.f4 == c.f4)))
def eqBs : List S49 → List S49 → Bool
  | [], [] => true
  | x :: xs, y :: ys => eqK x y && eqBs xs ys
  | _, _ => false
theorem eqI_len (l m : List S39) (h : l.length ≠ m.length) : eqI l m = false := by
  induction l generalizing m with
  | nil => cases m with
    | nil => exact absurd rfl h
    | cons y ys => rfl
  | cons x xs ih => cases m with
    | nil => rfl
    | cons y ys =>
      simp only [eqI]
      rw [ih ys (fun e => h (by simp [e])), Bool.and_false]
theorem eqBs_len (l m : List S49) (h : l.length ≠ m.length) : eqBs l m = false := by
  induction l generalizing m with
  | nil => cases m with
    | nil => exact absurd rfl h
    | cons y ys => rfl
  | cons x xs ih => cases m with
    | nil => rfl
    | cons y ys =>
      simp only [eqBs]
      rw [ih ys (fun e => h (by simp [e])), Bool.and_false]
theorem sameI_l0 (l m : List S39) (hl : l.length = m.length) (hn : l.length ≤ 4294967296) (d : Nat) : ∀ i : Nat, i + d = l.length → Ev (fun k => impl_Instr_102.l0 k l m (l.length : Int) (i : Int)) (eqI (l.drop i) (m.drop i)) := by
  induction d with
  | zero =>
    intro i hi
    rw [List.drop_eq_nil_of_le (by omega), List.drop_eq_nil_of_le (by omega)]
    exact Ev.step (f := fun _ => some true) (fun k => by rw [impl_Instr_102.l0, if_neg (by omega)]) (Ev.now _)
  | succ d ih =>
    intro i hi
    have h1 : i < l.length := by omega
    have h2 : i < m.length := by omega
    rw [List.drop_eq_getElem_cons h1, List.drop_eq_getElem_cons h2]
    have r1 := rdII l i h1
    have r2 := rdII m i h2
    cases hq : neI l[i] m[i] with
    | true =>
      refine Ev.step (f := fun _ => some false) (fun k => by rw [impl_Instr_102.l0, if_pos (by omega), if_pos (by omega), if_pos (by omega), if_pos (by omega), r1, r2]; exact if_pos hq) ?_
      simp only [eqI, hq, Bool.not_true, Bool.false_and]
      exact Ev.now _
    | false =>
      refine Ev.step (f := fun k => impl_Instr_102.l0 k l m (l.length : Int) ((i + 1 : Nat) : Int)) (fun k => by rw [impl_Instr_102.l0, if_pos (by omega), if_pos (by omega), if_pos (by omega), if_pos (by omega), r1, r2, wrap_ok (i := (i : Int) + 1) (by omega) (by omega), Int.natCast_succ]; exact if_neg (show ¬ neI l[i] m[i] = true by rw [hq]; simp)) ?_
      simp only [eqI, hq, Bool.not_false, Bool.true_and]
      exact ih (i + 1) (by omega)
theorem sameI_ev (l m : List S39) (hn : l.length ≤ 4294967296) : Ev (fun k => impl_Instr_102.f k l m) (eqI l m) := by
  unfold impl_Instr_102.f
  by_cases h : l.length = m.length
  · exact Ev.ite_pos (by omega) (sameI_l0 l m h hn l.length 0 (by omega))
  · rw [eqI_len l m h]
    exact Ev.ite_neg (by omega) (Ev.now _)
theorem sameB_ev (b c : S49) (hn : b.f0.length ≤ 4294967296) : Ev (fun k => impl_sameBlock.f k b.f0 b.f1 b.f2 b.f3 b.f4 c.f0 c.f1 c.f2 c.f3 c.f4) (eqK b c) := by
  unfold impl_sameBlock.f eqK
  refine Ev.bind (sameI_ev b.f0 c.f0 hn) ?_
  cases eqI b.f0 c.f0 with
  | false => exact Ev.ite_neg (by simp) (Ev.now _)
  | true =>
    refine Ev.ite_pos rfl ?_
    by_cases h1 : b.f1 = c.f1
    · refine Ev.ite_pos h1 ?_
      by_cases h2 : b.f2 = c.f2
      · refine Ev.ite_pos h2 ?_
        by_cases h3 : b.f3 = c.f3
        · rw [show (b.f1 == c.f1) = true from beq_iff_eq.mpr h1, show (b.f2 == c.f2) = true from beq_iff_eq.mpr h2, show (b.f3 == c.f3) = true from beq_iff_eq.mpr h3]
          simp only [Bool.true_and]
          exact Ev.ite_pos h3 (Ev.now _)
        · rw [beq_eq_false_iff_ne.mpr h3]
          simp only [Bool.false_and, Bool.and_false]
          exact Ev.ite_neg h3 (Ev.now _)
      · rw [beq_eq_false_iff_ne.mpr h2]
        simp only [Bool.false_and, Bool.and_false]
        exact Ev.ite_neg h2 (Ev.now _)
    · rw [beq_eq_false_iff_ne.mpr h1]
      simp only [Bool.false_and, Bool.and_false]
      exact Ev.ite_neg h1 (Ev.now _)
theorem sameBs_l0 (l m : List S49) (hl : l.length = m.length) (hn : l.length ≤ 4294967296) (hc : ∀ b ∈ l, b.f0.length ≤ 4294967296) (d : Nat) : ∀ i : Nat, i + d = l.length → Ev (fun k => impl_Block.l0 k m l (l.length : Int) (i : Int)) (eqBs (l.drop i) (m.drop i)) := by
  induction d with
  | zero =>
    intro i hi
    rw [List.drop_eq_nil_of_le (by omega), List.drop_eq_nil_of_le (by omega)]
    exact Ev.step (f := fun _ => some true) (fun k => by rw [impl_Block.l0, if_neg (by omega)]) (Ev.now _)
  | succ d ih =>
    intro i hi
    have h1 : i < l.length := by omega
    have h2 : i < m.length := by omega
    rw [List.drop_eq_getElem_cons h1, List.drop_eq_getElem_cons h2]
    have r1 := rdIB l i h1
    have r2 := rdIB m i h2
    refine Ev.step (fun k => by rw [impl_Block.l0, if_pos (by omega), if_pos (by omega), if_pos (by omega), if_pos (by omega), r1, r2]) (Ev.bind (sameB_ev l[i] m[i] (hc _ (List.getElem_mem h1))) ?_)
    simp only [eqBs]
    cases eqK l[i] m[i] with
    | false => exact Ev.ite_neg (by simp) (Ev.now _)
    | true =>
      rw [Bool.true_and, wrap_ok (i := (i : Int) + 1) (by omega) (by omega), ← Int.natCast_succ]
      exact Ev.ite_pos rfl (ih (i + 1) (by omega))
theorem sameBs_ev (l m : List S49) (hn : l.length ≤ 4294967296) (hc : ∀ b ∈ l, b.f0.length ≤ 4294967296) : Ev (fun k => impl_Block.f k l m) (eqBs l m) := by
  unfold impl_Block.f
  by_cases h : l.length = m.length
  · exact Ev.ite_pos (by omega) (sameBs_l0 l m h hn hc l.length 0 (by omega))
  · rw [eqBs_len l m h]
    exact Ev.ite_neg (by omega) (Ev.now _)
/-- What SameGraph answers. -/
def sameG (zs : List Int) (p v s : Int) (bs : List S49) (zs' : List Int) (p' v' s' : Int) (bs' : List S49) : Bool :=
  decide (zs = zs') && (decide (p = p') && (decide (v = v') && (decide (s = s') && eqBs bs bs')))
theorem implSame_ev (zs : List Int) (p v s : Int) (bs : List S49) (zs' : List Int) (p' v' s' : Int) (bs' : List S49) (hz : zs.length ≤ 1048576) (hn : bs.length ≤ 4294967296) (hc : ∀ b ∈ bs, b.f0.length ≤ 4294967296) :
    Ev (fun k => impl_SameGraph.f k zs p v s bs zs' p' v' s' bs') (sameG zs p v s bs zs' p' v' s' bs') := by
  unfold impl_SameGraph.f sameG
  refine Ev.bind (equalInts_ev slices_Equal_int_int.f slices_Equal_int_int.l0 (fun _ _ _ => rfl) (fun _ _ _ _ _ => rfl) zs zs' (by omega)) ?_
  by_cases h0 : zs = zs'
  · rw [decide_eq_true h0, Bool.true_and]
    refine Ev.ite_pos rfl ?_
    by_cases h1 : p = p'
    · rw [decide_eq_true h1, Bool.true_and]
      refine Ev.ite_pos h1 ?_
      by_cases h2 : v = v'
      · rw [decide_eq_true h2, Bool.true_and]
        refine Ev.ite_pos h2 ?_
        by_cases h3 : s = s'
        · rw [decide_eq_true h3, Bool.true_and]
          exact Ev.ite_pos h3 (Ev.bind (sameBs_ev bs bs' hn hc) (Ev.now _))
        · rw [decide_eq_false h3, Bool.false_and]
          exact Ev.ite_neg h3 (Ev.now _)
      · rw [decide_eq_false h2, Bool.false_and]
        exact Ev.ite_neg h2 (Ev.now _)
    · rw [decide_eq_false h1, Bool.false_and]
      exact Ev.ite_neg h1 (Ev.now _)
  · rw [decide_eq_false h0, Bool.false_and]
    exact Ev.ite_neg (by simp) (Ev.now _)
section
variable (zs : List Int) (p v s : Int) (bs : List S49) (zs' : List Int) (p' v' s' : Int) (bs' : List S49)
theorem same_l1 (ib : Nat) (hib : ib ≤ 1048576) (b c : S49) (hl : b.f0.length = c.f0.length) (hn : b.f0.length ≤ 4294967296) (R : Bool) (hR : Ev (fun k => spec_SameGraph.l0 k ((ib + 1 : Nat) : Int) zs p v s bs zs' p' v' s' bs') R) (d : Nat) : ∀ i : Nat, i + d = b.f0.length →
    Ev (fun k => spec_SameGraph.l1 k (ib : Int) (i : Int) zs p v s bs zs' p' v' s' bs' b.f0 b.f1 b.f2 b.f3 b.f4 c.f0 c.f1 c.f2 c.f3 c.f4) (eqI (b.f0.drop i) (c.f0.drop i) && R) := by
  induction d with
  | zero =>
    intro i hi
    rw [List.drop_eq_nil_of_le (by omega), List.drop_eq_nil_of_le (by omega)]
    exact Ev.step (fun k => by rw [spec_SameGraph.l1, if_neg (by omega), wrap_ok (i := (ib : Int) + 1) (by omega) (by omega), ← Int.natCast_succ]) hR
  | succ d ih =>
    intro i hi
    have h1 : i < b.f0.length := by omega
    have h2 : i < c.f0.length := by omega
    rw [List.drop_eq_getElem_cons h1, List.drop_eq_getElem_cons h2]
    have r1 := rdII b.f0 i h1
    have r2 := rdII c.f0 i h2
    cases hq : neI b.f0[i] c.f0[i] with
    | true =>
      refine Ev.step (f := fun _ => some false) (fun k => by rw [spec_SameGraph.l1, if_pos (by omega), if_pos (by omega), if_pos (by omega), r1, r2]; exact if_pos hq) ?_
      simp only [eqI, hq, Bool.not_true, Bool.false_and]
      exact Ev.now _
    | false =>
      refine Ev.step (f := fun k => spec_SameGraph.l1 k (ib : Int) ((i + 1 : Nat) : Int) zs p v s bs zs' p' v' s' bs' b.f0 b.f1 b.f2 b.f3 b.f4 c.f0 c.f1 c.f2 c.f3 c.f4) (fun k => by rw [spec_SameGraph.l1, if_pos (by omega), if_pos (by omega), if_pos (by omega), r1, r2, wrap_ok (i := (i : Int) + 1) (by omega) (by omega), Int.natCast_succ]; exact if_neg (show ¬ neI b.f0[i] c.f0[i] = true by rw [hq]; simp)) ?_
      simp only [eqI, hq, Bool.not_false, Bool.true_and]
      exact ih (i + 1) (by omega)
theorem same_l0 (hl : bs.length = bs'.length) (hn : bs.length ≤ 1048576) (hc : ∀ b ∈ bs, b.f0.length ≤ 4294967296) (d : Nat) : ∀ i : Nat, i + d = bs.length →
    Ev (fun k => spec_SameGraph.l0 k (i : Int) zs p v s bs zs' p' v' s' bs') (eqBs (bs.drop i) (bs'.drop i)) := by
  induction d with
  | zero =>
    intro i hi
    rw [List.drop_eq_nil_of_le (by omega), List.drop_eq_nil_of_le (by omega)]
    exact Ev.step (f := fun _ => some true) (fun k => by rw [spec_SameGraph.l0, if_neg (by omega)]) (Ev.now _)
  | succ d ih =>
    intro i hi
    have h1 : i < bs.length := by omega
    have h2 : i < bs'.length := by omega
    rw [List.drop_eq_getElem_cons h1, List.drop_eq_getElem_cons h2]
    have r1 := rdIB bs i h1
    have r2 := rdIB bs' i h2
    have hc1 := hc bs[i] (List.getElem_mem h1)
    simp only [eqBs, eqK]
    refine Ev.step (fun k => by rw [spec_SameGraph.l0, if_pos (by omega), if_pos (by omega), if_pos (by omega), r1, r2]) ?_
    have no : ∀ x : Bool, x = true → Ev (fun k => spec_SameGraph.j2 k (i : Int) x zs p v s bs zs' p' v' s' bs' bs[i].f0 bs[i].f1 bs[i].f2 bs[i].f3 bs[i].f4 bs'[i].f0 bs'[i].f1 bs'[i].f2 bs'[i].f3 bs'[i].f4) false := fun x hx => Ev.step (f := fun _ => some false) (fun k => by rw [spec_SameGraph.j2, if_pos hx]) (Ev.now _)
    by_cases e1 : bs[i].f1 = bs'[i].f1
    · refine Ev.ite_pos e1 ?_
      by_cases e2 : bs[i].f2 = bs'[i].f2
      · refine Ev.ite_pos e2 ?_
        by_cases e3 : bs[i].f3 = bs'[i].f3
        · refine Ev.ite_pos e3 ?_
          by_cases e4 : bs[i].f4 = bs'[i].f4
          · refine Ev.ite_pos e4 ?_
            rw [show (bs[i].f1 == bs'[i].f1) = true from beq_iff_eq.mpr e1, show (bs[i].f2 == bs'[i].f2) = true from beq_iff_eq.mpr e2, show (bs[i].f3 == bs'[i].f3) = true from beq_iff_eq.mpr e3, show (bs[i].f4 == bs'[i].f4) = true from beq_iff_eq.mpr e4]
            simp only [Bool.and_true]
            by_cases e5 : bs[i].f0.length = bs'[i].f0.length
            · refine Ev.step (f := fun k => spec_SameGraph.l1 k (i : Int) 0 zs p v s bs zs' p' v' s' bs' bs[i].f0 bs[i].f1 bs[i].f2 bs[i].f3 bs[i].f4 bs'[i].f0 bs'[i].f1 bs'[i].f2 bs'[i].f3 bs'[i].f4) (fun k => by rw [spec_SameGraph.j2, if_neg (by rw [e5]; simp)]) ?_
              exact same_l1 zs p v s bs zs' p' v' s' bs' i (by omega) bs[i] bs'[i] e5 hc1 _ (ih (i + 1) (by omega)) bs[i].f0.length 0 (by omega)
            · rw [eqI_len _ _ e5, Bool.false_and]
              exact no _ (bne_iff_ne.mpr (by omega))
          · rw [show (bs[i].f4 == bs'[i].f4) = false from beq_eq_false_iff_ne.mpr e4]
            simp only [Bool.and_false, Bool.false_and]
            exact Ev.ite_neg e4 (no _ rfl)
        · rw [show (bs[i].f3 == bs'[i].f3) = false from beq_eq_false_iff_ne.mpr e3]
          simp only [Bool.and_false, Bool.false_and]
          exact Ev.ite_neg e3 (no _ rfl)
      · rw [show (bs[i].f2 == bs'[i].f2) = false from beq_eq_false_iff_ne.mpr e2]
        simp only [Bool.and_false, Bool.false_and]
        exact Ev.ite_neg e2 (no _ rfl)
    · rw [show (bs[i].f1 == bs'[i].f1) = false from beq_eq_false_iff_ne.mpr e1]
      simp only [Bool.and_false, Bool.false_and]
      exact Ev.ite_neg e1 (no _ rfl)
theorem specSame_ev (hz : zs.length ≤ 1048576) (hn : bs.length ≤ 1048576) (hc : ∀ b ∈ bs, b.f0.length ≤ 4294967296) : Ev (fun k => spec_SameGraph.f k zs p v s bs zs' p' v' s' bs') (sameG zs p v s bs zs' p' v' s' bs') := by
  unfold spec_SameGraph.f sameG
  have no : ∀ x : Bool, x = true → Ev (fun k => spec_SameGraph.j0 k x zs p v s bs zs' p' v' s' bs') false := fun x hx => Ev.step (f := fun _ => some false) (fun k => by rw [spec_SameGraph.j0, if_pos hx]) (Ev.now _)
  refine Ev.bind (eqInts_ev spec_l02Ints.f spec_l02Ints.l0 (fun _ _ _ => rfl) (fun _ _ _ _ => rfl) zs zs' (by omega)) ?_
  by_cases h0 : zs = zs'
  · rw [decide_eq_true h0, Bool.true_and]
    refine Ev.ite_pos rfl ?_
    by_cases h1 : p = p'
    · rw [decide_eq_true h1, Bool.true_and]
      refine Ev.ite_pos h1 ?_
      by_cases h2 : v = v'
      · rw [decide_eq_true h2, Bool.true_and]
        refine Ev.ite_pos h2 ?_
        by_cases h3 : s = s'
        · rw [decide_eq_true h3, Bool.true_and]
          refine Ev.ite_pos h3 ?_
          by_cases h4 : bs.length = bs'.length
          · refine Ev.step (f := fun k => spec_SameGraph.l0 k 0 zs p v s bs zs' p' v' s' bs') (fun k => by rw [spec_SameGraph.j0, if_neg (by rw [h4]; simp)]) ?_
            exact same_l0 zs p v s bs zs' p' v' s' bs' h4 hn hc bs.length 0 (by omega)
          · rw [eqBs_len _ _ h4]
            exact no _ (bne_iff_ne.mpr (by omega))
        · rw [decide_eq_false h3, Bool.false_and]
          exact Ev.ite_neg h3 (no _ rfl)
      · rw [decide_eq_false h2, Bool.false_and]
        exact Ev.ite_neg h2 (no _ rfl)
    · rw [decide_eq_false h1, Bool.false_and]
      exact Ev.ite_neg h1 (no _ rfl)
  · rw [decide_eq_false h0, Bool.false_and]
    exact Ev.ite_neg (by simp) (no _ rfl)
end
end Go.Proofs.Ytbbpmcignfhfmaa.Gr
