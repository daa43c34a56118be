/- Functions of the program and of the reference as plain functions, and that the Go code comes to their answers; several texts in one. No conditions beyond what each theorem says. -/
import Derived.Test.YtbbpmcignfhfmaaMAhead3wa
import Derived.Test.YtbbpmcignfhfmaaMAhead1a
import Derived.Test.YtbbpmcignfhfmaaMAhead0xa
import Derived.Test.YtbbpmcignfhfmaaMAheadxF38
namespace Go.Proofs.Ytbbpmcignfhfmaa.Ok
open Go.RowKit Go.Proofs.Ytbbpmcignfhfmaa.P Go.Proofs.YtbbpmcignfhfmaaW.PrintWords Go.Proofs.YtbbpmcignfhfmaaW.PrintLast Go.Proofs.Ytbbpmcignfhfmaa.Aux Go.Proofs.Ytbbpmcignfhfmaa.Gr
set_option linter.unusedVariables false
set_option linter.unusedSimpArgs false
/-- How many steps a list of blocks has. -/
def stepsI : List S49 → Nat
  | [] => 0
  | b :: bs => b.f0.length + stepsI bs
theorem stepsI_conv (bs : List S44) : stepsI (bs.map convB) = steps bs := by
  induction bs with
  | nil => rfl
  | cons b bs ih => simp [stepsI, steps, convB, ih]
theorem stepsI_mem (bs : List S49) (b : S49) (h : b ∈ bs) : b.f0.length ≤ stepsI bs := by
  induction bs with
  | nil => cases h
  | cons c cs ih =>
    rcases List.mem_cons.1 h with rfl | h
    · simp [stepsI]
    · have := ih h
      simp [stepsI]
      omega
def blkOk (z s nb : Int) (b : S49) : Bool := blockB z s nb b.f0 b.f1 b.f2 b.f3 b.f4
/-- Whether a graph is ok. -/
def okG (zs : List Int) (p v s : Int) (bs : List S49) : Bool :=
  progB zs p v && (inR s v 1000 && (inR (bs.length : Int) 1 300 && ((bs.all fun b => blkOk (zs.length : Int) s (bs.length : Int) b) && decide (stepsI bs ≤ 1000))))
theorem isGraph_l0 (zs : List Int) (p v s : Int) (bs : List S49) (hb : bs.length ≤ 1048576) (d : Nat) : ∀ i n : Nat, i + d = bs.length → n + stepsI (bs.drop i) ≤ 1048576 →
    Ev (fun k => impl_isGraph.l0 k (n : Int) bs (bs.length : Int) (i : Int) zs p v s bs) (((bs.drop i).all fun b => blkOk (zs.length : Int) s (bs.length : Int) b) && decide (n + stepsI (bs.drop i) ≤ 1000)) := by
  induction d with
  | zero =>
    intro i n hi hn
    rw [List.drop_eq_nil_of_le (by omega)]
    refine Ev.step (f := fun _ => some (decide ((n : Int) ≤ 1000))) (fun k => by rw [impl_isGraph.l0, if_neg (by omega)]) ?_
    rw [show (List.all ([] : List S49) fun b => blkOk (zs.length : Int) s (bs.length : Int) b) = true from rfl, Bool.true_and, show decide ((n : Int) ≤ 1000) = decide (n + stepsI [] ≤ 1000) from decide_eq_decide.2 (by simp [stepsI]; omega)]
    exact Ev.now _
  | succ d ih =>
    intro i n hi hn
    have hi' : i < bs.length := by omega
    have hd : bs.drop i = bs[i]'hi' :: bs.drop (i + 1) := List.drop_eq_getElem_cons (by omega)
    have hr := rdIB bs i (by omega)
    rw [hd] at hn ⊢
    rw [List.all_cons, show decide (n + stepsI (bs[i]'hi' :: bs.drop (i + 1)) ≤ 1000) = decide (n + ((bs[i]'hi').f0.length + stepsI (bs.drop (i + 1))) ≤ 1000) from rfl]
    simp only [stepsI] at hn
    have h1 := isBlock_ev zs p v s bs (bs[i]'hi').f0 (bs[i]'hi').f1 (bs[i]'hi').f2 (bs[i]'hi').f3 (bs[i]'hi').f4 (by omega)
    refine Ev.step (fun k => by rw [impl_isGraph.l0, if_pos (by omega), if_pos (by omega), if_pos (by omega), hr]) (Ev.bind h1 (f := fun k t => if t = true then impl_isGraph.l0 k (wrap64 ((n : Int) + ((bs[i]'hi').f0.length : Int))) bs (bs.length : Int) (wrap64 ((i : Int) + 1)) zs p v s bs else some false) ?_)
    cases hq : blockB (zs.length : Int) s (bs.length : Int) (bs[i]'hi').f0 (bs[i]'hi').f1 (bs[i]'hi').f2 (bs[i]'hi').f3 (bs[i]'hi').f4 with
    | false =>
      rw [show blkOk (zs.length : Int) s (bs.length : Int) (bs[i]'hi') = false from hq]
      exact Ev.ite_neg (by simp) (Ev.now _)
    | true =>
      rw [show blkOk (zs.length : Int) s (bs.length : Int) (bs[i]'hi') = true from hq, Bool.true_and, wrap_ok (i := (n : Int) + ((bs[i]'hi').f0.length : Int)) (by omega) (by omega), wrap_ok (i := (i : Int) + 1) (by omega) (by omega)]
      have h2 := ih (i + 1) (n + (bs[i]'hi').f0.length) (by omega) (by omega)
      rw [Nat.add_assoc] at h2
      rw [Int.natCast_add, Int.natCast_add] at h2
      exact Ev.ite_pos rfl h2
theorem isGraph_ev (zs : List Int) (p v s : Int) (bs : List S49) (hb : bs.length ≤ 1048576) (hn : stepsI bs ≤ 1048576) : Ev (fun k => impl_isGraph.f k zs p v s bs) (okG zs p v s bs) := by
  have h := isGraph_l0 zs p v s bs hb bs.length 0 0 (by omega) (by rw [List.drop_zero]; omega)
  rw [List.drop_zero] at h
  unfold impl_isGraph.f impl_isProgram.f okG
  cases hP : progB zs p v with
  | false => exact Ev.bind (Ev.now _) (Ev.ite_neg (by simp) (Ev.step (f := fun _ => some false) (fun k => by rw [impl_isGraph.j0, if_pos rfl]) (Ev.now _)))
  | true =>
    refine Ev.bind (Ev.now _) (Ev.ite_pos rfl ?_)
    refine Ev.const (in_some' s v 1000) ?_
    cases hS : inR s v 1000 with
    | false => exact Ev.ite_neg (by simp) (Ev.step (f := fun _ => some false) (fun k => by rw [impl_isGraph.j0, if_pos rfl]) (Ev.now _))
    | true =>
      refine Ev.ite_pos rfl (Ev.const (in_some' (bs.length : Int) 1 300) ?_)
      cases hB : inR (bs.length : Int) 1 300 with
      | false => exact Ev.step (f := fun _ => some false) (fun k => by rw [impl_isGraph.j0, if_pos (by rfl)]) (Ev.now _)
      | true =>
        refine Ev.step (f := fun k => impl_isGraph.l0 k 0 bs (bs.length : Int) 0 zs p v s bs) (fun k => by rw [impl_isGraph.j0, if_neg (by simp)]) ?_
        simpa using h
theorem graph_l1 (zs : List Int) (p v s : Int) (bs : List S49) (hb : bs.length ≤ 1048576) (hs : 0 ≤ s) (hs2 : s ≤ 1000) (hz : zs.length ≤ 1048576) (hc : stepsI bs ≤ 1048576) (d : Nat) : ∀ i n : Nat, i + d = bs.length → n ≤ 1000 →
    Ev (fun k => spec_GraphOk.l1 k (n : Int) (i : Int) zs p v s bs) (((bs.drop i).all fun b => blkOk (zs.length : Int) s (bs.length : Int) b) && decide (n + stepsI (bs.drop i) ≤ 1000)) := by
  induction d with
  | zero =>
    intro i n hi hn
    rw [List.drop_eq_nil_of_le (by omega)]
    refine Ev.step (f := fun _ => some true) (fun k => by rw [spec_GraphOk.l1, if_neg (by omega)]) ?_
    rw [show decide (n + stepsI [] ≤ 1000) = true from decide_eq_true (by simp [stepsI]; omega)]
    exact Ev.now _
  | succ d ih =>
    intro i n hi hn
    have hi' : i < bs.length := by omega
    have hd : bs.drop i = bs[i]'hi' :: bs.drop (i + 1) := List.drop_eq_getElem_cons (by omega)
    have hr := rdIB bs i (by omega)
    have hl := stepsI_mem bs (bs[i]'hi') (List.getElem_mem _)
    rw [hd, List.all_cons, show decide (n + stepsI (bs[i]'hi' :: bs.drop (i + 1)) ≤ 1000) = decide (n + ((bs[i]'hi').f0.length + stepsI (bs.drop (i + 1))) ≤ 1000) from rfl]
    have h1 := block_ev zs p v s bs (bs[i]'hi').f0 (bs[i]'hi').f1 (bs[i]'hi').f2 (bs[i]'hi').f3 (bs[i]'hi').f4 hs (by omega) (by omega) (by omega) (by omega)
    by_cases hg : n + (bs[i]'hi').f0.length > 1000
    · rw [decide_eq_false (show ¬ n + ((bs[i]'hi').f0.length + stepsI (bs.drop (i + 1))) ≤ 1000 by omega), Bool.and_false]
      exact Ev.step (f := fun _ => some false) (fun k => by rw [spec_GraphOk.l1, if_pos (by omega), if_pos (by omega), hr, wrap_ok (i := (n : Int) + _) (by omega) (by omega), if_pos (by omega)]) (Ev.now _)
    refine Ev.step (fun k => by rw [spec_GraphOk.l1, if_pos (by omega), if_pos (by omega), hr, wrap_ok (i := (n : Int) + _) (by omega) (by omega), if_neg (by omega)]) (Ev.bind h1 (f := fun k t => if t = true then spec_GraphOk.l1 k ((n : Int) + ((bs[i]'hi').f0.length : Int)) (wrap64 ((i : Int) + 1)) zs p v s bs else some false) ?_)
    cases hq : blockB (zs.length : Int) s (bs.length : Int) (bs[i]'hi').f0 (bs[i]'hi').f1 (bs[i]'hi').f2 (bs[i]'hi').f3 (bs[i]'hi').f4 with
    | false =>
      rw [show blkOk (zs.length : Int) s (bs.length : Int) (bs[i]'hi') = false from hq]
      exact Ev.ite_neg (by simp) (Ev.now _)
    | true =>
      rw [show blkOk (zs.length : Int) s (bs.length : Int) (bs[i]'hi') = true from hq, Bool.true_and, wrap_ok (i := (i : Int) + 1) (by omega) (by omega)]
      have h2 := ih (i + 1) (n + (bs[i]'hi').f0.length) (by omega) (by omega)
      rw [Nat.add_assoc] at h2
      rw [Int.natCast_add, Int.natCast_add] at h2
      exact Ev.ite_pos rfl h2
/-- What comes behind the sizes. -/
def restG (zs : List Int) (p v s : Int) (bs : List S49) : Bool :=
  inR (zs.length : Int) 1 4 && (inR v 0 20 && (inR p 0 6 && (!decide (p > v) && (inR s v 1000 && (inR (bs.length : Int) 1 300 && ((bs.all fun b => blkOk (zs.length : Int) s (bs.length : Int) b) && decide (stepsI bs ≤ 1000)))))))
theorem graph_l0 (zs : List Int) (p v s : Int) (bs : List S49) (hb : bs.length ≤ 1048576) (hz : zs.length ≤ 1048576) (hc : stepsI bs ≤ 1048576) (d : Nat) : ∀ i : Nat, i + d = zs.length →
    Ev (fun k => spec_GraphOk.l0 k (i : Int) zs p v s bs) (((zs.drop i).all fun n => inR n 1 16) && restG zs p v s bs) := by
  induction d with
  | zero =>
    intro i hi
    rw [List.drop_eq_nil_of_le (by omega)]
    have hno : Ev (fun k => spec_GraphOk.j1 k true zs p v s bs) false := Ev.step (f := fun _ => some false) (fun k => by rw [spec_GraphOk.j1, if_pos rfl]) (Ev.now _)
    refine Ev.step (fun k => by rw [spec_GraphOk.l0, if_neg (by omega)]) ?_
    rw [show (List.all ([] : List Int) fun n => inR n 1 16) = true from rfl, Bool.true_and]
    unfold restG
    refine Ev.const (in_some _ _ _) ?_
    cases h1 : inR (zs.length : Int) 1 4 with
    | false => exact Ev.ite_neg (by simp) hno
    | true =>
      refine Ev.ite_pos rfl (Ev.const (in_some _ _ _) ?_)
      cases h2 : inR v 0 20 with
      | false => exact Ev.ite_neg (by simp) hno
      | true =>
        refine Ev.ite_pos rfl (Ev.const (in_some _ _ _) ?_)
        cases h3 : inR p 0 6 with
        | false => exact Ev.ite_neg (by simp) hno
        | true =>
          refine Ev.ite_pos rfl ?_
          by_cases h4 : p > v
          · rw [decide_eq_true h4]
            exact Ev.ite_pos h4 hno
          rw [decide_eq_false h4]
          refine Ev.ite_neg h4 (Ev.const (in_some _ _ _) ?_)
          cases h5 : inR s v 1000 with
          | false => exact Ev.ite_neg (by simp) hno
          | true =>
            refine Ev.ite_pos rfl (Ev.const (in_some _ _ _) ?_)
            cases h6 : inR (bs.length : Int) 1 300 with
            | false => exact hno
            | true =>
              refine Ev.step (f := fun k => spec_GraphOk.l1 k 0 0 zs p v s bs) (fun k => by rw [spec_GraphOk.j1, if_neg (by simp)]) ?_
              have b1 : 0 ≤ v ∧ v ≤ 20 := by simpa [inR] using h2
              have b2 : v ≤ s ∧ s ≤ 1000 := by simpa [inR] using h5
              have h := graph_l1 zs p v s bs hb (by omega) (by omega) hz hc bs.length 0 0 (by omega) (by omega)
              rw [List.drop_zero] at h
              simpa using h
  | succ d ih =>
    intro i hi
    have hd : zs.drop i = zs[i]'(by omega) :: zs.drop (i + 1) := List.drop_eq_getElem_cons (by omega)
    have hr := rd_lt zs i (by omega)
    rw [hd, List.all_cons]
    refine Ev.step (fun k => by rw [spec_GraphOk.l0, if_pos (by omega), if_pos (by omega), hr]) (Ev.const (in_some _ _ _) (f := fun k t => if t = true then spec_GraphOk.l0 k (wrap64 ((i : Int) + 1)) zs p v s bs else some false) ?_)
    cases hq : inR (zs[i]'(by omega)) 1 16 with
    | false => exact Ev.ite_neg (by simp) (Ev.now _)
    | true =>
      rw [wrap_ok (i := (i : Int) + 1) (by omega) (by omega), Bool.true_and]
      exact Ev.ite_pos rfl (ih (i + 1) (by omega))
theorem GraphOk_ev (zs : List Int) (p v s : Int) (bs : List S49) (hb : bs.length ≤ 1048576) (hz : zs.length ≤ 1048576) (hc : stepsI bs ≤ 1048576) : Ev (fun k => spec_GraphOk.f k zs p v s bs) (okG zs p v s bs) := by
  have h := graph_l0 zs p v s bs hb hz hc zs.length 0 (by omega)
  rw [List.drop_zero] at h
  have e : ((zs.all fun n => inR n 1 16) && restG zs p v s bs) = okG zs p v s bs := by
    have e1 : (zs.any fun n => !inR n 1 16) = !(zs.all fun n => inR n 1 16) := List.not_all_eq_any_not.symm
    have e2 : (inR v 0 20 && (inR p 0 6 && !decide (p > v))) = (inR p 0 (if v < 6 then v else 6) && decide (v ≤ 20)) := by
      unfold inR
      rw [Bool.eq_iff_iff]
      simp only [Bool.and_eq_true, Bool.not_eq_true', decide_eq_true_eq, decide_eq_false_iff_not]
      split <;> omega
    unfold okG restG progB
    rw [e1, Bool.not_not, ← e2]
    simp only [Bool.and_assoc, Bool.and_left_comm, Bool.and_comm]
  rw [← e]
  exact h
end Go.Proofs.Ytbbpmcignfhfmaa.Ok
namespace Go.Proofs.Ytbbpmcignfhfmaa.Gr
open Go.RowKit Go.Proofs.Ytbbpmcignfhfmaa.P Go.Proofs.YtbbpmcignfhfmaaW.PrintWords Go.Proofs.YtbbpmcignfhfmaaW.PrintLast Go.Proofs.Ytbbpmcignfhfmaa.Aux Go.Proofs.Ytbbpmcignfhfmaa.Ok
theorem Small.stepsI {zs : List Int} {bs : List S44} (h : Small zs bs) : stepsI (bs.map convB) ≤ 1048576 := by
  rw [stepsI_conv]
  exact h.steps
end Go.Proofs.Ytbbpmcignfhfmaa.Gr
namespace Go.Proofs.Ytbbpmcignfhfmaa.Gr
open Go.RowKit Go.Proofs.Ytbbpmcignfhfmaa.P Go.Proofs.YtbbpmcignfhfmaaW.PrintWords Go.Proofs.YtbbpmcignfhfmaaW.PrintLast Go.Proofs.Ytbbpmcignfhfmaa.Aux
set_option linter.unusedVariables false
set_option linter.unusedSimpArgs false
def nxL (b : S49) : List Int := if b.f1 = 0 then [b.f3] else if b.f1 = 1 then [b.f3, b.f4] else []
theorem nx_s (b : S49) : spec_l05Next.f b.f0 b.f1 b.f2 b.f3 b.f4 = some (nxL b) := by
  unfold spec_l05Next.f nxL
  repeat' split
  all_goals rfl
theorem nx_i (b : S49) : impl_nextOf.f b.f0 b.f1 b.f2 b.f3 b.f4 = some (nxL b) := by
  unfold impl_nextOf.f nxL
  repeat' split
  all_goals rfl
theorem nxL_length (b : S49) : (nxL b).length ≤ 2 := by
  unfold nxL
  repeat' split
  all_goals simp
theorem rdBk (xs : List S49) (i : Nat) (h : i < xs.length) : rd_T49 xs (i : Int) = xs[i] := by
  simp [rd_T49, List.getD_eq_getElem?_getD, List.getElem?_eq_getElem h]
/-- A number behind lesser ones. -/
theorem add_new_ev (l : List Int) (n : Int) (hl : l.length ≤ 1048576) (h : ∀ x ∈ l, x < n) (d : Nat) : ∀ i : Nat, i + d = l.length → Ev (fun k => spec_l02Add.l0 k l n (i : Int)) (l ++ [n]) := by
  induction d with
  | zero =>
    intro i hi
    have e1 : ([] ++ l.take (i : Int).toNat ++ [n]) ++ l.drop (i : Int).toNat = l ++ [n] := by
      rw [Int.toNat_natCast, List.take_of_length_le (by omega), List.drop_eq_nil_of_le (by omega), List.append_nil, List.nil_append]
    have t1 : (l.take (i : Int).toNat).length ≤ 1048576 := by rw [List.length_take]; omega
    have t2 : (l.drop (i : Int).toNat).length ≤ 1048576 := by rw [List.length_drop]; omega
    refine Ev.step (fun k => by rw [spec_l02Add.l0, if_neg (by omega)]) ?_
    refine Ev.const rfl (Ev.ite_pos (by omega) (Ev.ite_pos (by omega) (Ev.ite_pos (by simp only [List.length_nil]; omega) (Ev.const rfl (Ev.const rfl (Ev.ite_pos (by simp only [List.length_append, List.length_nil, List.length_cons]; omega) (Ev.const rfl (Ev.ite_pos (by simp only [List.length_append, List.length_nil, List.length_cons]; omega) ?_))))))))
    rw [e1]
    exact Ev.now _
  | succ d ih =>
    intro i hi
    have hi' : i < l.length := by omega
    have hr := rd_lt l i hi'
    have hx := h l[i] (List.getElem_mem hi')
    have p1 : (i : Int) < (l.length : Int) := by omega
    have p2 : 0 ≤ (i : Int) := by omega
    have hw : wrap64 ((i : Int) + 1) = ((i + 1 : Nat) : Int) := by rw [wrap_ok (by omega) (by omega)]; omega
    exact Ev.step (fun k => by rw [spec_l02Add.l0, if_pos p1, if_pos p2, hr, if_pos hx, hw]) (ih (i + 1) (by omega))
/-- A number that stands at the end. -/
theorem add_old_ev (o : List Int) (n : Int) (hl : o.length ≤ 1048575) (h : ∀ x ∈ o, x < n) (d : Nat) : ∀ i : Nat, i + d = o.length → Ev (fun k => spec_l02Add.l0 k (o ++ [n]) n (i : Int)) (o ++ [n]) := by
  induction d with
  | zero =>
    intro i hi
    have hi' : i < (o ++ [n]).length := by simp; omega
    have hr := rd_lt (o ++ [n]) i hi'
    have hv : (o ++ [n])[i] = n := by rw [List.getElem_append_right (by omega)]; simp [show i - o.length = 0 by omega]
    rw [hv] at hr
    have p1 : (i : Int) < ((o ++ [n]).length : Int) := by omega
    have p2 : 0 ≤ (i : Int) := by omega
    exact Ev.step (fun k => by rw [spec_l02Add.l0, if_pos p1, if_pos p2, hr, if_neg (Int.lt_irrefl n), if_pos rfl]) (Ev.now _)
  | succ d ih =>
    intro i hi
    have hi' : i < (o ++ [n]).length := by simp; omega
    have hr := rd_lt (o ++ [n]) i hi'
    have hv : (o ++ [n])[i] = o[i] := List.getElem_append_left (by omega)
    rw [hv] at hr
    have hx := h o[i] (List.getElem_mem (by omega))
    have p1 : (i : Int) < ((o ++ [n]).length : Int) := by omega
    have p2 : 0 ≤ (i : Int) := by omega
    have hw : wrap64 ((i : Int) + 1) = ((i + 1 : Nat) : Int) := by rw [wrap_ok (by omega) (by omega)]; omega
    exact Ev.step (fun k => by rw [spec_l02Add.l0, if_pos p1, if_pos p2, hr, if_pos hx, hw]) (ih (i + 1) (by omega))
def pickL (f : Bool) (o : List Int) (i : Int) : List Int := if f = true then o ++ [i] else o
theorem add_pick (f : Bool) (o : List Int) (i : Int) (hl : o.length ≤ 1048575) (h : ∀ x ∈ o, x < i) : Ev (fun k => spec_l02Add.f k (pickL f o i) i) (o ++ [i]) := by
  unfold spec_l02Add.f
  cases f with
  | true => exact add_old_ev o i hl h o.length 0 (by omega)
  | false => exact add_new_ev o i (by omega) h o.length 0 (by omega)
/-- The blocks of a list, from number i on, that go to b. -/
def aheadL (b : Int) : Nat → List S49 → List Int
  | _, [] => []
  | i, x :: xs => if b ∈ nxL x then (i : Int) :: aheadL b (i + 1) xs else aheadL b (i + 1) xs
theorem aheadL_length (b : Int) (xs : List S49) : ∀ i, (aheadL b i xs).length ≤ xs.length := by
  induction xs with
  | nil => intro i; exact Nat.le_refl _
  | cons x xs ih =>
    intro i
    have := ih (i + 1)
    unfold aheadL
    split <;> simp <;> omega
section
variable (zs : List Int) (p v s : Int) (bs : List S49) (b : Int)
theorem spec_in (o : List Int) (i : Nat) (hl : o.length ≤ 1048575) (ho : ∀ x ∈ o, x < (i : Int)) (xs : List Int) (hx : xs.length ≤ 2) (hi : i ≤ 1048576) (R : List Int) (d : Nat) : ∀ (k : Nat) (f : Bool), k + d = xs.length →
    Ev (fun n => spec_Ahead.l0 n b (pickL (f || decide (b ∈ xs.drop k)) o i) ((i + 1 : Nat) : Int) zs p v s bs) R → Ev (fun n => spec_Ahead.l1 n b (pickL f o i) (i : Int) xs (k : Int) zs p v s bs) R := by
  have hw : wrap64 ((i : Int) + 1) = ((i + 1 : Nat) : Int) := by rw [wrap_ok (by omega) (by omega)]; omega
  have HW := Zs0.mk hw
  clear hw
  induction d with
  | zero =>
    intro k f hk hR
    rw [List.drop_eq_nil_of_le (by omega)] at hR
    have : (f || decide (b ∈ ([] : List Int))) = f := by simp
    rw [this] at hR
    exact Ev.step (fun n => by rw [spec_Ahead.l1, if_neg (by omega), HW.out]) hR
  | succ d ih =>
    intro k f hk hR
    have hk' : k < xs.length := by omega
    have hr := rd_lt xs k hk'
    have p1 : (k : Int) < (xs.length : Int) := by omega
    have p2 : 0 ≤ (k : Int) := by omega
    have hw2 : wrap64 ((k : Int) + 1) = ((k + 1 : Nat) : Int) := by rw [wrap_ok (by omega) (by omega)]; omega
    have HV := Zs0.mk hw2
    clear hw2
    rw [List.drop_eq_getElem_cons hk'] at hR
    by_cases h : xs[k] = b
    · have e1 : (f || decide (b ∈ xs[k] :: xs.drop (k + 1))) = (true || decide (b ∈ xs.drop (k + 1))) := by simp [h]
      rw [e1] at hR
      have key := ih (k + 1) true (by omega) hR
      refine Ev.step (fun n => by rw [spec_Ahead.l1, if_pos p1, if_pos p2, hr, if_pos h]) (Ev.bind (add_pick f o i hl ho) ?_)
      rw [HV.out]
      exact key
    · have e1 : (f || decide (b ∈ xs[k] :: xs.drop (k + 1))) = (f || decide (b ∈ xs.drop (k + 1))) := by
        have hm : (b ∈ xs[k] :: xs.drop (k + 1)) ↔ (b ∈ xs.drop (k + 1)) := ⟨fun z => (List.mem_cons.1 z).elim (fun e => absurd e.symm h) id, List.mem_cons_of_mem _⟩
        rw [decide_eq_decide.mpr hm]
      rw [e1] at hR
      have key := ih (k + 1) f (by omega) hR
      exact Ev.step (fun n => by rw [spec_Ahead.l1, if_pos p1, if_pos p2, hr, if_neg h, HV.out]) key
theorem spec_out (hb : bs.length ≤ 1048575) (d : Nat) : ∀ (i : Nat) (o : List Int), i + d = bs.length → o.length ≤ i → (∀ x ∈ o, x < (i : Int)) → Ev (fun n => spec_Ahead.l0 n b o (i : Int) zs p v s bs) (o ++ aheadL b i (bs.drop i)) := by
  induction d with
  | zero =>
    intro i o hi _ _
    rw [List.drop_eq_nil_of_le (by omega), aheadL, List.append_nil]
    exact Ev.step (fun n => by rw [spec_Ahead.l0, if_neg (by omega)]) (Ev.now _)
  | succ d ih =>
    intro i o hi hl ho
    have hi' : i < bs.length := by omega
    have hr := rdBk bs i hi'
    have hx := nxL_length bs[i]
    have key : Ev (fun n => spec_Ahead.l0 n b (pickL (false || decide (b ∈ (nxL bs[i]).drop 0)) o i) ((i + 1 : Nat) : Int) zs p v s bs) (o ++ aheadL b i (bs.drop i)) := by
      rw [List.drop_zero, Bool.false_or, List.drop_eq_getElem_cons hi', aheadL]
      by_cases h : b ∈ nxL bs[i]
      · rw [if_pos h, decide_eq_true h]
        have h2 := ih (i + 1) (o ++ [(i : Int)]) (by omega) (by simp; omega) (fun x hx => by
          rcases List.mem_append.1 hx with h | h
          · have := ho x h
            omega
          · rw [List.mem_singleton.1 h]
            omega)
        rw [List.append_assoc, List.singleton_append] at h2
        exact h2
      · rw [if_neg h, decide_eq_false h]
        exact ih (i + 1) o (by omega) (by omega) (fun x hx => by have := ho x hx; omega)
    have l1 := spec_in zs p v s bs b o i (by omega) ho (nxL bs[i]) hx (by omega) _ (nxL bs[i]).length 0 false (by omega) key
    exact Ev.step (fun n => by rw [spec_Ahead.l0, if_pos (by omega), if_pos (by omega), hr]) (Ev.const (nx_s bs[i]) l1)
theorem index_i (xs : List Int) (hx : xs.length ≤ 1048576) (d : Nat) : ∀ k : Nat, k + d = xs.length → ∃ r, Ev (fun n => slices_Index_int_int.l0 n xs b (xs.length : Int) (k : Int)) r ∧ (0 ≤ r ↔ b ∈ xs.drop k) := by
  induction d with
  | zero =>
    intro k hk
    refine ⟨-1, Ev.step (f := fun _ => some (-1)) (fun n => by rw [slices_Index_int_int.l0, if_neg (by omega)]) (Ev.now _), ?_⟩
    rw [List.drop_eq_nil_of_le (by omega)]
    simp
  | succ d ih =>
    intro k hk
    have hk' : k < xs.length := by omega
    have hr := rd_lt xs k hk'
    have p1 : (k : Int) < (xs.length : Int) := by omega
    have p2 : 0 ≤ (k : Int) := by omega
    rw [List.drop_eq_getElem_cons hk']
    by_cases h : b = xs[k]
    · exact ⟨(k : Int), Ev.step (f := fun _ => some (k : Int)) (fun n => by rw [slices_Index_int_int.l0, if_pos p1, if_pos p2, if_pos p1, hr, if_pos h]) (Ev.now _), ⟨fun _ => List.mem_cons.2 (Or.inl h), fun _ => by omega⟩⟩
    · obtain ⟨r, h1, h2⟩ := ih (k + 1) (by omega)
      have hw : wrap64 ((k : Int) + 1) = ((k + 1 : Nat) : Int) := by rw [wrap_ok (by omega) (by omega)]; omega
      refine ⟨r, Ev.step (fun n => by rw [slices_Index_int_int.l0, if_pos p1, if_pos p2, if_pos p1, hr, if_neg h, hw]) h1, ?_⟩
      rw [h2, List.mem_cons]
      constructor
      · exact Or.inr
      · rintro (e | e)
        · exact absurd e h
        · exact e
theorem contains_i (xs : List Int) (hx : xs.length ≤ 1048576) : Ev (fun n => slices_Contains_int_int.f n xs b) (decide (b ∈ xs)) := by
  obtain ⟨r, h1, h2⟩ := index_i b xs hx xs.length 0 (by omega)
  rw [List.drop_zero] at h2
  have e : decide (b ∈ xs) = decide (r ≥ 0) := by
    by_cases h : b ∈ xs
    · rw [decide_eq_true h, decide_eq_true (h2.mpr h)]
    · rw [decide_eq_false h, decide_eq_false (fun z => h (h2.mp z))]
  rw [e]
  exact Ev.bind (f := fun _ t => some (decide (t ≥ 0))) h1 (Ev.now _)
theorem impl_out (hb : bs.length ≤ 1048575) (d : Nat) : ∀ (i : Nat) (o : List Int), i + d = bs.length → o.length ≤ i → Ev (fun n => impl_Ahead.l0 n b o bs (bs.length : Int) (i : Int)) (o ++ aheadL b i (bs.drop i)) := by
  induction d with
  | zero =>
    intro i o hi _
    rw [List.drop_eq_nil_of_le (by omega), aheadL, List.append_nil]
    exact Ev.step (fun n => by rw [impl_Ahead.l0, if_neg (by omega)]) (Ev.now _)
  | succ d ih =>
    intro i o hi hl
    have hi' : i < bs.length := by omega
    have hr := rdBk bs i hi'
    have hx := nxL_length bs[i]
    have hc := contains_i b (nxL bs[i]) (by omega)
    have ho : o.length < 17592186044416 := by omega
    have h1 := ih (i + 1) (o ++ [(i : Int)]) (by omega) (by simp; omega)
    have h2 := ih (i + 1) o (by omega) (by omega)
    have p1 : (i : Int) < (bs.length : Int) := by omega
    have p2 : 0 ≤ (i : Int) := by omega
    have hw : wrap64 ((i : Int) + 1) = ((i + 1 : Nat) : Int) := by rw [wrap_ok (by omega) (by omega)]; omega
    have HW := Zs0.mk hw
    clear hw
    rw [List.drop_eq_getElem_cons hi', aheadL]
    refine Ev.step (fun n => by rw [impl_Ahead.l0, if_pos p1, if_pos p2, if_pos p1, hr]) (Ev.const (nx_i bs[i]) (Ev.bind hc ?_))
    by_cases h : b ∈ nxL bs[i]
    · rw [if_pos h, decide_eq_true h]
      rw [List.append_assoc, List.singleton_append] at h1
      refine Ev.ite_pos rfl (Ev.ite_pos ho ?_)
      rw [HW.out]
      exact h1
    · rw [if_neg h, decide_eq_false h]
      refine Ev.ite_neg (by decide) ?_
      rw [HW.out]
      exact h2
end
theorem in_s (a n : Int) : spec_l01In.f a 0 n = some (decide (0 ≤ a ∧ a ≤ n)) := by
  unfold spec_l01In.f
  by_cases h : a ≥ 0
  · rw [if_pos h]
    by_cases h2 : a ≤ n
    · rw [decide_eq_true h2, decide_eq_true ⟨h, h2⟩]
    · rw [decide_eq_false h2, decide_eq_false (fun z => h2 z.2)]
  · rw [if_neg h, decide_eq_false (fun z => h z.1)]
theorem in_i (a n : Int) : impl_in.f a 0 n = some (decide (0 ≤ a ∧ a ≤ n)) := by
  unfold impl_in.f
  by_cases h : a ≥ 0
  · rw [if_pos h]
    by_cases h2 : a ≤ n
    · rw [decide_eq_true h2, decide_eq_true ⟨h, h2⟩]
    · rw [decide_eq_false h2, decide_eq_false (fun z => h2 z.2)]
  · rw [if_neg h, decide_eq_false (fun z => h z.1)]
theorem Ahead_same (zs : List Int) (p v s : Int) (bs : List S44) (b : Int) (h : Small zs bs) :
    ∃ r, Ev (fun k => spec_Ahead.f k zs p v s (bs.map convB) b) r ∧ Ev (fun k => impl_Ahead.f k zs p v s (bs.map convB) b) r ∧ r.length ≤ 4294967296 := by
  have hb : (bs.map convB).length ≤ 1048576 := by rw [List.length_map]; exact h.blocks
  have hst : Ok.stepsI (bs.map convB) ≤ 1048576 := by rw [Ok.stepsI_conv]; exact h.steps
  have hS := Ok.GraphOk_ev zs p v s (bs.map convB) hb h.sizes hst
  have hI := Ok.isGraph_ev zs p v s (bs.map convB) hb hst
  have hlen := hb
  generalize bs.map convB = cs at hb hst hS hI hlen
  unfold spec_Ahead.f impl_Ahead.f
  cases hok : Ok.okG zs p v s cs with
  | false =>
    rw [hok] at hS hI
    exact ⟨[], Ev.const rfl (Ev.bind hS (Ev.ite_neg (by decide) (Ev.step (fun k => by rw [spec_Ahead.j0, if_pos (show _ = true from rfl)]) (Ev.now _)))), Ev.bind hI (Ev.ite_neg (by decide) (Ev.step (fun k => by rw [impl_Ahead.j0, if_pos (show _ = true from rfl)]) (Ev.now _))), by simp⟩
  | true =>
    have h300 : cs.length ≤ 300 := by
      unfold Ok.okG at hok
      simp only [Bool.and_eq_true] at hok
      obtain ⟨_, _, hl, _⟩ := hok
      simp [inR] at hl
      omega
    rw [hok] at hS hI
    have s1 := in_s b (wrap64 ((cs.length : Int) - 1))
    have s2 := in_i b (wrap64 ((cs.length : Int) - 1))
    cases hin : decide (0 ≤ b ∧ b ≤ wrap64 ((cs.length : Int) - 1)) with
    | false =>
      rw [hin] at s1 s2
      exact ⟨[], Ev.const rfl (Ev.bind hS (Ev.ite_pos rfl (Ev.const s1 (Ev.step (fun k => by rw [spec_Ahead.j0, if_pos (show (!false) = true from rfl)]) (Ev.now _))))), Ev.bind hI (Ev.ite_pos rfl (Ev.const s2 (Ev.step (fun k => by rw [impl_Ahead.j0, if_pos (show (!false) = true from rfl)]) (Ev.now _)))), by simp⟩
    | true =>
      rw [hin] at s1 s2
      have a1 : Ev (fun n => spec_Ahead.l0 n b [] 0 zs p v s cs) ([] ++ aheadL b 0 (cs.drop 0)) := spec_out zs p v s cs b (by omega) cs.length 0 [] (by omega) (Nat.le_refl _) (fun x hx => by cases hx)
      have a2 : Ev (fun n => impl_Ahead.l0 n b [] cs (cs.length : Int) 0) ([] ++ aheadL b 0 (cs.drop 0)) := impl_out cs b (by omega) cs.length 0 [] (by omega) (Nat.le_refl _)
      have hr := aheadL_length b cs 0
      refine ⟨_, Ev.const rfl (Ev.bind hS (Ev.ite_pos rfl (Ev.const s1 (Ev.step (fun k => by rw [spec_Ahead.j0, if_neg (by decide)]) a1)))), Ev.bind hI (Ev.ite_pos rfl (Ev.const s2 (Ev.step (fun k => by rw [impl_Ahead.j0, if_neg (by decide)]) a2))), ?_⟩
      rw [List.nil_append, List.drop_zero]
      omega
end Go.Proofs.Ytbbpmcignfhfmaa.Gr
