/- Functions of the program and of the reference as plain functions, and that the Go code comes to their answers; several texts in one. No conditions beyond what each theorem says. -/
import Derived.Test.YtcbpbnkoolpibaaMTrim2ta
import Derived.Test.YtcbpbnkoolpibaaMTrim1a
import Derived.Test.YtcbpbnkoolpibaaMTrim0ua
import Derived.Test.YtcbpbnkoolpibaaMTrim0b
namespace Go.Proofs.Ytcbpbnkoolpibaa.Ok
open Go.RowKit Go.Proofs.Ytcbpbnkoolpibaa.P Go.Proofs.YtcbpbnkoolpibaaW.PrintWords Go.Proofs.YtcbpbnkoolpibaaW.PrintLast Go.Proofs.Ytcbpbnkoolpibaa.Aux Go.Proofs.Ytcbpbnkoolpibaa.Gr
set_option linter.unusedVariables false
set_option linter.unusedSimpArgs false
/-- How many steps a list of blocks has. -/
def stepsI : List S47 → Nat
  | [] => 0
  | b :: bs => b.f0.length + stepsI bs
theorem stepsI_conv (bs : List S67) : stepsI (bs.map convB) = steps bs := by
  induction bs with
  | nil => rfl
  | cons b bs ih => simp [stepsI, steps, convB, ih]
theorem stepsI_mem (bs : List S47) (b : S47) (h : b ∈ bs) : b.f0.length ≤ stepsI bs := by
  induction bs with
  | nil => cases h
  | cons c cs ih =>
    rcases List.mem_cons.1 h with rfl | h
    · simp [stepsI]
    · have := ih h
      simp [stepsI]
      omega
def blkOk (z s nb : Int) (b : S47) : Bool := blockB z s nb b.f0 b.f1 b.f2 b.f3 b.f4
/-- Whether a graph is ok. -/
def okG (zs : List Int) (p v s : Int) (bs : List S47) : Bool :=
  progB zs p v && (inR s v 1000 && (inR (bs.length : Int) 1 300 && ((bs.all fun b => blkOk (zs.length : Int) s (bs.length : Int) b) && decide (stepsI bs ≤ 1000))))
theorem isGraph_l0 (zs : List Int) (p v s : Int) (bs : List S47) (hb : bs.length ≤ 1048576) (d : Nat) : ∀ i n : Nat, i + d = bs.length → n + stepsI (bs.drop i) ≤ 1048576 →
    Ev (fun k => impl_isGraph.l0 k (n : Int) bs (bs.length : Int) (i : Int) zs p v s bs) (((bs.drop i).all fun b => blkOk (zs.length : Int) s (bs.length : Int) b) && decide (n + stepsI (bs.drop i) ≤ 1000)) := by
  induction d with
  | zero =>
    intro i n hi hn
    rw [List.drop_eq_nil_of_le (by omega)]
    refine Ev.step (f := fun _ => some (decide ((n : Int) ≤ 1000))) (fun k => by rw [impl_isGraph.l0, if_neg (by omega)]) ?_
    rw [show (List.all ([] : List S47) fun b => blkOk (zs.length : Int) s (bs.length : Int) b) = true from rfl, Bool.true_and, show decide ((n : Int) ≤ 1000) = decide (n + stepsI [] ≤ 1000) from decide_eq_decide.2 (by simp [stepsI]; omega)]
    exact Ev.now _
  | succ d ih =>
    intro i n hi hn
    have hi' : i < bs.length := by omega
    have hd : bs.drop i = bs[i]'hi' :: bs.drop (i + 1) := List.drop_eq_getElem_cons (by omega)
    have hr := rdIB bs i (by omega)
    rw [hd] at hn ⊢
    rw [List.all_cons, show decide (n + stepsI (bs[i]'hi' :: bs.drop (i + 1)) ≤ 1000) = decide (n + ((bs[i]'hi').f0.length + stepsI (bs.drop (i + 1))) ≤ 1000) from rfl]
    simp only [stepsI] at hn
    have h1 := isBlock_ev zs p v s bs (bs[i]'hi').f0 (bs[i]'hi').f1 (bs[i]'hi').f2 (bs[i]'hi').f3 (bs[i]'hi').f4 (by omega)
    refine Ev.step (fun k => by rw [impl_isGraph.l0, if_pos (by omega), if_pos (by omega), if_pos (by omega), hr]) (Ev.bind h1 (f := fun k t => if t = true then impl_isGraph.l0 k (wrap64 ((n : Int) + ((bs[i]'hi').f0.length : Int))) bs (bs.length : Int) (wrap64 ((i : Int) + 1)) zs p v s bs else some false) ?_)
    cases hq : blockB (zs.length : Int) s (bs.length : Int) (bs[i]'hi').f0 (bs[i]'hi').f1 (bs[i]'hi').f2 (bs[i]'hi').f3 (bs[i]'hi').f4 with
    | false =>
      rw [show blkOk (zs.length : Int) s (bs.length : Int) (bs[i]'hi') = false from hq]
      exact Ev.ite_neg (by simp) (Ev.now _)
    | true =>
      rw [show blkOk (zs.length : Int) s (bs.length : Int) (bs[i]'hi') = true from hq, Bool.true_and, wrap_ok (i := (n : Int) + ((bs[i]'hi').f0.length : Int)) (by omega) (by omega), wrap_ok (i := (i : Int) + 1) (by omega) (by omega)]
      have h2 := ih (i + 1) (n + (bs[i]'hi').f0.length) (by omega) (by omega)
      rw [Nat.add_assoc] at h2
      rw [Int.natCast_add, Int.natCast_add] at h2
      exact Ev.ite_pos rfl h2
theorem isGraph_ev (zs : List Int) (p v s : Int) (bs : List S47) (hb : bs.length ≤ 1048576) (hn : stepsI bs ≤ 1048576) : Ev (fun k => impl_isGraph.f k zs p v s bs) (okG zs p v s bs) := by
  have h := isGraph_l0 zs p v s bs hb bs.length 0 0 (by omega) (by rw [List.drop_zero]; omega)
  rw [List.drop_zero] at h
  unfold impl_isGraph.f impl_isProgram.f okG
  cases hP : progB zs p v with
  | false => exact Ev.bind (Ev.now _) (Ev.ite_neg (by simp) (Ev.step (f := fun _ => some false) (fun k => by rw [impl_isGraph.j0, if_pos rfl]) (Ev.now _)))
  | true =>
    refine Ev.bind (Ev.now _) (Ev.ite_pos rfl ?_)
    refine Ev.const (in_some' s v 1000) ?_
    cases hS : inR s v 1000 with
    | false => exact Ev.ite_neg (by simp) (Ev.step (f := fun _ => some false) (fun k => by rw [impl_isGraph.j0, if_pos rfl]) (Ev.now _))
    | true =>
      refine Ev.ite_pos rfl (Ev.const (in_some' (bs.length : Int) 1 300) ?_)
      cases hB : inR (bs.length : Int) 1 300 with
      | false => exact Ev.step (f := fun _ => some false) (fun k => by rw [impl_isGraph.j0, if_pos (by rfl)]) (Ev.now _)
      | true =>
        refine Ev.step (f := fun k => impl_isGraph.l0 k 0 bs (bs.length : Int) 0 zs p v s bs) (fun k => by rw [impl_isGraph.j0, if_neg (by simp)]) ?_
        simpa using h
theorem graph_l1 (zs : List Int) (p v s : Int) (bs : List S47) (hb : bs.length ≤ 1048576) (hs : 0 ≤ s) (hs2 : s ≤ 1000) (hz : zs.length ≤ 1048576) (hc : stepsI bs ≤ 1048576) (d : Nat) : ∀ i n : Nat, i + d = bs.length → n ≤ 1000 →
    Ev (fun k => spec_GraphOk.l1 k (n : Int) (i : Int) zs p v s bs) (((bs.drop i).all fun b => blkOk (zs.length : Int) s (bs.length : Int) b) && decide (n + stepsI (bs.drop i) ≤ 1000)) := by
  induction d with
  | zero =>
    intro i n hi hn
    rw [List.drop_eq_nil_of_le (by omega)]
    refine Ev.step (f := fun _ => some true) (fun k => by rw [spec_GraphOk.l1, if_neg (by omega)]) ?_
    rw [show decide (n + stepsI [] ≤ 1000) = true from decide_eq_true (by simp [stepsI]; omega)]
    exact Ev.now _
  | succ d ih =>
    intro i n hi hn
    have hi' : i < bs.length := by omega
    have hd : bs.drop i = bs[i]'hi' :: bs.drop (i + 1) := List.drop_eq_getElem_cons (by omega)
    have hr := rdIB bs i (by omega)
    have hl := stepsI_mem bs (bs[i]'hi') (List.getElem_mem _)
    rw [hd, List.all_cons, show decide (n + stepsI (bs[i]'hi' :: bs.drop (i + 1)) ≤ 1000) = decide (n + ((bs[i]'hi').f0.length + stepsI (bs.drop (i + 1))) ≤ 1000) from rfl]
    have h1 := block_ev zs p v s bs (bs[i]'hi').f0 (bs[i]'hi').f1 (bs[i]'hi').f2 (bs[i]'hi').f3 (bs[i]'hi').f4 hs (by omega) (by omega) (by omega) (by omega)
    by_cases hg : n + (bs[i]'hi').f0.length > 1000
    · rw [decide_eq_false (show ¬ n + ((bs[i]'hi').f0.length + stepsI (bs.drop (i + 1))) ≤ 1000 by omega), Bool.and_false]
      exact Ev.step (f := fun _ => some false) (fun k => by rw [spec_GraphOk.l1, if_pos (by omega), if_pos (by omega), hr, wrap_ok (i := (n : Int) + _) (by omega) (by omega), if_pos (by omega)]) (Ev.now _)
    refine Ev.step (fun k => by rw [spec_GraphOk.l1, if_pos (by omega), if_pos (by omega), hr, wrap_ok (i := (n : Int) + _) (by omega) (by omega), if_neg (by omega)]) (Ev.bind h1 (f := fun k t => if t = true then spec_GraphOk.l1 k ((n : Int) + ((bs[i]'hi').f0.length : Int)) (wrap64 ((i : Int) + 1)) zs p v s bs else some false) ?_)
    cases hq : blockB (zs.length : Int) s (bs.length : Int) (bs[i]'hi').f0 (bs[i]'hi').f1 (bs[i]'hi').f2 (bs[i]'hi').f3 (bs[i]'hi').f4 with
    | false =>
      rw [show blkOk (zs.length : Int) s (bs.length : Int) (bs[i]'hi') = false from hq]
      exact Ev.ite_neg (by simp) (Ev.now _)
    | true =>
      rw [show blkOk (zs.length : Int) s (bs.length : Int) (bs[i]'hi') = true from hq, Bool.true_and, wrap_ok (i := (i : Int) + 1) (by omega) (by omega)]
      have h2 := ih (i + 1) (n + (bs[i]'hi').f0.length) (by omega) (by omega)
      rw [Nat.add_assoc] at h2
      rw [Int.natCast_add, Int.natCast_add] at h2
      exact Ev.ite_pos rfl h2
/-- What comes behind the sizes. -/
def restG (zs : List Int) (p v s : Int) (bs : List S47) : Bool :=
  inR (zs.length : Int) 1 4 && (inR v 0 20 && (inR p 0 6 && (!decide (p > v) && (inR s v 1000 && (inR (bs.length : Int) 1 300 && ((bs.all fun b => blkOk (zs.length : Int) s (bs.length : Int) b) && decide (stepsI bs ≤ 1000)))))))
theorem graph_l0 (zs : List Int) (p v s : Int) (bs : List S47) (hb : bs.length ≤ 1048576) (hz : zs.length ≤ 1048576) (hc : stepsI bs ≤ 1048576) (d : Nat) : ∀ i : Nat, i + d = zs.length →
    Ev (fun k => spec_GraphOk.l0 k (i : Int) zs p v s bs) (((zs.drop i).all fun n => inR n 1 16) && restG zs p v s bs) := by
  induction d with
  | zero =>
    intro i hi
    rw [List.drop_eq_nil_of_le (by omega)]
    have hno : Ev (fun k => spec_GraphOk.j1 k true zs p v s bs) false := Ev.step (f := fun _ => some false) (fun k => by rw [spec_GraphOk.j1, if_pos rfl]) (Ev.now _)
    refine Ev.step (fun k => by rw [spec_GraphOk.l0, if_neg (by omega)]) ?_
    rw [show (List.all ([] : List Int) fun n => inR n 1 16) = true from rfl, Bool.true_and]
    unfold restG
    refine Ev.const (in_some _ _ _) ?_
    cases h1 : inR (zs.length : Int) 1 4 with
    | false => exact Ev.ite_neg (by simp) hno
    | true =>
      refine Ev.ite_pos rfl (Ev.const (in_some _ _ _) ?_)
      cases h2 : inR v 0 20 with
      | false => exact Ev.ite_neg (by simp) hno
      | true =>
        refine Ev.ite_pos rfl (Ev.const (in_some _ _ _) ?_)
        cases h3 : inR p 0 6 with
        | false => exact Ev.ite_neg (by simp) hno
        | true =>
          refine Ev.ite_pos rfl ?_
          by_cases h4 : p > v
          · rw [decide_eq_true h4]
            exact Ev.ite_pos h4 hno
          rw [decide_eq_false h4]
          refine Ev.ite_neg h4 (Ev.const (in_some _ _ _) ?_)
          cases h5 : inR s v 1000 with
          | false => exact Ev.ite_neg (by simp) hno
          | true =>
            refine Ev.ite_pos rfl (Ev.const (in_some _ _ _) ?_)
            cases h6 : inR (bs.length : Int) 1 300 with
            | false => exact hno
            | true =>
              refine Ev.step (f := fun k => spec_GraphOk.l1 k 0 0 zs p v s bs) (fun k => by rw [spec_GraphOk.j1, if_neg (by simp)]) ?_
              have b1 : 0 ≤ v ∧ v ≤ 20 := by simpa [inR] using h2
              have b2 : v ≤ s ∧ s ≤ 1000 := by simpa [inR] using h5
              have h := graph_l1 zs p v s bs hb (by omega) (by omega) hz hc bs.length 0 0 (by omega) (by omega)
              rw [List.drop_zero] at h
              simpa using h
  | succ d ih =>
    intro i hi
    have hd : zs.drop i = zs[i]'(by omega) :: zs.drop (i + 1) := List.drop_eq_getElem_cons (by omega)
    have hr := rd_lt zs i (by omega)
    rw [hd, List.all_cons]
    refine Ev.step (fun k => by rw [spec_GraphOk.l0, if_pos (by omega), if_pos (by omega), hr]) (Ev.const (in_some _ _ _) (f := fun k t => if t = true then spec_GraphOk.l0 k (wrap64 ((i : Int) + 1)) zs p v s bs else some false) ?_)
    cases hq : inR (zs[i]'(by omega)) 1 16 with
    | false => exact Ev.ite_neg (by simp) (Ev.now _)
    | true =>
      rw [wrap_ok (i := (i : Int) + 1) (by omega) (by omega), Bool.true_and]
      exact Ev.ite_pos rfl (ih (i + 1) (by omega))
theorem GraphOk_ev (zs : List Int) (p v s : Int) (bs : List S47) (hb : bs.length ≤ 1048576) (hz : zs.length ≤ 1048576) (hc : stepsI bs ≤ 1048576) : Ev (fun k => spec_GraphOk.f k zs p v s bs) (okG zs p v s bs) := by
  have h := graph_l0 zs p v s bs hb hz hc zs.length 0 (by omega)
  rw [List.drop_zero] at h
  have e : ((zs.all fun n => inR n 1 16) && restG zs p v s bs) = okG zs p v s bs := by
    have e1 : (zs.any fun n => !inR n 1 16) = !(zs.all fun n => inR n 1 16) := List.not_all_eq_any_not.symm
    have e2 : (inR v 0 20 && (inR p 0 6 && !decide (p > v))) = (inR p 0 (if v < 6 then v else 6) && decide (v ≤ 20)) := by
      unfold inR
      rw [Bool.eq_iff_iff]
      simp only [Bool.and_eq_true, Bool.not_eq_true', decide_eq_true_eq, decide_eq_false_iff_not]
      split <;> omega
    unfold okG restG progB
    rw [e1, Bool.not_not, ← e2]
    simp only [Bool.and_assoc, Bool.and_left_comm, Bool.and_comm]
  rw [← e]
  exact h
end Go.Proofs.Ytcbpbnkoolpibaa.Ok
namespace Go.Proofs.Ytcbpbnkoolpibaa.Gr
open Go.RowKit Go.Proofs.Ytcbpbnkoolpibaa.P Go.Proofs.YtcbpbnkoolpibaaW.PrintWords Go.Proofs.YtcbpbnkoolpibaaW.PrintLast Go.Proofs.Ytcbpbnkoolpibaa.Aux Go.Proofs.Ytcbpbnkoolpibaa.Ok
theorem Small.stepsI {zs : List Int} {bs : List S67} (h : Small zs bs) : stepsI (bs.map convB) ≤ 1048576 := by
  rw [stepsI_conv]
  exact h.steps
end Go.Proofs.Ytcbpbnkoolpibaa.Gr
namespace Go.Proofs.Ytcbpbnkoolpibaa.Gr
open Go.RowKit Go.Proofs.Ytcbpbnkoolpibaa.P Go.Proofs.YtcbpbnkoolpibaaW.PrintWords Go.Proofs.YtcbpbnkoolpibaaW.PrintLast Go.Proofs.Ytcbpbnkoolpibaa.Aux
set_option linter.unusedVariables false
set_option linter.unusedSimpArgs false
def nextL (b : S47) : List Int := if b.f1 = 0 then [b.f3] else if b.f1 = 1 then [b.f3, b.f4] else []
theorem next_s (b : S47) : spec_l05Next.f b.f0 b.f1 b.f2 b.f3 b.f4 = some (nextL b) := by
  unfold spec_l05Next.f nextL
  repeat' split
  all_goals rfl
theorem next_i (b : S47) : impl_nextOf.f b.f0 b.f1 b.f2 b.f3 b.f4 = some (nextL b) := by
  unfold impl_nextOf.f nextL
  repeat' split
  all_goals rfl
theorem nextL_length (b : S47) : (nextL b).length ≤ 2 := by
  unfold nextL
  repeat' split
  all_goals simp
theorem set_count (seen : List Bool) (i : Nat) (h : i < seen.length) (hf : seen[i] = false) : (seen.set i true).count false + 1 = seen.count false := by
  have h1 : 0 < seen.count false := List.count_pos_iff.2 (hf ▸ List.getElem_mem h)
  rw [List.count_set h, hf]
  simp
  omega
theorem okG_next {zs : List Int} {p v s : Int} {bs : List S47} (h : Ok.okG zs p v s bs = true) : (∀ b ∈ bs, ∀ x ∈ nextL b, 0 ≤ x ∧ x < (bs.length : Int)) ∧ 0 < bs.length := by
  unfold Ok.okG at h
  simp only [Bool.and_eq_true] at h
  obtain ⟨_, _, hl, ha, _⟩ := h
  have hl2 : 1 ≤ (bs.length : Int) := by simp [inR] at hl; omega
  refine ⟨fun b hb x hx => ?_, by omega⟩
  have hk := List.all_eq_true.1 ha b hb
  unfold Ok.blkOk Ok.blockB at hk
  split at hk
  · exact absurd hk (by simp)
  split at hk
  · exact absurd hk (by simp)
  unfold nextL at hx
  by_cases h0 : b.f1 = 0
  · rw [if_pos h0] at hk hx
    simp [inR] at hk hx
    subst hx
    omega
  rw [if_neg h0] at hk hx
  by_cases h1 : b.f1 = 1
  · rw [if_pos h1] at hk hx
    simp [inR] at hk hx
    rcases hx with rfl | rfl <;> omega
  · rw [if_neg h1] at hx
    cases hx
end Go.Proofs.Ytcbpbnkoolpibaa.Gr
