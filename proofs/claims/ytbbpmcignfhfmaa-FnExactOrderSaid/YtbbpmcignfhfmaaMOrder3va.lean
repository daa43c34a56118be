/- Functions of the program and of the reference as plain functions, and that the Go code comes to their answers; several texts in one. No conditions beyond what each theorem says. -/
import Derived.Test.YtbbpmcignfhfmaaMOrder3wa
import Derived.Test.YtbbpmcignfhfmaaMOrder1a
import Derived.Test.YtbbpmcignfhfmaaMOrder0xa
namespace Go.Proofs.Ytbbpmcignfhfmaa.Ok
open Go.RowKit Go.Proofs.Ytbbpmcignfhfmaa.P Go.Proofs.YtbbpmcignfhfmaaW.PrintWords Go.Proofs.YtbbpmcignfhfmaaW.PrintLast Go.Proofs.Ytbbpmcignfhfmaa.Aux Go.Proofs.Ytbbpmcignfhfmaa.Gr
set_option linter.unusedVariables false
set_option linter.unusedSimpArgs false
/-- How many steps a list of blocks has. -/
def stepsI : List S49 → Nat
  | [] => 0
  | b :: bs => b.f0.length + stepsI bs
theorem stepsI_conv (bs : List S44) : stepsI (bs.map convB) = steps bs := by
  induction bs with
  | nil => rfl
  | cons b bs ih => simp [stepsI, steps, convB, ih]
theorem stepsI_mem (bs : List S49) (b : S49) (h : b ∈ bs) : b.f0.length ≤ stepsI bs := by
  induction bs with
  | nil => cases h
  | cons c cs ih =>
    rcases List.mem_cons.1 h with rfl | h
    · simp [stepsI]
    · have := ih h
      simp [stepsI]
      omega
def blkOk (z s nb : Int) (b : S49) : Bool := blockB z s nb b.f0 b.f1 b.f2 b.f3 b.f4
/-- Whether a graph is ok. -/
def okG (zs : List Int) (p v s : Int) (bs : List S49) : Bool :=
  progB zs p v && (inR s v 1000 && (inR (bs.length : Int) 1 300 && ((bs.all fun b => blkOk (zs.length : Int) s (bs.length : Int) b) && decide (stepsI bs ≤ 1000))))
theorem isGraph_l0 (zs : List Int) (p v s : Int) (bs : List S49) (hb : bs.length ≤ 1048576) (d : Nat) : ∀ i n : Nat, i + d = bs.length → n + stepsI (bs.drop i) ≤ 1048576 →
    Ev (fun k => impl_isGraph.l0 k (n : Int) bs (bs.length : Int) (i : Int) zs p v s bs) (((bs.drop i).all fun b => blkOk (zs.length : Int) s (bs.length : Int) b) && decide (n + stepsI (bs.drop i) ≤ 1000)) := by
  induction d with
  | zero =>
    intro i n hi hn
    rw [List.drop_eq_nil_of_le (by omega)]
    refine Ev.step (f := fun _ => some (decide ((n : Int) ≤ 1000))) (fun k => by rw [impl_isGraph.l0, if_neg (by omega)]) ?_
    rw [show (List.all ([] : List S49) fun b => blkOk (zs.length : Int) s (bs.length : Int) b) = true from rfl, Bool.true_and, show decide ((n : Int) ≤ 1000) = decide (n + stepsI [] ≤ 1000) from decide_eq_decide.2 (by simp [stepsI]; omega)]
    exact Ev.now _
  | succ d ih =>
    intro i n hi hn
    have hi' : i < bs.length := by omega
    have hd : bs.drop i = bs[i]'hi' :: bs.drop (i + 1) := List.drop_eq_getElem_cons (by omega)
    have hr := rdIB bs i (by omega)
    rw [hd] at hn ⊢
    rw [List.all_cons, show decide (n + stepsI (bs[i]'hi' :: bs.drop (i + 1)) ≤ 1000) = decide (n + ((bs[i]'hi').f0.length + stepsI (bs.drop (i + 1))) ≤ 1000) from rfl]
    simp only [stepsI] at hn
    have h1 := isBlock_ev zs p v s bs (bs[i]'hi').f0 (bs[i]'hi').f1 (bs[i]'hi').f2 (bs[i]'hi').f3 (bs[i]'hi').f4 (by omega)
    refine Ev.step (fun k => by rw [impl_isGraph.l0, if_pos (by omega), if_pos (by omega), if_pos (by omega), hr]) (Ev.bind h1 (f := fun k t => if t = true then impl_isGraph.l0 k (wrap64 ((n : Int) + ((bs[i]'hi').f0.length : Int))) bs (bs.length : Int) (wrap64 ((i : Int) + 1)) zs p v s bs else some false) ?_)
    cases hq : blockB (zs.length : Int) s (bs.length : Int) (bs[i]'hi').f0 (bs[i]'hi').f1 (bs[i]'hi').f2 (bs[i]'hi').f3 (bs[i]'hi').f4 with
    | false =>
      rw [show blkOk (zs.length : Int) s (bs.length : Int) (bs[i]'hi') = false from hq]
      exact Ev.ite_neg (by simp) (Ev.now _)
    | true =>
      rw [show blkOk (zs.length : Int) s (bs.length : Int) (bs[i]'hi') = true from hq, Bool.true_and, wrap_ok (i := (n : Int) + ((bs[i]'hi').f0.length : Int)) (by omega) (by omega), wrap_ok (i := (i : Int) + 1) (by omega) (by omega)]
      have h2 := ih (i + 1) (n + (bs[i]'hi').f0.length) (by omega) (by omega)
      rw [Nat.add_assoc] at h2
      rw [Int.natCast_add, Int.natCast_add] at h2
      exact Ev.ite_pos rfl h2
theorem isGraph_ev (zs : List Int) (p v s : Int) (bs : List S49) (hb : bs.length ≤ 1048576) (hn : stepsI bs ≤ 1048576) : Ev (fun k => impl_isGraph.f k zs p v s bs) (okG zs p v s bs) := by
  have h := isGraph_l0 zs p v s bs hb bs.length 0 0 (by omega) (by rw [List.drop_zero]; omega)
  rw [List.drop_zero] at h
  unfold impl_isGraph.f impl_isProgram.f okG
  cases hP : progB zs p v with
  | false => exact Ev.bind (Ev.now _) (Ev.ite_neg (by simp) (Ev.step (f := fun _ => some false) (fun k => by rw [impl_isGraph.j0, if_pos rfl]) (Ev.now _)))
  | true =>
    refine Ev.bind (Ev.now _) (Ev.ite_pos rfl ?_)
    refine Ev.const (in_some' s v 1000) ?_
    cases hS : inR s v 1000 with
    | false => exact Ev.ite_neg (by simp) (Ev.step (f := fun _ => some false) (fun k => by rw [impl_isGraph.j0, if_pos rfl]) (Ev.now _))
    | true =>
      refine Ev.ite_pos rfl (Ev.const (in_some' (bs.length : Int) 1 300) ?_)
      cases hB : inR (bs.length : Int) 1 300 with
      | false => exact Ev.step (f := fun _ => some false) (fun k => by rw [impl_isGraph.j0, if_pos (by rfl)]) (Ev.now _)
      | true =>
        refine Ev.step (f := fun k => impl_isGraph.l0 k 0 bs (bs.length : Int) 0 zs p v s bs) (fun k => by rw [impl_isGraph.j0, if_neg (by simp)]) ?_
        simpa using h
theorem graph_l1 (zs : List Int) (p v s : Int) (bs : List S49) (hb : bs.length ≤ 1048576) (hs : 0 ≤ s) (hs2 : s ≤ 1000) (hz : zs.length ≤ 1048576) (hc : stepsI bs ≤ 1048576) (d : Nat) : ∀ i n : Nat, i + d = bs.length → n ≤ 1000 →
    Ev (fun k => spec_GraphOk.l1 k (n : Int) (i : Int) zs p v s bs) (((bs.drop i).all fun b => blkOk (zs.length : Int) s (bs.length : Int) b) && decide (n + stepsI (bs.drop i) ≤ 1000)) := by
  induction d with
  | zero =>
    intro i n hi hn
    rw [List.drop_eq_nil_of_le (by omega)]
    refine Ev.step (f := fun _ => some true) (fun k => by rw [spec_GraphOk.l1, if_neg (by omega)]) ?_
    rw [show decide (n + stepsI [] ≤ 1000) = true from decide_eq_true (by simp [stepsI]; omega)]
    exact Ev.now _
  | succ d ih =>
    intro i n hi hn
    have hi' : i < bs.length := by omega
    have hd : bs.drop i = bs[i]'hi' :: bs.drop (i + 1) := List.drop_eq_getElem_cons (by omega)
    have hr := rdIB bs i (by omega)
    have hl := stepsI_mem bs (bs[i]'hi') (List.getElem_mem _)
    rw [hd, List.all_cons, show decide (n + stepsI (bs[i]'hi' :: bs.drop (i + 1)) ≤ 1000) = decide (n + ((bs[i]'hi').f0.length + stepsI (bs.drop (i + 1))) ≤ 1000) from rfl]
    have h1 := block_ev zs p v s bs (bs[i]'hi').f0 (bs[i]'hi').f1 (bs[i]'hi').f2 (bs[i]'hi').f3 (bs[i]'hi').f4 hs (by omega) (by omega) (by omega) (by omega)
    by_cases hg : n + (bs[i]'hi').f0.length > 1000
    · rw [decide_eq_false (show ¬ n + ((bs[i]'hi').f0.length + stepsI (bs.drop (i + 1))) ≤ 1000 by omega), Bool.and_false]
      exact Ev.step (f := fun _ => some false) (fun k => by rw [spec_GraphOk.l1, if_pos (by omega), if_pos (by omega), hr, wrap_ok (i := (n : Int) + _) (by omega) (by omega), if_pos (by omega)]) (Ev.now _)
    refine Ev.step (fun k => by rw [spec_GraphOk.l1, if_pos (by omega), if_pos (by omega), hr, wrap_ok (i := (n : Int) + _) (by omega) (by omega), if_neg (by omega)]) (Ev.bind h1 (f := fun k t => if t = true then spec_GraphOk.l1 k ((n : Int) + ((bs[i]'hi').f0.length : Int)) (wrap64 ((i : Int) + 1)) zs p v s bs else some false) ?_)
    cases hq : blockB (zs.length : Int) s (bs.length : Int) (bs[i]'hi').f0 (bs[i]'hi').f1 (bs[i]'hi').f2 (bs[i]'hi').f3 (bs[i]'hi').f4 with
    | false =>
      rw [show blkOk (zs.length : Int) s (bs.length : Int) (bs[i]'hi') = false from hq]
      exact Ev.ite_neg (by simp) (Ev.now _)
    | true =>
      rw [show blkOk (zs.length : Int) s (bs.length : Int) (bs[i]'hi') = true from hq, Bool.true_and, wrap_ok (i := (i : Int) + 1) (by omega) (by omega)]
      have h2 := ih (i + 1) (n + (bs[i]'hi').f0.length) (by omega) (by omega)
      rw [Nat.add_assoc] at h2
      rw [Int.natCast_add, Int.natCast_add] at h2
      exact Ev.ite_pos rfl h2
/-- What comes behind the sizes. -/
def restG (zs : List Int) (p v s : Int) (bs : List S49) : Bool :=
  inR (zs.length : Int) 1 4 && (inR v 0 20 && (inR p 0 6 && (!decide (p > v) && (inR s v 1000 && (inR (bs.length : Int) 1 300 && ((bs.all fun b => blkOk (zs.length : Int) s (bs.length : Int) b) && decide (stepsI bs ≤ 1000)))))))
theorem graph_l0 (zs : List Int) (p v s : Int) (bs : List S49) (hb : bs.length ≤ 1048576) (hz : zs.length ≤ 1048576) (hc : stepsI bs ≤ 1048576) (d : Nat) : ∀ i : Nat, i + d = zs.length →
    Ev (fun k => spec_GraphOk.l0 k (i : Int) zs p v s bs) (((zs.drop i).all fun n => inR n 1 16) && restG zs p v s bs) := by
  induction d with
  | zero =>
    intro i hi
    rw [List.drop_eq_nil_of_le (by omega)]
    have hno : Ev (fun k => spec_GraphOk.j1 k true zs p v s bs) false := Ev.step (f := fun _ => some false) (fun k => by rw [spec_GraphOk.j1, if_pos rfl]) (Ev.now _)
    refine Ev.step (fun k => by rw [spec_GraphOk.l0, if_neg (by omega)]) ?_
    rw [show (List.all ([] : List Int) fun n => inR n 1 16) = true from rfl, Bool.true_and]
    unfold restG
    refine Ev.const (in_some _ _ _) ?_
    cases h1 : inR (zs.length : Int) 1 4 with
    | false => exact Ev.ite_neg (by simp) hno
    | true =>
      refine Ev.ite_pos rfl (Ev.const (in_some _ _ _) ?_)
      cases h2 : inR v 0 20 with
      | false => exact Ev.ite_neg (by simp) hno
      | true =>
        refine Ev.ite_pos rfl (Ev.const (in_some _ _ _) ?_)
        cases h3 : inR p 0 6 with
        | false => exact Ev.ite_neg (by simp) hno
        | true =>
          refine Ev.ite_pos rfl ?_
          by_cases h4 : p > v
          · rw [decide_eq_true h4]
            exact Ev.ite_pos h4 hno
          rw [decide_eq_false h4]
          refine Ev.ite_neg h4 (Ev.const (in_some _ _ _) ?_)
          cases h5 : inR s v 1000 with
          | false => exact Ev.ite_neg (by simp) hno
          | true =>
            refine Ev.ite_pos rfl (Ev.const (in_some _ _ _) ?_)
            cases h6 : inR (bs.length : Int) 1 300 with
            | false => exact hno
            | true =>
              refine Ev.step (f := fun k => spec_GraphOk.l1 k 0 0 zs p v s bs) (fun k => by rw [spec_GraphOk.j1, if_neg (by simp)]) ?_
              have b1 : 0 ≤ v ∧ v ≤ 20 := by simpa [inR] using h2
              have b2 : v ≤ s ∧ s ≤ 1000 := by simpa [inR] using h5
              have h := graph_l1 zs p v s bs hb (by omega) (by omega) hz hc bs.length 0 0 (by omega) (by omega)
              rw [List.drop_zero] at h
              simpa using h
  | succ d ih =>
    intro i hi
    have hd : zs.drop i = zs[i]'(by omega) :: zs.drop (i + 1) := List.drop_eq_getElem_cons (by omega)
    have hr := rd_lt zs i (by omega)
    rw [hd, List.all_cons]
    refine Ev.step (fun k => by rw [spec_GraphOk.l0, if_pos (by omega), if_pos (by omega), hr]) (Ev.const (in_some _ _ _) (f := fun k t => if t = true then spec_GraphOk.l0 k (wrap64 ((i : Int) + 1)) zs p v s bs else some false) ?_)
    cases hq : inR (zs[i]'(by omega)) 1 16 with
    | false => exact Ev.ite_neg (by simp) (Ev.now _)
    | true =>
      rw [wrap_ok (i := (i : Int) + 1) (by omega) (by omega), Bool.true_and]
      exact Ev.ite_pos rfl (ih (i + 1) (by omega))
theorem GraphOk_ev (zs : List Int) (p v s : Int) (bs : List S49) (hb : bs.length ≤ 1048576) (hz : zs.length ≤ 1048576) (hc : stepsI bs ≤ 1048576) : Ev (fun k => spec_GraphOk.f k zs p v s bs) (okG zs p v s bs) := by
  have h := graph_l0 zs p v s bs hb hz hc zs.length 0 (by omega)
  rw [List.drop_zero] at h
  have e : ((zs.all fun n => inR n 1 16) && restG zs p v s bs) = okG zs p v s bs := by
    have e1 : (zs.any fun n => !inR n 1 16) = !(zs.all fun n => inR n 1 16) := List.not_all_eq_any_not.symm
    have e2 : (inR v 0 20 && (inR p 0 6 && !decide (p > v))) = (inR p 0 (if v < 6 then v else 6) && decide (v ≤ 20)) := by
      unfold inR
      rw [Bool.eq_iff_iff]
      simp only [Bool.and_eq_true, Bool.not_eq_true', decide_eq_true_eq, decide_eq_false_iff_not]
      split <;> omega
    unfold okG restG progB
    rw [e1, Bool.not_not, ← e2]
    simp only [Bool.and_assoc, Bool.and_left_comm, Bool.and_comm]
  rw [← e]
  exact h
end Go.Proofs.Ytbbpmcignfhfmaa.Ok
namespace Go.Proofs.Ytbbpmcignfhfmaa.Gr
open Go.RowKit Go.Proofs.Ytbbpmcignfhfmaa.P Go.Proofs.YtbbpmcignfhfmaaW.PrintWords Go.Proofs.YtbbpmcignfhfmaaW.PrintLast Go.Proofs.Ytbbpmcignfhfmaa.Aux Go.Proofs.Ytbbpmcignfhfmaa.Ok
theorem Small.stepsI {zs : List Int} {bs : List S44} (h : Small zs bs) : stepsI (bs.map convB) ≤ 1048576 := by
  rw [stepsI_conv]
  exact h.steps
end Go.Proofs.Ytbbpmcignfhfmaa.Gr
namespace Go.Proofs.Ytbbpmcignfhfmaa.Gr
open Go.RowKit Go.Proofs.Ytbbpmcignfhfmaa.P Go.Proofs.YtbbpmcignfhfmaaW.PrintWords Go.Proofs.YtbbpmcignfhfmaaW.PrintLast Go.Proofs.Ytbbpmcignfhfmaa.Aux
set_option linter.unusedVariables false
set_option linter.unusedSimpArgs false
def nextL (b : S49) : List Int := if b.f1 = 0 then [b.f3] else if b.f1 = 1 then [b.f3, b.f4] else []
theorem next_s (b : S49) : spec_l05Next.f b.f0 b.f1 b.f2 b.f3 b.f4 = some (nextL b) := by
  unfold spec_l05Next.f nextL
  repeat' split
  all_goals rfl
theorem next_i (b : S49) : impl_nextOf.f b.f0 b.f1 b.f2 b.f3 b.f4 = some (nextL b) := by
  unfold impl_nextOf.f nextL
  repeat' split
  all_goals rfl
theorem nextL_length (b : S49) : (nextL b).length ≤ 2 := by
  unfold nextL
  repeat' split
  all_goals simp
theorem rev_ev (b : S49) : Ev (fun k => slices_Reverse_int_int.f k (nextL b)) (nextL b).reverse := by
  refine ⟨3, fun k hk => ?_⟩
  obtain ⟨m, rfl⟩ : ∃ m, k = m + 3 := ⟨k - 3, by omega⟩
  unfold nextL
  repeat' split
  · simp [slices_Reverse_int_int.f, slices_Reverse_int_int.l0, wrap64]
  · simp [slices_Reverse_int_int.f, slices_Reverse_int_int.l0, wrap64, rd]
  · simp [slices_Reverse_int_int.f, slices_Reverse_int_int.l0, wrap64]
theorem set_count (seen : List Bool) (i : Nat) (h : i < seen.length) (hf : seen[i] = false) : (seen.set i true).count false + 1 = seen.count false := by
  have h1 : 0 < seen.count false := List.count_pos_iff.2 (hf ▸ List.getElem_mem h)
  rw [List.count_set h, hf]
  simp
  omega
section
variable (zs : List Int) (p v s : Int) (bs : List S49)
theorem visit_ev (hb : bs.length ≤ 1048576) (hn : ∀ b ∈ bs, ∀ x ∈ nextL b, 0 ≤ x ∧ x < (bs.length : Int)) (m : Nat) : ∀ (seen : List Bool) (out : List Int), seen.length = bs.length → seen.count false ≤ m → out.length + seen.count false ≤ 4294967296 →
    ∀ (xs : List Int), (∀ x ∈ xs, 0 ≤ x ∧ x < (bs.length : Int)) → xs.length ≤ 4294967296 → ∀ (d i : Nat), i + d = xs.length →
    ∃ out' seen', Ev (fun k => spec_l05Visit.l0 k seen out xs (i : Int) zs p v s bs) (out', seen') ∧ seen'.length = bs.length ∧ seen'.count false ≤ seen.count false ∧ out'.length + seen'.count false ≤ 4294967296 ∧
      ∀ (st : List Int) (R : List Int), st.length + (xs.length - i) + 2 * seen.count false ≤ 4294967296 → Ev (fun k => impl_order.l0 k seen' out' st zs p v s bs) R → Ev (fun k => impl_order.l0 k seen out (st ++ (xs.drop i).reverse) zs p v s bs) R := by
  induction m using Nat.strongRecOn with
  | ind m IH =>
  intro seen out hl hc ho xs hx hxl d
  induction d with
  | zero =>
    intro i hi
    refine ⟨out, seen, Ev.step (f := fun _ => some (out, seen)) (fun k => by rw [spec_l05Visit.l0, if_neg (by omega)]) (Ev.now _), hl, Nat.le_refl _, ho, fun st R _ h => ?_⟩
    rw [List.drop_eq_nil_of_le (by omega), List.reverse_nil, List.append_nil]
    exact h
  | succ d ih =>
    intro i hi
    have hi' : i < xs.length := by omega
    obtain ⟨hx0, hx1⟩ := hx xs[i] (List.getElem_mem hi')
    obtain ⟨x, hxe⟩ : ∃ x : Nat, (x : Int) = xs[i] := ⟨xs[i].toNat, by omega⟩
    have hxl' : x < seen.length := by omega
    have hxb : x < bs.length := by omega
    have hr : rd xs (i : Int) = (x : Int) := (rd_lt xs i hi').trans hxe.symm
    have hs := rdOf_lt false seen x hxl'
    have hbx := rdIB bs x hxb
    have hdr : (xs.drop i).reverse = (xs.drop (i + 1)).reverse ++ [(x : Int)] := by rw [List.drop_eq_getElem_cons hi', List.reverse_cons, hxe]
    have hrl : (xs.drop (i + 1)).reverse.length = xs.length - (i + 1) := by rw [List.length_reverse, List.length_drop]
    -- the stack's top
    have pop : ∀ (st : List Int), st.length + (xs.length - i) ≤ 4294967296 → ∀ S : List Int, S = st ++ (xs.drop (i + 1)).reverse → (S ++ [(x : Int)]).length = S.length + 1 ∧ wrap64 (((S ++ [(x : Int)]).length : Int) - 1) = (S.length : Int) ∧ rd (S ++ [(x : Int)]) (S.length : Int) = (x : Int) ∧ (S ++ [(x : Int)]).take ((S.length : Int)).toNat = S ∧ S.length ≤ 4294967296 := fun st hst S hS => by
      have h1 : (S ++ [(x : Int)]).length = S.length + 1 := by simp
      have h2 : S.length ≤ 4294967296 := by rw [hS, List.length_append, hrl]; omega
      refine ⟨h1, by rw [h1, wrap_ok (by omega) (by omega)]; omega, ?_, ?_, h2⟩
      · rw [rd_lt _ _ (by omega)]
        simp
      · rw [Int.toNat_natCast, List.take_left']
        rfl
    cases hsx : seen[x] with
    | true =>
      obtain ⟨out', seen', h1, h2, h3, h4, h5⟩ := ih (i + 1) (by omega)
      have hv : Ev (fun k => spec_l05Visit.f k zs p v s bs (x : Int) seen out) (out, seen) := Ev.step (f := fun _ => some (out, seen)) (fun k => by rw [spec_l05Visit.f, if_pos (by omega), if_pos (by omega), hs, if_pos hsx]) (Ev.now _)
      refine ⟨out', seen', Ev.step (fun k => by rw [spec_l05Visit.l0, if_pos (by omega), if_pos (by omega), hr]) (Ev.bind hv ?_), h2, h3, h4, fun st R hst h => ?_⟩
      · rw [wrap_ok (i := (i : Int) + 1) (by omega) (by omega), ← Int.natCast_succ]
        exact h1
      · obtain ⟨S, hS⟩ : ∃ S, S = st ++ (xs.drop (i + 1)).reverse := ⟨_, rfl⟩
        rw [hdr, ← List.append_assoc, ← hS]
        obtain ⟨q1, q2, q3, q4, q5⟩ := pop st (by omega) S hS
        refine Ev.step (f := fun k => impl_order.l0 k seen out S zs p v s bs) (fun k => by rw [impl_order.l0, if_pos (by omega), q2, if_pos (by omega), if_pos (by omega), if_pos (by omega), q3, q4, Option.bind_some, if_pos (by omega), if_pos (by omega), hs, if_pos hsx]) ?_
        rw [hS]
        exact h5 st R (by omega) h
    | false =>
      have hcnt := set_count seen x hxl' hsx
      have hne : ∀ y ∈ nextL bs[x], 0 ≤ y ∧ y < (bs.length : Int) := hn bs[x] (List.getElem_mem hxb)
      have hnl := nextL_length bs[x]
      obtain ⟨out1, seen1, g1, g2, g3, g4, g5⟩ := IH (m - 1) (by omega) (seen.set x true) (out ++ [(x : Int)]) (by rw [List.length_set]; exact hl) (by omega) (by rw [List.length_append]; simp; omega) (nextL bs[x]) hne (by omega) (nextL bs[x]).length 0 (by omega)
      obtain ⟨out', seen', h1, h2, h3, h4, h5⟩ := IH (m - 1) (by omega) seen1 out1 g2 (by omega) g4 xs hx hxl d (i + 1) (by omega)
      have hv : Ev (fun k => spec_l05Visit.f k zs p v s bs (x : Int) seen out) (out1, seen1) :=
        Ev.step (f := fun k => spec_l05Visit.l0 k (seen.set x true) (out ++ [(x : Int)]) (nextL bs[x]) 0 zs p v s bs) (fun k => by rw [spec_l05Visit.f, if_pos (by omega), if_pos (by omega), hs, if_neg (by rw [hsx]; simp), if_pos (by omega), if_pos (by omega), hbx, next_s, Option.bind_some, Int.toNat_natCast]) g1
      refine ⟨out', seen', Ev.step (fun k => by rw [spec_l05Visit.l0, if_pos (by omega), if_pos (by omega), hr]) (Ev.bind hv ?_), h2, by omega, h4, fun st R hst h => ?_⟩
      · rw [wrap_ok (i := (i : Int) + 1) (by omega) (by omega), ← Int.natCast_succ]
        exact h1
      · obtain ⟨S, hS⟩ : ∃ S, S = st ++ (xs.drop (i + 1)).reverse := ⟨_, rfl⟩
        rw [hdr, ← List.append_assoc, ← hS]
        obtain ⟨q1, q2, q3, q4, q5⟩ := pop st (by omega) S hS
        have hSl : S.length = st.length + (xs.length - (i + 1)) := by rw [hS, List.length_append, hrl]
        have a1 := h5 st R (by omega) h
        rw [← hS] at a1
        have a2 := g5 S R (by omega) a1
        rw [List.drop_zero] at a2
        refine Ev.step (f := fun k => (slices_Reverse_int_int.f k (nextL bs[x])).bind fun t124 => if S.length + t124.length < 17592186044416 then impl_order.l0 k (seen.set x true) (out ++ [(x : Int)]) (S ++ t124) zs p v s bs else none) (fun k => by rw [impl_order.l0, if_pos (by omega), q2, if_pos (by omega), if_pos (by omega), if_pos (by omega), q3, q4, Option.bind_some, if_pos (by omega), if_pos (by omega), hs, if_neg (by rw [hsx]; simp), if_pos (by omega), if_pos (by omega), hbx, next_i, Option.bind_some, Int.toNat_natCast]) (Ev.bind (rev_ev bs[x]) ?_)
        exact Ev.ite_pos (by rw [List.length_reverse]; omega) a2
end
theorem okG_next {zs : List Int} {p v s : Int} {bs : List S49} (h : Ok.okG zs p v s bs = true) : (∀ b ∈ bs, ∀ x ∈ nextL b, 0 ≤ x ∧ x < (bs.length : Int)) ∧ 0 < bs.length := by
  unfold Ok.okG at h
  simp only [Bool.and_eq_true] at h
  obtain ⟨_, _, hl, ha, _⟩ := h
  have hl2 : 1 ≤ (bs.length : Int) := by simp [inR] at hl; omega
  refine ⟨fun b hb x hx => ?_, by omega⟩
  have hk := List.all_eq_true.1 ha b hb
  unfold Ok.blkOk Ok.blockB at hk
  split at hk
  · exact absurd hk (by simp)
  split at hk
  · exact absurd hk (by simp)
  unfold nextL at hx
  by_cases h0 : b.f1 = 0
  · rw [if_pos h0] at hk hx
    simp [inR] at hk hx
    subst hx
    omega
  rw [if_neg h0] at hk hx
  by_cases h1 : b.f1 = 1
  · rw [if_pos h1] at hk hx
    simp [inR] at hk hx
    rcases hx with rfl | rfl <;> omega
  · rw [if_neg h1] at hx
    cases hx
theorem Order_same (zs : List Int) (p v s : Int) (bs : List S44) (h : Small zs bs) :
    ∃ r, Ev (fun k => spec_Order.f k zs p v s (bs.map convB)) r ∧ Ev (fun k => impl_Order.f k zs p v s (bs.map convB)) r ∧ r.length ≤ 4294967296 := by
  have hb : (bs.map convB).length ≤ 1048576 := by rw [List.length_map]; exact h.blocks
  have hS := Ok.GraphOk_ev zs p v s (bs.map convB) hb h.sizes h.stepsI
  have hI := Ok.isGraph_ev zs p v s (bs.map convB) hb h.stepsI
  cases hG : Ok.okG zs p v s (bs.map convB) with
  | false =>
    rw [hG] at hS hI
    exact ⟨[], Ev.bind hS (Ev.ite_neg (by simp) (Ev.now _)), Ev.bind hI (Ev.ite_neg (by simp) (Ev.now _)), by simp⟩
  | true =>
    rw [hG] at hS hI
    obtain ⟨hn, hp⟩ := okG_next hG
    have hcl : (List.replicate (bs.map convB).length false).count false = (bs.map convB).length := by simp
    obtain ⟨out', seen', ⟨K, h1⟩, h2, h3, h4, h5⟩ := visit_ev zs p v s (bs.map convB) hb hn (bs.map convB).length (List.replicate (bs.map convB).length false) [] (by simp) (by omega) (by rw [hcl, List.length_nil]; omega) [0] (fun x hx => by obtain rfl := List.mem_singleton.1 hx; omega) (by simp) 1 0 rfl
    refine ⟨out', Ev.bind hS (Ev.ite_pos rfl (Ev.ite_pos (by omega) (Ev.ite_pos (by omega) (Ev.bind (a := (out', seen')) ⟨K + 1, fun k hk => ?_⟩ (Ev.now _))))), Ev.bind hI (Ev.ite_pos rfl (Ev.bind (f := fun _ t => some t) (Ev.ite_pos (by omega) (Ev.ite_pos (by omega) ?_)) (Ev.now _))), by omega⟩
    · obtain ⟨m, rfl⟩ : ∃ m, k = m + 1 := ⟨k - 1, by omega⟩
      have h6 := h1 (m + 1 + 1) (by omega)
      simp only [spec_l05Visit.l0] at h6
      rw [if_pos (by simp), if_pos (by omega)] at h6
      obtain ⟨⟨o2, s2⟩, e1, e2⟩ := Option.bind_eq_some_iff.mp h6
      rw [if_neg (by simp [wrap64])] at e2
      rw [Int.toNat_natCast]
      rw [show rd [0] ((0 : Nat) : Int) = 0 from rfl] at e1
      exact Eq.trans e1 e2
    · rw [Int.toNat_natCast]
      exact h5 [] out' (by rw [hcl]; show 0 + (1 - 0) + _ ≤ _; omega) (Ev.step (f := fun _ => some out') (fun k => by rw [impl_order.l0, if_neg (by simp)]) (Ev.now _))
end Go.Proofs.Ytbbpmcignfhfmaa.Gr
