/- Functions of the program and of the reference as plain functions, and that the Go code comes to their answers; several texts in one. No conditions beyond what each theorem says. -/
import Derived.Test.YtcbpbnkoolpibaaMClean2sa
import Derived.Test.YtcbpbnkoolpibaaMClean1a
import Derived.Test.YtcbpbnkoolpibaaMClean0ta
import Derived.Test.YtcbpbnkoolpibaaMClean0b
import Derived.Test.YtcbpbnkoolpibaaMClean0a
import Derived.Test.YtcbpbnkoolpibaaMClean0c
import Derived.Test.YtcbpbnkoolpibaaMCleanxF41
set_option linter.unusedVariables false
set_option linter.unusedSimpArgs false
namespace Go.Proofs.Ytcbpbnkoolpibaa.Ok
open RowKit P YtcbpbnkoolpibaaW.wA YtcbpbnkoolpibaaW.wB Aux Gr
def stepsI : List S47 → Nat
  | [] => 0
  | b :: bs => b.f0.length + stepsI bs
theorem stepsI_conv (bs : List S67) : stepsI (bs.map convB) = steps bs := by
  induction bs with
  | nil => rfl
  | cons b bs ih => simp [stepsI, steps, convB, ih]
theorem stepsI_mem (bs : List S47) (b : S47) (h : b ∈ bs) : b.f0.length ≤ stepsI bs := by
  induction bs with
  | nil => cases h
  | cons c cs ih =>
    rcases List.mem_cons.1 h with rfl | h
    · simp [stepsI]
    · have := ih h
      simp [stepsI]
      omega
def blkOk (z s nb : Int) (b : S47) : Bool := blockB z s nb b.f0 b.f1 b.f2 b.f3 b.f4
def okG (zs : List Int) (p v s : Int) (bs : List S47) : Bool :=
  progB zs p v && (inR s v 1000 && (inR (bs.length : Int) 1 300 && ((bs.all fun b => blkOk (zs.length : Int) s (bs.length : Int) b) && decide (stepsI bs ≤ 1000))))
theorem isGraph_l0 (zs : List Int) (p v s : Int) (bs : List S47) (hb : bs.length ≤ 1048576) (d : Nat) : ∀ i n : Nat, i + d = bs.length → n + stepsI (bs.drop i) ≤ 1048576 →
    Ev (fun k => impl_isGraph.l0 k (n : Int) bs (bs.length : Int) (i : Int) zs p v s bs) (((bs.drop i).all fun b => blkOk (zs.length : Int) s (bs.length : Int) b) && decide (n + stepsI (bs.drop i) ≤ 1000)) := by
  induction d with
  | zero =>
    intro i n hi hn
    rw [List.drop_eq_nil_of_le (by omega)]
    refine Ev.step (f := fun _ => some (decide ((n : Int) ≤ 1000))) (fun k => by rw [impl_isGraph.l0, if_neg (by omega)]) ?_
    rw [show (List.all ([] : List S47) fun b => blkOk (zs.length : Int) s (bs.length : Int) b) = true from rfl, Bool.true_and, show decide ((n : Int) ≤ 1000) = decide (n + stepsI [] ≤ 1000) from decide_eq_decide.2 (by simp [stepsI]; omega)]
    exact Ev.now _
  | succ d ih =>
    intro i n hi hn
    have hi' : i < bs.length := by omega
    have hd : bs.drop i = bs[i]'hi' :: bs.drop (i + 1) := List.drop_eq_getElem_cons (by omega)
    have hr := rdIB bs i (by omega)
    rw [hd] at hn ⊢
    rw [List.all_cons, show decide (n + stepsI (bs[i]'hi' :: bs.drop (i + 1)) ≤ 1000) = decide (n + ((bs[i]'hi').f0.length + stepsI (bs.drop (i + 1))) ≤ 1000) from rfl]
    simp only [stepsI] at hn
    have h1 := isBlock_ev zs p v s bs (bs[i]'hi').f0 (bs[i]'hi').f1 (bs[i]'hi').f2 (bs[i]'hi').f3 (bs[i]'hi').f4 (by omega)
    refine Ev.step (fun k => by rw [impl_isGraph.l0, if_pos (by omega), if_pos (by omega), if_pos (by omega), hr]) (Ev.bind h1 (f := fun k t => if t = true then impl_isGraph.l0 k (wrap64 ((n : Int) + ((bs[i]'hi').f0.length : Int))) bs (bs.length : Int) (wrap64 ((i : Int) + 1)) zs p v s bs else some false) ?_)
    cases hq : blockB (zs.length : Int) s (bs.length : Int) (bs[i]'hi').f0 (bs[i]'hi').f1 (bs[i]'hi').f2 (bs[i]'hi').f3 (bs[i]'hi').f4 with
    | false =>
      rw [show blkOk (zs.length : Int) s (bs.length : Int) (bs[i]'hi') = false from hq]
      exact Ev.ite_neg (by simp) (Ev.now _)
    | true =>
      rw [show blkOk (zs.length : Int) s (bs.length : Int) (bs[i]'hi') = true from hq, Bool.true_and, wrap_ok (i := (n : Int) + ((bs[i]'hi').f0.length : Int)) (by omega) (by omega), wrap_ok (i := (i : Int) + 1) (by omega) (by omega)]
      have h2 := ih (i + 1) (n + (bs[i]'hi').f0.length) (by omega) (by omega)
      rw [Nat.add_assoc] at h2
      rw [Int.natCast_add, Int.natCast_add] at h2
      exact Ev.ite_pos rfl h2
theorem isGraph_ev (zs : List Int) (p v s : Int) (bs : List S47) (hb : bs.length ≤ 1048576) (hn : stepsI bs ≤ 1048576) : Ev (fun k => impl_isGraph.f k zs p v s bs) (okG zs p v s bs) := by
  have h := isGraph_l0 zs p v s bs hb bs.length 0 0 (by omega) (by rw [List.drop_zero]; omega)
  rw [List.drop_zero] at h
  unfold impl_isGraph.f impl_isProgram.f okG
  cases hP : progB zs p v with
  | false => exact Ev.bind (Ev.now _) (Ev.ite_neg (by simp) (Ev.step (f := fun _ => some false) (fun k => by rw [impl_isGraph.j0, if_pos rfl]) (Ev.now _)))
  | true =>
    refine Ev.bind (Ev.now _) (Ev.ite_pos rfl ?_)
    refine Ev.const (in_some' s v 1000) ?_
    cases hS : inR s v 1000 with
    | false => exact Ev.ite_neg (by simp) (Ev.step (f := fun _ => some false) (fun k => by rw [impl_isGraph.j0, if_pos rfl]) (Ev.now _))
    | true =>
      refine Ev.ite_pos rfl (Ev.const (in_some' (bs.length : Int) 1 300) ?_)
      cases hB : inR (bs.length : Int) 1 300 with
      | false => exact Ev.step (f := fun _ => some false) (fun k => by rw [impl_isGraph.j0, if_pos (by rfl)]) (Ev.now _)
      | true =>
        refine Ev.step (f := fun k => impl_isGraph.l0 k 0 bs (bs.length : Int) 0 zs p v s bs) (fun k => by rw [impl_isGraph.j0, if_neg (by simp)]) ?_
        simpa using h
theorem graph_l1 (zs : List Int) (p v s : Int) (bs : List S47) (hb : bs.length ≤ 1048576) (hs : 0 ≤ s) (hs2 : s ≤ 1000) (hz : zs.length ≤ 1048576) (hc : stepsI bs ≤ 1048576) (d : Nat) : ∀ i n : Nat, i + d = bs.length → n ≤ 1000 →
    Ev (fun k => spec_GraphOk.l1 k (n : Int) (i : Int) zs p v s bs) (((bs.drop i).all fun b => blkOk (zs.length : Int) s (bs.length : Int) b) && decide (n + stepsI (bs.drop i) ≤ 1000)) := by
  induction d with
  | zero =>
    intro i n hi hn
    rw [List.drop_eq_nil_of_le (by omega)]
    refine Ev.step (f := fun _ => some true) (fun k => by rw [spec_GraphOk.l1, if_neg (by omega)]) ?_
    rw [show decide (n + stepsI [] ≤ 1000) = true from decide_eq_true (by simp [stepsI]; omega)]
    exact Ev.now _
  | succ d ih =>
    intro i n hi hn
    have hi' : i < bs.length := by omega
    have hd : bs.drop i = bs[i]'hi' :: bs.drop (i + 1) := List.drop_eq_getElem_cons (by omega)
    have hr := rdIB bs i (by omega)
    have hl := stepsI_mem bs (bs[i]'hi') (List.getElem_mem _)
    rw [hd, List.all_cons, show decide (n + stepsI (bs[i]'hi' :: bs.drop (i + 1)) ≤ 1000) = decide (n + ((bs[i]'hi').f0.length + stepsI (bs.drop (i + 1))) ≤ 1000) from rfl]
    have h1 := block_ev zs p v s bs (bs[i]'hi').f0 (bs[i]'hi').f1 (bs[i]'hi').f2 (bs[i]'hi').f3 (bs[i]'hi').f4 hs (by omega) (by omega) (by omega) (by omega)
    by_cases hg : n + (bs[i]'hi').f0.length > 1000
    · rw [decide_eq_false (show ¬ n + ((bs[i]'hi').f0.length + stepsI (bs.drop (i + 1))) ≤ 1000 by omega), Bool.and_false]
      exact Ev.step (f := fun _ => some false) (fun k => by rw [spec_GraphOk.l1, if_pos (by omega), if_pos (by omega), hr, wrap_ok (i := (n : Int) + _) (by omega) (by omega), if_pos (by omega)]) (Ev.now _)
    refine Ev.step (fun k => by rw [spec_GraphOk.l1, if_pos (by omega), if_pos (by omega), hr, wrap_ok (i := (n : Int) + _) (by omega) (by omega), if_neg (by omega)]) (Ev.bind h1 (f := fun k t => if t = true then spec_GraphOk.l1 k ((n : Int) + ((bs[i]'hi').f0.length : Int)) (wrap64 ((i : Int) + 1)) zs p v s bs else some false) ?_)
    cases hq : blockB (zs.length : Int) s (bs.length : Int) (bs[i]'hi').f0 (bs[i]'hi').f1 (bs[i]'hi').f2 (bs[i]'hi').f3 (bs[i]'hi').f4 with
    | false =>
      rw [show blkOk (zs.length : Int) s (bs.length : Int) (bs[i]'hi') = false from hq]
      exact Ev.ite_neg (by simp) (Ev.now _)
    | true =>
      rw [show blkOk (zs.length : Int) s (bs.length : Int) (bs[i]'hi') = true from hq, Bool.true_and, wrap_ok (i := (i : Int) + 1) (by omega) (by omega)]
      have h2 := ih (i + 1) (n + (bs[i]'hi').f0.length) (by omega) (by omega)
      rw [Nat.add_assoc] at h2
      rw [Int.natCast_add, Int.natCast_add] at h2
      exact Ev.ite_pos rfl h2
def restG (zs : List Int) (p v s : Int) (bs : List S47) : Bool :=
  inR (zs.length : Int) 1 4 && (inR v 0 20 && (inR p 0 6 && (!decide (p > v) && (inR s v 1000 && (inR (bs.length : Int) 1 300 && ((bs.all fun b => blkOk (zs.length : Int) s (bs.length : Int) b) && decide (stepsI bs ≤ 1000)))))))
theorem graph_l0 (zs : List Int) (p v s : Int) (bs : List S47) (hb : bs.length ≤ 1048576) (hz : zs.length ≤ 1048576) (hc : stepsI bs ≤ 1048576) (d : Nat) : ∀ i : Nat, i + d = zs.length →
    Ev (fun k => spec_GraphOk.l0 k (i : Int) zs p v s bs) (((zs.drop i).all fun n => inR n 1 16) && restG zs p v s bs) := by
  induction d with
  | zero =>
    intro i hi
    rw [List.drop_eq_nil_of_le (by omega)]
    have hno : Ev (fun k => spec_GraphOk.j1 k true zs p v s bs) false := Ev.step (f := fun _ => some false) (fun k => by rw [spec_GraphOk.j1, if_pos rfl]) (Ev.now _)
    refine Ev.step (fun k => by rw [spec_GraphOk.l0, if_neg (by omega)]) ?_
    rw [show (List.all ([] : List Int) fun n => inR n 1 16) = true from rfl, Bool.true_and]
    unfold restG
    refine Ev.const (in_some _ _ _) ?_
    cases h1 : inR (zs.length : Int) 1 4 with
    | false => exact Ev.ite_neg (by simp) hno
    | true =>
      refine Ev.ite_pos rfl (Ev.const (in_some _ _ _) ?_)
      cases h2 : inR v 0 20 with
      | false => exact Ev.ite_neg (by simp) hno
      | true =>
        refine Ev.ite_pos rfl (Ev.const (in_some _ _ _) ?_)
        cases h3 : inR p 0 6 with
        | false => exact Ev.ite_neg (by simp) hno
        | true =>
          refine Ev.ite_pos rfl ?_
          by_cases h4 : p > v
          · rw [decide_eq_true h4]
            exact Ev.ite_pos h4 hno
          rw [decide_eq_false h4]
          refine Ev.ite_neg h4 (Ev.const (in_some _ _ _) ?_)
          cases h5 : inR s v 1000 with
          | false => exact Ev.ite_neg (by simp) hno
          | true =>
            refine Ev.ite_pos rfl (Ev.const (in_some _ _ _) ?_)
            cases h6 : inR (bs.length : Int) 1 300 with
            | false => exact hno
            | true =>
              refine Ev.step (f := fun k => spec_GraphOk.l1 k 0 0 zs p v s bs) (fun k => by rw [spec_GraphOk.j1, if_neg (by simp)]) ?_
              have b1 : 0 ≤ v ∧ v ≤ 20 := by simpa [inR] using h2
              have b2 : v ≤ s ∧ s ≤ 1000 := by simpa [inR] using h5
              have h := graph_l1 zs p v s bs hb (by omega) (by omega) hz hc bs.length 0 0 (by omega) (by omega)
              rw [List.drop_zero] at h
              simpa using h
  | succ d ih =>
    intro i hi
    have hd : zs.drop i = zs[i]'(by omega) :: zs.drop (i + 1) := List.drop_eq_getElem_cons (by omega)
    have hr := rd_lt zs i (by omega)
    rw [hd, List.all_cons]
    refine Ev.step (fun k => by rw [spec_GraphOk.l0, if_pos (by omega), if_pos (by omega), hr]) (Ev.const (in_some _ _ _) (f := fun k t => if t = true then spec_GraphOk.l0 k (wrap64 ((i : Int) + 1)) zs p v s bs else some false) ?_)
    cases hq : inR (zs[i]'(by omega)) 1 16 with
    | false => exact Ev.ite_neg (by simp) (Ev.now _)
    | true =>
      rw [wrap_ok (i := (i : Int) + 1) (by omega) (by omega), Bool.true_and]
      exact Ev.ite_pos rfl (ih (i + 1) (by omega))
theorem GraphOk_ev (zs : List Int) (p v s : Int) (bs : List S47) (hb : bs.length ≤ 1048576) (hz : zs.length ≤ 1048576) (hc : stepsI bs ≤ 1048576) : Ev (fun k => spec_GraphOk.f k zs p v s bs) (okG zs p v s bs) := by
  have h := graph_l0 zs p v s bs hb hz hc zs.length 0 (by omega)
  rw [List.drop_zero] at h
  have e : ((zs.all fun n => inR n 1 16) && restG zs p v s bs) = okG zs p v s bs := by
    have e1 : (zs.any fun n => !inR n 1 16) = !(zs.all fun n => inR n 1 16) := List.not_all_eq_any_not.symm
    have e2 : (inR v 0 20 && (inR p 0 6 && !decide (p > v))) = (inR p 0 (if v < 6 then v else 6) && decide (v ≤ 20)) := by
      unfold inR
      rw [Bool.eq_iff_iff]
      simp only [Bool.and_eq_true, Bool.not_eq_true', decide_eq_true_eq, decide_eq_false_iff_not]
      split <;> omega
    unfold okG restG progB
    rw [e1, Bool.not_not, ← e2]
    simp only [Bool.and_assoc, Bool.and_left_comm, Bool.and_comm]
  rw [← e]
  exact h
end Go.Proofs.Ytcbpbnkoolpibaa.Ok
namespace Go.Proofs.Ytcbpbnkoolpibaa.Gr
open RowKit P YtcbpbnkoolpibaaW.wA YtcbpbnkoolpibaaW.wB Aux Ok
theorem Small.stepsI {zs : List Int} {bs : List S67} (h : Small zs bs) : stepsI (bs.map convB) ≤ 1048576 := by
  rw [stepsI_conv]
  exact h.steps
end Go.Proofs.Ytcbpbnkoolpibaa.Gr
namespace Go.Proofs.Ytcbpbnkoolpibaa.Gr
open RowKit P YtcbpbnkoolpibaaW.wA YtcbpbnkoolpibaaW.wB Aux
def nextL (b : S47) : List Int := if b.f1 = 0 then [b.f3] else if b.f1 = 1 then [b.f3, b.f4] else []
theorem next_s (b : S47) : spec_l05Next.f b.f0 b.f1 b.f2 b.f3 b.f4 = some (nextL b) := by
  unfold spec_l05Next.f nextL
  repeat' split
  all_goals rfl
theorem next_i (b : S47) : impl_nextOf.f b.f0 b.f1 b.f2 b.f3 b.f4 = some (nextL b) := by
  unfold impl_nextOf.f nextL
  repeat' split
  all_goals rfl
theorem nextL_length (b : S47) : (nextL b).length ≤ 2 := by
  unfold nextL
  repeat' split
  all_goals simp
theorem okG_next {zs : List Int} {p v s : Int} {bs : List S47} (h : Ok.okG zs p v s bs = true) : (∀ b ∈ bs, ∀ x ∈ nextL b, 0 ≤ x ∧ x < (bs.length : Int)) ∧ 0 < bs.length := by
  unfold Ok.okG at h
  simp only [Bool.and_eq_true] at h
  obtain ⟨_, _, hl, ha, _⟩ := h
  have hl2 : 1 ≤ (bs.length : Int) := by simp [inR] at hl; omega
  refine ⟨fun b hb x hx => ?_, by omega⟩
  have hk := List.all_eq_true.1 ha b hb
  unfold Ok.blkOk Ok.blockB at hk
  split at hk
  · exact absurd hk (by simp)
  split at hk
  · exact absurd hk (by simp)
  unfold nextL at hx
  by_cases h0 : b.f1 = 0
  · rw [if_pos h0] at hk hx
    simp [inR] at hk hx
    subst hx
    omega
  rw [if_neg h0] at hk hx
  by_cases h1 : b.f1 = 1
  · rw [if_pos h1] at hk hx
    simp [inR] at hk hx
    rcases hx with rfl | rfl <;> omega
  · rw [if_neg h1] at hx
    cases hx
end Go.Proofs.Ytcbpbnkoolpibaa.Gr
namespace Go.Proofs.Ytcbpbnkoolpibaa.Gr
open RowKit P YtcbpbnkoolpibaaW.wA Aux
def gb (X : List Bool) (s : Nat) : Bool := X.getD s false
theorem gb_set (X : List Bool) (i s : Nat) (v : Bool) : gb (X.set i v) s = if i = s ∧ s < X.length then v else gb X s := by
  unfold gb
  rw [List.getD_eq_getElem?_getD, List.getD_eq_getElem?_getD, List.getElem?_set]
  by_cases h : i = s
  · subst h
    by_cases h2 : i < X.length
    · simp [h2]
    · simp [h2]
  · simp [h]
def leB (X Y : List Bool) : Prop := X.length = Y.length ∧ ∀ s, gb X s = true → gb Y s = true
theorem leB.refl (X : List Bool) : leB X X := ⟨rfl, fun _ h => h⟩
theorem leB.trans {X Y Z : List Bool} (h : leB X Y) (h' : leB Y Z) : leB X Z := ⟨h.1.trans h'.1, fun s hs => h'.2 s (h.2 s hs)⟩
theorem leB.anti {X Y : List Bool} (h : leB X Y) (h' : leB Y X) : X = Y := by
  refine List.ext_getElem h.1 fun s h1 h2 => ?_
  have a := h.2 s
  have b := h'.2 s
  unfold gb at a b
  rw [List.getD_eq_getElem?_getD, List.getD_eq_getElem?_getD, List.getElem?_eq_getElem h1, List.getElem?_eq_getElem h2] at a b
  simp only [Option.getD_some] at a b
  cases hx : X[s] <;> cases hy : Y[s] <;> simp_all
theorem leB.set {X Y : List Bool} (h : leB X Y) (i : Nat) (v : Bool) : leB (X.set i v) (Y.set i v) := by
  refine ⟨by simpa using h.1, fun s hs => ?_⟩
  rw [gb_set] at hs ⊢
  rw [← h.1]
  split
  · rename_i hc
    rw [if_pos hc] at hs
    exact hs
  · rename_i hc
    rw [if_neg hc] at hs
    exact h.2 s hs
def usesB (l : List Int) (X : List Bool) : List Bool := l.foldl (fun X s => X.set s.toNat true) X
def backL (x : S57) (X : List Bool) : List Bool := usesB (usesL x) (if 0 ≤ makesV x then X.set (makesV x).toNat false else X)
def jumpL (b : S47) (X : List Bool) : List Bool := if b.f1 = 0 then X else X.set b.f2.toNat true
def codeL : List S57 → List Bool → List Bool
  | [], X => X
  | x :: xs, X => backL x (codeL xs X)
def trL (b : S47) (X : List Bool) : List Bool := codeL b.f0 (jumpL b X)
theorem usesB_len : ∀ (l : List Int) (X : List Bool), (usesB l X).length = X.length
  | [], X => rfl
  | s :: l, X => by
    show (usesB l (X.set s.toNat true)).length = _
    rw [usesB_len l, List.length_set]
theorem backL_len (x : S57) (X : List Bool) : (backL x X).length = X.length := by
  unfold backL
  rw [usesB_len]
  split
  · rw [List.length_set]
  · rfl
theorem jumpL_len (b : S47) (X : List Bool) : (jumpL b X).length = X.length := by
  unfold jumpL
  split
  · rfl
  · rw [List.length_set]
theorem codeL_len : ∀ (l : List S57) (X : List Bool), (codeL l X).length = X.length
  | [], X => rfl
  | x :: xs, X => by rw [codeL, backL_len, codeL_len xs]
theorem trL_len (b : S47) (X : List Bool) : (trL b X).length = X.length := by unfold trL; rw [codeL_len, jumpL_len]
theorem usesB_mono : ∀ (l : List Int) {X Y : List Bool}, leB X Y → leB (usesB l X) (usesB l Y)
  | [], X, Y, h => h
  | s :: l, X, Y, h => usesB_mono l (h.set s.toNat true)
theorem backL_mono (x : S57) {X Y : List Bool} (h : leB X Y) : leB (backL x X) (backL x Y) := by
  unfold backL
  refine usesB_mono _ ?_
  split
  · exact h.set _ _
  · exact h
theorem jumpL_mono (b : S47) {X Y : List Bool} (h : leB X Y) : leB (jumpL b X) (jumpL b Y) := by
  unfold jumpL
  split
  · exact h
  · exact h.set _ _
theorem codeL_mono : ∀ (l : List S57) {X Y : List Bool}, leB X Y → leB (codeL l X) (codeL l Y)
  | [], X, Y, h => h
  | x :: xs, X, Y, h => backL_mono x (codeL_mono xs h)
theorem trL_mono (b : S47) {X Y : List Bool} (h : leB X Y) : leB (trL b X) (trL b Y) := codeL_mono _ (jumpL_mono b h)
def orL (X Y : List Bool) : List Bool := List.zipWith (fun a b => a || b) X Y
theorem gb_lt {X : List Bool} {s : Nat} (h : gb X s = true) : s < X.length := by
  unfold gb at h
  rw [List.getD_eq_getElem?_getD] at h
  by_cases hs : s < X.length
  · exact hs
  · rw [List.getElem?_eq_none (by omega)] at h
    cases h
theorem orL_len {X Y : List Bool} (h : X.length = Y.length) : (orL X Y).length = X.length := by unfold orL; rw [List.length_zipWith, h, Nat.min_self]
theorem gb_or {X Y : List Bool} (h : X.length = Y.length) (s : Nat) : gb (orL X Y) s = (gb X s || gb Y s) := by
  unfold gb orL
  rw [List.getD_eq_getElem?_getD, List.getD_eq_getElem?_getD, List.getD_eq_getElem?_getD, List.getElem?_zipWith]
  by_cases hs : s < X.length
  · rw [List.getElem?_eq_getElem hs, List.getElem?_eq_getElem (by omega)]
    simp
  · rw [List.getElem?_eq_none (by omega), List.getElem?_eq_none (by omega)]
    rfl
theorem orL_le {X Y Z : List Bool} (h : leB X Z) (h' : leB Y Z) : leB (orL X Y) Z := by
  refine ⟨(orL_len (h.1.trans h'.1.symm)).trans h.1, fun s hs => ?_⟩
  rw [gb_or (h.1.trans h'.1.symm), Bool.or_eq_true] at hs
  exact hs.elim (h.2 s) (h'.2 s)
theorem le_orL {X Y : List Bool} (h : X.length = Y.length) : leB X (orL X Y) := ⟨(orL_len h).symm, fun s hs => by rw [gb_or h, hs]; rfl⟩
theorem le_orR {X Y : List Bool} (h : X.length = Y.length) : leB Y (orL X Y) := ⟨by rw [orL_len h, h], fun s hs => by rw [gb_or h, hs, Bool.or_true]⟩
theorem cnt_le : ∀ {X Y : List Bool}, leB X Y → X.count true ≤ Y.count true
  | [], [], _ => Nat.le_refl _
  | [], _ :: _, h => by have := h.1; simp at this
  | _ :: _, [], h => by have := h.1; simp at this
  | x :: X, y :: Y, h => by
    have ih := cnt_le (X := X) (Y := Y) ⟨by simpa using h.1, fun s hs => by have := h.2 (s + 1); simpa [gb] using this (by simpa [gb] using hs)⟩
    have h0 := h.2 0
    simp only [gb, List.getD_cons_zero] at h0
    rw [List.count_cons, List.count_cons]
    cases x <;> cases y <;> simp_all <;> omega
theorem cnt_lt : ∀ {X Y : List Bool}, leB X Y → X ≠ Y → X.count true < Y.count true
  | [], [], _, hne => absurd rfl hne
  | [], _ :: _, h, _ => by have := h.1; simp at this
  | _ :: _, [], h, _ => by have := h.1; simp at this
  | x :: X, y :: Y, h, hne => by
    have h2 : leB X Y := ⟨by simpa using h.1, fun s hs => by have := h.2 (s + 1); simpa [gb] using this (by simpa [gb] using hs)⟩
    have hc := cnt_le h2
    have h0 := h.2 0
    simp only [gb, List.getD_cons_zero] at h0
    rw [List.count_cons, List.count_cons]
    by_cases e : X = Y
    · subst e
      cases x <;> cases y <;> simp_all
    · have := cnt_lt h2 e
      cases x <;> cases y <;> simp_all <;> omega
def Shp (n S : Nat) (M : List (List Bool)) : Prop := M.length = n ∧ ∀ i, i < n → (M.getD i []).length = S
def row (M : List (List Bool)) (i : Nat) : List Bool := M.getD i []
theorem row_set (M : List (List Bool)) (i j : Nat) (X : List Bool) : row (M.set i X) j = if i = j ∧ j < M.length then X else row M j := by
  unfold row
  rw [List.getD_eq_getElem?_getD, List.getD_eq_getElem?_getD, List.getElem?_set]
  by_cases h : i = j
  · subst h
    by_cases h2 : i < M.length
    · simp [h2]
    · simp [h2]
  · simp [h]
theorem Shp.set {n S : Nat} {M : List (List Bool)} (h : Shp n S M) {i : Nat} {X : List Bool} (hX : X.length = S) : Shp n S (M.set i X) := by
  refine ⟨by rw [List.length_set]; exact h.1, fun j hj => ?_⟩
  have := row_set M i j X
  unfold row at this
  rw [this]
  split
  · exact hX
  · exact h.2 j hj
def leM (n : Nat) (M P : List (List Bool)) : Prop := ∀ i, i < n → leB (row M i) (row P i)
theorem leM.anti {n S : Nat} {M P : List (List Bool)} (hM : Shp n S M) (hP : Shp n S P) (h : leM n M P) (h' : leM n P M) : M = P := by
  refine List.ext_getElem (hM.1.trans hP.1.symm) fun i h1 h2 => ?_
  have := (h i (by have := hM.1; omega)).anti (h' i (by have := hM.1; omega))
  unfold row at this
  rw [List.getD_eq_getElem?_getD, List.getD_eq_getElem?_getD, List.getElem?_eq_getElem h1, List.getElem?_eq_getElem h2] at this
  simpa using this
def cntM (M : List (List Bool)) : Nat := (M.map fun X => X.count true).sum
theorem cntM_set : ∀ (M : List (List Bool)) (i : Nat) (X : List Bool), i < M.length → cntM (M.set i X) + (row M i).count true = cntM M + X.count true
  | [], i, X, h => by simp at h
  | Y :: M, 0, X, h => by simp only [List.set_cons_zero, cntM, List.map_cons, List.sum_cons, row, List.getD_cons_zero]; omega
  | Y :: M, i + 1, X, h => by
    have := cntM_set M i X (by simpa using h)
    simp only [List.set_cons_succ, cntM, List.map_cons, List.sum_cons, row, List.getD_cons_succ] at this ⊢
    omega
theorem cntM_le : ∀ (M : List (List Bool)) (S : Nat), (∀ X ∈ M, X.length = S) → cntM M ≤ M.length * S
  | [], S, _ => by simp [cntM]
  | X :: M, S, h => by
    have := cntM_le M S fun Y hY => h Y (by simp [hY])
    have h1 := h X (by simp)
    have h2 : X.count true ≤ X.length := List.count_le_length
    have h3 : cntM (X :: M) = X.count true + cntM M := by simp [cntM]
    rw [h3, List.length_cons, Nat.add_mul, Nat.one_mul]
    omega
def Sol (bs : List S47) (nx : Nat → List Nat) (S : Nat) (P : List (List Bool)) : Prop := Shp bs.length S P ∧ ∀ i, i < bs.length → ∀ tq ∈ nx i, leB (trL (bs.getD tq z47) (row P tq)) (row P i)
def Least (bs : List S47) (nx : Nat → List Nat) (S : Nat) (R : List (List Bool)) : Prop := Sol bs nx S R ∧ ∀ P, Sol bs nx S P → leM bs.length R P
theorem Least.one {bs : List S47} {nx : Nat → List Nat} {S : Nat} {R Q : List (List Bool)} (h : Least bs nx S R) (h' : Least bs nx S Q) : R = Q := leM.anti h.1.1 h'.1.1 (h.2 Q h'.1) (h'.2 R h.1)
def nxs (bs : List S47) (i : Nat) : List Nat := (nextL (bs.getD i z47)).map Int.toNat
def joinI (A : List (List Bool)) (X : List Bool) (l : List Nat) : List Bool := l.foldl (fun X tq => orL X (row A tq)) X
theorem joinI_len {n S : Nat} {A : List (List Bool)} (hA : Shp n S A) : ∀ (l : List Nat) (X : List Bool), X.length = S → (∀ tq ∈ l, tq < n) → (joinI A X l).length = S
  | [], X, h, _ => h
  | tq :: l, X, h, hl => joinI_len hA l (orL X (row A tq)) ((orL_len (show X.length = (row A tq).length from h.trans (hA.2 tq (hl tq (by simp))).symm)).trans h) fun t ht => hl t (by simp [ht])
theorem joinI_up {n S : Nat} {A : List (List Bool)} (hA : Shp n S A) : ∀ (l : List Nat) (X : List Bool), X.length = S → (∀ tq ∈ l, tq < n) → leB X (joinI A X l) ∧ ∀ tq ∈ l, leB (row A tq) (joinI A X l)
  | [], X, h, _ => ⟨leB.refl X, fun _ ht => by cases ht⟩
  | tq :: l, X, h, hl => by
    have ht := hA.2 tq (hl tq (by simp))
    have he : X.length = (row A tq).length := h.trans ht.symm
    obtain ⟨h1, h2⟩ := joinI_up hA l (orL X (row A tq)) ((orL_len he).trans h) fun t ht => hl t (by simp [ht])
    refine ⟨(le_orL he).trans h1, fun t hm => ?_⟩
    rcases List.mem_cons.1 hm with rfl | hm
    · exact (le_orR he).trans h1
    · exact h2 t hm
theorem joinI_le {n S : Nat} {A : List (List Bool)} (hA : Shp n S A) {Z : List Bool} : ∀ (l : List Nat) (X : List Bool), (∀ tq ∈ l, tq < n) → leB X Z → (∀ tq ∈ l, leB (row A tq) Z) → leB (joinI A X l) Z
  | [], X, _, h, _ => h
  | tq :: l, X, hl, h, hz => joinI_le hA l _ (fun t ht => hl t (by simp [ht])) (orL_le h (hz tq (by simp))) fun t ht => hz t (by simp [ht])
abbrev StI := List (List Bool) × List (List Bool) × Bool
def stepI (bs : List S47) (i : Nat) (s : StI) : StI :=
  (s.1.set i (joinI s.2.1 (row s.1 i) (nxs bs i)), s.2.1.set i (trL (bs.getD i z47) (joinI s.2.1 (row s.1 i) (nxs bs i))), s.2.2 || decide (trL (bs.getD i z47) (joinI s.2.1 (row s.1 i) (nxs bs i)) ≠ row s.2.1 i))
def roundI (bs : List S47) : Nat → StI → StI
  | 0, s => s
  | m + 1, s => roundI bs m (stepI bs m s)
def liveI (bs : List S47) : Nat → List (List Bool) × List (List Bool) → Option (List (List Bool))
  | 0, _ => none
  | k + 1, s => if (roundI bs bs.length (s.1, s.2, false)).2.2 = true then liveI bs k ((roundI bs bs.length (s.1, s.2, false)).1, (roundI bs bs.length (s.1, s.2, false)).2.1) else some (roundI bs bs.length (s.1, s.2, false)).1
theorem liveI_mono (bs : List S47) : ∀ (k : Nat) (s : List (List Bool) × List (List Bool)) (R : List (List Bool)), liveI bs k s = some R → liveI bs (k + 1) s = some R
  | 0, s, R, h => by cases h
  | k + 1, s, R, h => by
    rw [liveI] at h ⊢
    split
    · rename_i hc
      rw [if_pos hc] at h
      exact liveI_mono bs k _ R h
    · rename_i hc
      rw [if_neg hc] at h
      exact h
theorem shp_cnt {n S : Nat} {M : List (List Bool)} (h : Shp n S M) : cntM M ≤ n * S := by
  have := cntM_le M S fun X hX => by
    obtain ⟨i, hi, rfl⟩ := List.getElem_of_mem hX
    have h2 := h.2 i (by have := h.1; omega)
    rw [List.getD_eq_getElem?_getD, List.getElem?_eq_getElem hi] at h2
    exact h2
  rw [h.1] at this
  exact this
section
variable {bs : List S47} {S : Nat} (hn : ∀ i, i < bs.length → ∀ tq ∈ nxs bs i, tq < bs.length)
def InvI (bs : List S47) (S : Nat) (s : StI) : Prop := Shp bs.length S s.1 ∧ Shp bs.length S s.2.1 ∧ (∀ P, Sol bs (nxs bs) S P → leM bs.length s.1 P) ∧ ∀ i, i < bs.length → leB (row s.2.1 i) (trL (bs.getD i z47) (row s.1 i))
include hn
theorem stepI_inv {i : Nat} (hi : i < bs.length) {s : StI} (h : InvI bs S s) : InvI bs S (stepI bs i s) ∧ leM bs.length s.2.1 (stepI bs i s).2.1 ∧ ((stepI bs i s).2.2 = false → s.2.2 = false ∧ (stepI bs i s).2.1 = s.2.1) ∧ (s.2.2 = false → (stepI bs i s).2.2 = true → cntM s.2.1 < cntM (stepI bs i s).2.1) ∧ cntM s.2.1 ≤ cntM (stepI bs i s).2.1 := by
  obtain ⟨B, A, g⟩ := s
  obtain ⟨hB, hA, hP, hAB⟩ := h
  dsimp only at hB hA hP hAB
  have hX := joinI_len hA (nxs bs i) (row B i) (hB.2 i hi) (hn i hi)
  obtain ⟨u1, u2⟩ := joinI_up hA (nxs bs i) (row B i) (hB.2 i hi) (hn i hi)
  unfold stepI
  dsimp only
  generalize hXe : joinI A (row B i) (nxs bs i) = X at hX u1 u2
  have hY : (trL (bs.getD i z47) X).length = S := (trL_len _ _).trans hX
  have hup : leB (row A i) (trL (bs.getD i z47) X) := (hAB i hi).trans (trL_mono _ u1)
  have hc := cntM_set A i (trL (bs.getD i z47) X) (by have := hA.1; omega)
  refine ⟨⟨hB.set hX, hA.set hY, fun P hSol j hj => ?_, fun j hj => ?_⟩, fun j hj => ?_, fun hg => ?_, fun h1 h2 => ?_, ?_⟩
  · rw [row_set]
    split
    · rename_i e
      obtain ⟨rfl, _⟩ := e
      rw [← hXe]
      exact joinI_le hA _ _ (hn i hi) (hP P hSol i hi) fun tq ht => ((hAB tq (hn i hi tq ht)).trans (trL_mono _ (hP P hSol tq (hn i hi tq ht)))).trans (hSol.2 i hi tq ht)
    · exact hP P hSol j hj
  · rw [row_set, row_set]
    by_cases e : i = j
    · subst e
      rw [if_pos ⟨rfl, by have := hA.1; omega⟩, if_pos ⟨rfl, by have := hB.1; omega⟩]
      exact leB.refl _
    · rw [if_neg (fun h => e h.1), if_neg (fun h => e h.1)]
      exact hAB j hj
  · show leB (row A j) (row (A.set i _) j)
    rw [row_set]
    split
    · rename_i e
      obtain ⟨rfl, _⟩ := e
      exact hup
    · exact leB.refl _
  · rw [Bool.or_eq_false_iff, decide_eq_false_iff_not, Classical.not_not] at hg
    refine ⟨hg.1, ?_⟩
    show A.set i _ = A
    rw [hg.2]
    have hia : i < A.length := by have := hA.1; omega
    refine List.ext_getElem (by simp) fun j h1 h2 => ?_
    rw [List.getElem_set]
    split
    · rename_i e
      subst e
      simp [row, List.getD_eq_getElem?_getD, List.getElem?_eq_getElem h2]
    · rfl
  · rw [h1, Bool.false_or, decide_eq_true_eq] at h2
    have := cnt_lt hup (fun e => h2 e.symm)
    show cntM A < cntM (A.set i _)
    omega
  · have := cnt_le hup
    show cntM A ≤ cntM (A.set i _)
    omega
theorem roundI_inv : ∀ (m : Nat), m ≤ bs.length → ∀ (s : StI), InvI bs S s → InvI bs S (roundI bs m s) ∧ cntM s.2.1 ≤ cntM (roundI bs m s).2.1 ∧ (s.2.2 = false → (roundI bs m s).2.2 = true → cntM s.2.1 < cntM (roundI bs m s).2.1) ∧
    ((roundI bs m s).2.2 = false → s.2.2 = false ∧ (roundI bs m s).2.1 = s.2.1 ∧ (∀ j, m ≤ j → row (roundI bs m s).1 j = row s.1 j) ∧ ∀ i, i < m → (∀ tq ∈ nxs bs i, leB (row s.2.1 tq) (row (roundI bs m s).1 i)) ∧ row s.2.1 i = trL (bs.getD i z47) (row (roundI bs m s).1 i))
  | 0, _, s, h => ⟨h, Nat.le_refl _, fun h1 h2 => (by change s.2.2 = true at h2; rw [h1] at h2; cases h2), fun h => ⟨h, rfl, fun _ _ => rfl, fun i hi => absurd hi (Nat.not_lt_zero _)⟩⟩
  | m + 1, hm, s, h => by
    obtain ⟨a1, a2, a3, a4, a5⟩ := stepI_inv hn (i := m) (by omega) h
    obtain ⟨b1, b2, b3, b4⟩ := roundI_inv m (by omega) (stepI bs m s) a1
    rw [roundI]
    refine ⟨b1, by omega, fun h1 h2 => ?_, fun h1 => ?_⟩
    · cases e : (stepI bs m s).2.2 with
      | true =>
        have := a4 h1 e
        omega
      | false =>
        have := b3 e h2
        omega
    · obtain ⟨c1, c2, c3, c4⟩ := b4 h1
      obtain ⟨d1, d2⟩ := a3 c1
      rw [d2] at c2
      have hrow : row (roundI bs m (stepI bs m s)).1 m = joinI s.2.1 (row s.1 m) (nxs bs m) := by
        rw [c3 m (Nat.le_refl _)]
        show row (s.1.set m _) m = _
        rw [row_set, if_pos ⟨rfl, by have := h.1.1; omega⟩]
      refine ⟨d1, c2, fun j hj => ?_, fun i hi => ?_⟩
      · rw [c3 j (by omega)]
        show row (s.1.set m _) j = _
        rw [row_set, if_neg (by omega)]
      · by_cases e : i = m
        · subst e
          rw [hrow]
          refine ⟨(joinI_up h.2.1 (nxs bs i) (row s.1 i) (h.1.2 i (by omega)) (hn i (by omega))).2, ?_⟩
          have hd : row (stepI bs i s).2.1 i = row s.2.1 i := by rw [d2]
          rw [← hd]
          show row (s.2.1.set i _) i = _
          rw [row_set, if_pos ⟨rfl, by have := h.2.1.1; omega⟩]
        · have := c4 i (by omega)
          rw [d2] at this
          exact this
theorem liveI_ends (s : List (List Bool) × List (List Bool)) (h : InvI bs S (s.1, s.2, false)) : ∃ k R, liveI bs k s = some R ∧ Least bs (nxs bs) S R := by
  have key : ∀ (d : Nat) (s : List (List Bool) × List (List Bool)), InvI bs S (s.1, s.2, false) → bs.length * S - cntM s.2 ≤ d → ∃ k R, liveI bs k s = some R ∧ Least bs (nxs bs) S R := by
    intro d
    induction d with
    | zero =>
      intro s h hd
      obtain ⟨b1, b2, b3, b4⟩ := roundI_inv hn bs.length (Nat.le_refl _) (s.1, s.2, false) h
      have hc := shp_cnt b1.2.1
      have hf : (roundI bs bs.length (s.1, s.2, false)).2.2 = false := by
        cases e : (roundI bs bs.length (s.1, s.2, false)).2.2 with
        | false => rfl
        | true =>
          have h5 := b3 rfl e
          dsimp only at h5
          omega
      obtain ⟨c1, c2, c3, c4⟩ := b4 hf
      refine ⟨1, _, by rw [liveI, if_neg (by rw [hf]; simp)], ⟨b1.1, fun i hi tq ht => ?_⟩, b1.2.2.1⟩
      rw [← (c4 tq (hn i hi tq ht)).2]
      exact (c4 i hi).1 tq ht
    | succ d ih =>
      intro s h hd
      obtain ⟨b1, b2, b3, b4⟩ := roundI_inv hn bs.length (Nat.le_refl _) (s.1, s.2, false) h
      cases e : (roundI bs bs.length (s.1, s.2, false)).2.2 with
      | true =>
        have := b3 rfl e
        have hinv : InvI bs S ((roundI bs bs.length (s.1, s.2, false)).1, (roundI bs bs.length (s.1, s.2, false)).2.1, false) := b1
        obtain ⟨k, R, h1, h2⟩ := ih ((roundI bs bs.length (s.1, s.2, false)).1, (roundI bs bs.length (s.1, s.2, false)).2.1) hinv (by dsimp only at *; omega)
        exact ⟨k + 1, R, by rw [liveI, if_pos e]; exact h1, h2⟩
      | false =>
        obtain ⟨c1, c2, c3, c4⟩ := b4 e
        refine ⟨1, _, by rw [liveI, if_neg (by rw [e]; simp)], ⟨b1.1, fun i hi tq ht => ?_⟩, b1.2.2.1⟩
        rw [← (c4 tq (hn i hi tq ht)).2]
        exact (c4 i hi).1 tq ht
  exact key _ s h (Nat.le_refl _)
end
abbrev StS := List (List Bool) × Bool
def stepS (bs : List S47) (i tq : Nat) (s : StS) : StS := (s.1.set i (orL (row s.1 i) (trL (bs.getD tq z47) (row s.1 tq))), s.2 || decide (orL (row s.1 i) (trL (bs.getD tq z47) (row s.1 tq)) ≠ row s.1 i))
def nextS (bs : List S47) (i : Nat) (l : List Nat) (s : StS) : StS := l.foldl (fun s tq => stepS bs i tq s) s
def roundS (bs : List S47) : Nat → StS → StS
  | 0, s => s
  | m + 1, s => roundS bs m (nextS bs m (nxs bs m) s)
section
variable {bs : List S47} {S : Nat} (hn : ∀ i, i < bs.length → ∀ tq ∈ nxs bs i, tq < bs.length)
def InvS (bs : List S47) (S : Nat) (M : List (List Bool)) : Prop := Shp bs.length S M ∧ ∀ P, Sol bs (nxs bs) S P → leM bs.length M P
theorem set_row {M : List (List Bool)} {i : Nat} : M.set i (row M i) = M := by
  refine List.ext_getElem (by simp) fun j h1 h2 => ?_
  rw [List.getElem_set]
  split
  · rename_i e
    subst e
    simp [row, List.getD_eq_getElem?_getD, List.getElem?_eq_getElem h2]
  · rfl
theorem stepS_inv {i tq : Nat} (hi : i < bs.length) (ht : tq < bs.length) (hm : tq ∈ nxs bs i) {s : StS} (h : InvS bs S s.1) : InvS bs S (stepS bs i tq s).1 ∧ cntM s.1 ≤ cntM (stepS bs i tq s).1 ∧ (s.2 = false → (stepS bs i tq s).2 = true → cntM s.1 < cntM (stepS bs i tq s).1) ∧
    ((stepS bs i tq s).2 = false → s.2 = false ∧ (stepS bs i tq s).1 = s.1 ∧ leB (trL (bs.getD tq z47) (row s.1 tq)) (row s.1 i)) := by
  obtain ⟨M, g⟩ := s
  obtain ⟨hM, hP⟩ := h
  dsimp only at hM hP
  have hl : (row M i).length = (trL (bs.getD tq z47) (row M tq)).length := (hM.2 i hi).trans ((trL_len _ _).trans (hM.2 tq ht)).symm
  unfold stepS
  dsimp only
  have u1 := le_orL hl
  have u2 := le_orR hl
  have hX : (orL (row M i) (trL (bs.getD tq z47) (row M tq))).length = S := (orL_len hl).trans (hM.2 i hi)
  have hc := cntM_set M i (orL (row M i) (trL (bs.getD tq z47) (row M tq))) (by have := hM.1; omega)
  have hle := cnt_le u1
  refine ⟨⟨hM.set hX, fun P hSol j hj => ?_⟩, by omega, fun h1 h2 => ?_, fun hg => ?_⟩
  · rw [row_set]
    split
    · rename_i e
      obtain ⟨rfl, _⟩ := e
      exact orL_le (hP P hSol i hi) ((trL_mono _ (hP P hSol tq ht)).trans (hSol.2 i hi tq hm))
    · exact hP P hSol j hj
  · rw [h1, Bool.false_or, decide_eq_true_eq] at h2
    have := cnt_lt u1 (fun e => h2 e.symm)
    omega
  · rw [Bool.or_eq_false_iff, decide_eq_false_iff_not, Classical.not_not] at hg
    refine ⟨hg.1, by rw [hg.2]; exact set_row, ?_⟩
    rw [hg.2] at u2
    exact u2
theorem nextS_inv {i : Nat} (hi : i < bs.length) : ∀ (l : List Nat), (∀ tq ∈ l, tq < bs.length ∧ tq ∈ nxs bs i) → ∀ (s : StS), InvS bs S s.1 → InvS bs S (nextS bs i l s).1 ∧ cntM s.1 ≤ cntM (nextS bs i l s).1 ∧ (s.2 = false → (nextS bs i l s).2 = true → cntM s.1 < cntM (nextS bs i l s).1) ∧
    ((nextS bs i l s).2 = false → s.2 = false ∧ (nextS bs i l s).1 = s.1 ∧ ∀ tq ∈ l, leB (trL (bs.getD tq z47) (row s.1 tq)) (row s.1 i))
  | [], _, s, h => ⟨h, Nat.le_refl _, fun h1 h2 => (by change s.2 = true at h2; rw [h1] at h2; cases h2), fun h => ⟨h, rfl, fun _ ht => by cases ht⟩⟩
  | tq :: l, hl, s, h => by
    obtain ⟨ht1, ht2⟩ := hl tq (by simp)
    obtain ⟨a1, a2, a3, a4⟩ := stepS_inv hi ht1 ht2 h
    obtain ⟨b1, b2, b3, b4⟩ := nextS_inv hi l (fun t ht => hl t (by simp [ht])) (stepS bs i tq s) a1
    have e0 : nextS bs i (tq :: l) s = nextS bs i l (stepS bs i tq s) := rfl
    rw [e0]
    refine ⟨b1, by omega, fun h1 h2 => ?_, fun h1 => ?_⟩
    · cases e : (stepS bs i tq s).2 with
      | true =>
        have := a3 h1 e
        omega
      | false =>
        have := b3 e h2
        omega
    · obtain ⟨c1, c2, c3⟩ := b4 h1
      obtain ⟨d1, d2, d3⟩ := a4 c1
      rw [d2] at c2 c3
      refine ⟨d1, c2, fun t ht => ?_⟩
      rcases List.mem_cons.1 ht with rfl | ht
      · exact d3
      · exact c3 t ht
include hn
theorem roundS_inv : ∀ (m : Nat), m ≤ bs.length → ∀ (s : StS), InvS bs S s.1 → InvS bs S (roundS bs m s).1 ∧ cntM s.1 ≤ cntM (roundS bs m s).1 ∧ (s.2 = false → (roundS bs m s).2 = true → cntM s.1 < cntM (roundS bs m s).1) ∧
    ((roundS bs m s).2 = false → s.2 = false ∧ (roundS bs m s).1 = s.1 ∧ ∀ i, i < m → ∀ tq ∈ nxs bs i, leB (trL (bs.getD tq z47) (row s.1 tq)) (row s.1 i))
  | 0, _, s, h => ⟨h, Nat.le_refl _, fun h1 h2 => (by change s.2 = true at h2; rw [h1] at h2; cases h2), fun h => ⟨h, rfl, fun i hi => absurd hi (Nat.not_lt_zero _)⟩⟩
  | m + 1, hm, s, h => by
    obtain ⟨a1, a2, a3, a4⟩ := nextS_inv (i := m) (by omega) (nxs bs m) (fun t ht => ⟨hn m (by omega) t ht, ht⟩) s h
    obtain ⟨b1, b2, b3, b4⟩ := roundS_inv m (by omega) (nextS bs m (nxs bs m) s) a1
    rw [roundS]
    refine ⟨b1, by omega, fun h1 h2 => ?_, fun h1 => ?_⟩
    · cases e : (nextS bs m (nxs bs m) s).2 with
      | true =>
        have := a3 h1 e
        omega
      | false =>
        have := b3 e h2
        omega
    · obtain ⟨c1, c2, c3⟩ := b4 h1
      obtain ⟨d1, d2, d3⟩ := a4 c1
      rw [d2] at c2 c3
      refine ⟨d1, c2, fun i hi => ?_⟩
      by_cases e : i = m
      · subst e
        exact d3
      · exact c3 i (by omega)
end
end Go.Proofs.Ytcbpbnkoolpibaa.Gr
namespace Go.Proofs.Ytcbpbnkoolpibaa.Gr
open RowKit P YtcbpbnkoolpibaaW.wA YtcbpbnkoolpibaaW.wB YtcbpbnkoolpibaaW.wC Aux
abbrev dd : Kd (List Bool) := Kd.slice 4 Kd.bool
theorem getD_row (M : List (List Bool)) (i : Nat) : M.getD i ([] : List Bool) = row M i := rfl
theorem rr_get {W : World} {base g n c : Nat} {ok : Nat → Prop} {M : List (List Bool)} (h : Kd.S dd 54 W base ok (.slice (some ⟨g, 0, none⟩) n c) M) (i : Nat) (hi : i < n) :
    ∃ Ai ci, W.cell? ⟨g, i, none⟩ = some (.slice Ai (row M i).length ci) ∧ W.frozen? ⟨g, i, none⟩ = false ∧ (row M i).length ≤ ci ∧ Kd.C Kd.bool W Ai (row M i).length (row M i) := by
  obtain ⟨oki, cs, hcl, hM, hcc, hfr, hoki, hH⟩ := Kd.S_elem h [] (i : Int) (by omega) (by omega)
  obtain ⟨v, rfl, hR⟩ := hM
  rw [Int.toNat_natCast, getD_row] at hR
  obtain ⟨Ai, ci, rfl⟩ := Kd.R_slice hR
  have h0 := hcc 0 _ rfl
  have h1 := hfr 0
  rw [Int.toNat_natCast, Nat.add_zero, show dd.sz = 1 from rfl, Nat.mul_one] at h0 h1
  obtain ⟨_, h3, h4⟩ := Kd.R_reads' hR
  exact ⟨Ai, ci, h0, h1, h3, h4⟩
theorem rr_put {W : World} {base g n c : Nat} {ok : Nat → Prop} {M : List (List Bool)} (h : Kd.S dd 54 W base ok (.slice (some ⟨g, 0, none⟩) n c) M) (i : Nat) (hi : i < n) {Ai : Option Addr} {m ci : Nat} (hc : W.cell? ⟨g, i, none⟩ = some (.slice Ai m ci)) (s : Nat) (hs : s < (row M i).length) (v : Bool) :
    ∃ q, Ai = some ⟨q, 0, none⟩ ∧ ok q ∧ q ≠ g ∧ base ≤ q ∧ (∃ cs, W.heap[q]? = some (.cells cs 4 (0, 0))) ∧ W.cell? ⟨q, s, none⟩ = some (.bool (gb (row M i) s)) ∧ W.frozen? ⟨q, s, none⟩ = false ∧
      Kd.S dd 54 (W.setCell ⟨q, s, none⟩ (.bool v)) base ok (.slice (some ⟨g, 0, none⟩) n c) (M.set i ((row M i).set s v)) := by
  obtain ⟨oki, cs, hcl, hM, hcc, hoki, hbk⟩ := Kd.S_borrow h [] (i : Int) (by omega) (by omega)
  obtain ⟨vv, rfl, hR⟩ := hM
  rw [Int.toNat_natCast, getD_row] at hR
  have h0 := hcc 0 _ rfl
  rw [Int.toNat_natCast, Nat.add_zero, show dd.sz = 1 from rfl, Nat.mul_one, add_plain] at h0
  rw [hc] at h0
  obtain rfl := Option.some.inj h0
  obtain ⟨q, cq, eq, hb, hlt, cells, hcells⟩ := Kd.R_form hR (by omega)
  injection eq with eq em ec
  subst eq em ec
  have hq : oki q := hR.1 q rfl
  obtain ⟨h1, h2⟩ := Kd.R_celln false hR (s : Int) (by omega) (by omega)
  have hP := Kd.R_putg hR (s : Int) v
  rw [Int.toNat_natCast] at h1 h2 hP
  refine ⟨q, rfl, (hoki q hq).1, fun e => (hoki q hq).2 (by rw [e]; rfl), hb, ⟨cells, hcells⟩, ?_, h2, ?_⟩
  · rw [h1]
    unfold gb rdOf
    rw [Int.toNat_natCast]
  · have h5 := hbk (x' := (row M i).set s v) hP.2 (fun k hk => by injection hk with hk; subst hk; exact hq) (Kd.M_row hP.1)
    rw [Int.toNat_natCast] at h5
    exact h5
theorem rr_row {W : World} {base g n c : Nat} {ok okg : Nat → Prop} {M : List (List Bool)} (h : Kd.S dd 54 W base (fun k => ok k ∧ ¬ okg k) (.slice (some ⟨g, 0, none⟩) n c) M) (i : Nat) (hi : i < n) {v : Value} {X : List Bool} (hR : Kd.R Kd.bool 4 W base okg v X) (hg : ∀ k, okg k → ok k) (hgg : ∀ k, okg k → k ≠ g) :
    Kd.S dd 54 (W.setCell ⟨g, i, none⟩ v) base ok (.slice (some ⟨g, 0, none⟩) n c) (M.set i X) := by
  obtain ⟨oki, cs, hcl, hM, hcc, hfr, hoki, hH⟩ := Kd.S_elem h [] (i : Int) (by omega) (by omega)
  obtain ⟨vv, rfl, hR2⟩ := hM
  have h5 := (Kd.S_seg (okp := okg) hH (by omega) (by omega) (seg := [v]) (j := 0) (by show 0 + 1 ≤ 1; omega) (x' := X) (Kd.M_row hR) (fun k hk => .inr hk) (fun k hk => ⟨hg k hk, hgg k hk⟩)).1
  rw [Int.toNat_natCast, Nat.add_zero, show dd.sz = 1 from rfl, Nat.mul_one] at h5
  exact h5
def Two (w : World) (N : Nat) (wr : World) (vB vA : Value) (B A : List (List Bool)) : Prop :=
  ∃ P : Nat → Prop, (∀ k, P k → k < N) ∧ Kd.S dd 54 wr w.heap.size P vB B ∧ Kd.S dd 54 wr w.heap.size (fun k => ¬ P k ∧ k < N) vA A
theorem Two.swap {w wr : World} {N : Nat} {vB vA : Value} {B A : List (List Bool)} (h : Two w N wr vB vA B A) : Two w N wr vA vB A B := by
  obtain ⟨P, h1, h2, h3⟩ := h
  exact ⟨fun k => ¬ P k ∧ k < N, fun k hk => hk.2, h3, Kd.S_mono h2 fun k hk => ⟨fun h => h.1 hk, h1 k hk⟩⟩
theorem Two.step {w wr w1 : World} {N : Nat} {vB vA : Value} {B A : List (List Bool)} (h : Two w N wr vB vA B A) (hm : ∀ k, k < N → k < wr.heap.size → w1.heap[k]? = wr.heap[k]?) : Two w N w1 vB vA B A := by
  obtain ⟨P, h1, h2, h3⟩ := h
  exact ⟨P, h1, Kd.S_step h2 fun k hk hl => hm k (h1 k hk) hl, Kd.S_step h3 fun k hk hl => hm k hk.2 hl⟩
theorem Two.below {w wr w1 : World} {N : Nat} {vB vA : Value} {B A : List (List Bool)} (h : Two w N wr vB vA B A) (hb : Below wr.heap.size wr w1) : Two w N w1 vB vA B A := h.step fun k _ hl => hb.block k hl
theorem Two.raise {w wr : World} {N N' : Nat} {vB vA : Value} {B A : List (List Bool)} (h : Two w N wr vB vA B A) (hn : N ≤ N') : Two w N' wr vB vA B A := by
  obtain ⟨P, h1, h2, h3⟩ := h
  exact ⟨P, fun k hk => Nat.lt_of_lt_of_le (h1 k hk) hn, h2, Kd.S_mono h3 fun k hk => ⟨hk.1, Nat.lt_of_lt_of_le hk.2 hn⟩⟩
theorem Two.len {w wr : World} {N : Nat} {B A : List (List Bool)} {AB AA : Option Addr} {n c m c' : Nat} (h : Two w N wr (.slice AB n c) (.slice AA m c') B A) : n = B.length ∧ m = A.length := by
  obtain ⟨P, h1, h2, h3⟩ := h
  exact ⟨(Kd.S_reads' h2).1, (Kd.S_reads' h3).1⟩
theorem Two.form {w wr : World} {N : Nat} {vB vA : Value} {B A : List (List Bool)} (h : Two w N wr vB vA B A) (hp : 0 < B.length) : ∃ g c, vB = .slice (some ⟨g, 0, none⟩) B.length c ∧ w.heap.size ≤ g ∧ g < N ∧ ∃ cs, wr.heap[g]? = some (.cells cs 54 (0, 0)) := by
  obtain ⟨P, h1, h2, h3⟩ := h
  obtain ⟨g, c, e, h4, h5, h6⟩ := Kd.R_form (Kd.S_R h2) hp
  subst e
  exact ⟨g, c, rfl, h4, h1 g ((Kd.S_R h2).1 g rfl), h6⟩
theorem Two.at {w wr : World} {N gB cB n : Nat} {vA : Value} {B A : List (List Bool)} (h : Two w N wr (.slice (some ⟨gB, 0, none⟩) n cB) vA B A) (i : Nat) (hi : i < n) :
    ∃ Ai ci, wr.cell? ⟨gB, i, none⟩ = some (.slice Ai (row B i).length ci) ∧ wr.frozen? ⟨gB, i, none⟩ = false ∧ (row B i).length ≤ ci ∧ Kd.C Kd.bool wr Ai (row B i).length (row B i) := by
  obtain ⟨P, h1, h2, h3⟩ := h
  exact rr_get h2 i hi
theorem Two.put {w wr : World} {N gB cB gA cA n m : Nat} {B A : List (List Bool)} (h : Two w N wr (.slice (some ⟨gB, 0, none⟩) n cB) (.slice (some ⟨gA, 0, none⟩) m cA) B A) (i : Nat) (hi : i < n) {Ai : Option Addr} {m' ci : Nat} (hc : wr.cell? ⟨gB, i, none⟩ = some (.slice Ai m' ci)) (s : Nat) (hs : s < (row B i).length) (v : Bool) :
    ∃ q, Ai = some ⟨q, 0, none⟩ ∧ q ≠ gB ∧ q ≠ gA ∧ w.heap.size ≤ q ∧ (∃ cs, wr.heap[q]? = some (.cells cs 4 (0, 0))) ∧ wr.cell? ⟨q, s, none⟩ = some (.bool (gb (row B i) s)) ∧ wr.frozen? ⟨q, s, none⟩ = false ∧
      Two w N (wr.setCell ⟨q, s, none⟩ (.bool v)) (.slice (some ⟨gB, 0, none⟩) n cB) (.slice (some ⟨gA, 0, none⟩) m cA) (B.set i ((row B i).set s v)) A := by
  obtain ⟨P, h1, h2, h3⟩ := h
  obtain ⟨q, e, a1, a2, a3, a4, a5, a6, a7⟩ := rr_put h2 i hi hc s hs v
  refine ⟨q, e, a2, fun e2 => ?_, a3, a4, a5, a6, P, h1, a7, Kd.S_far h3 (fun k hk e2 => hk.1 (by rw [e2]; exact a1)) _⟩
  exact ((Kd.S_R h3).1 gA rfl).1 (by rw [← e2]; exact a1)
theorem Two.row {w wr : World} {N N' gB cB gA cA n m : Nat} {B A : List (List Bool)} (h : Two w N wr (.slice (some ⟨gB, 0, none⟩) n cB) (.slice (some ⟨gA, 0, none⟩) m cA) B A) (i : Nat) (hi : i < m) {v : Value} {X : List Bool} (hR : Kd.R Kd.bool 4 wr w.heap.size (fun q => N ≤ q) v X) (hN : N ≤ N') (hN' : wr.heap.size ≤ N') :
    w.heap.size ≤ gA ∧ Two w N' (wr.setCell ⟨gA, i, none⟩ v) (.slice (some ⟨gB, 0, none⟩) n cB) (.slice (some ⟨gA, 0, none⟩) m cA) B (A.set i X) := by
  obtain ⟨P, h1, h2, h3⟩ := h
  have hgA := (Kd.S_R h3).1 gA rfl
  have hb := Kd.S_base h3 gA rfl
  refine ⟨hb, P, fun k hk => Nat.lt_of_lt_of_le (h1 k hk) hN, Kd.S_far (p := ⟨gA, i, none⟩) h2 (fun k hk e => hgA.1 (by have e2 : k = gA := e; rw [← e2]; exact hk)) _, ?_⟩
  refine rr_row (okg := fun q => N ≤ q ∧ q < wr.heap.size) (Kd.S_mono h3 fun k hk => ⟨⟨hk.1, Nat.lt_of_lt_of_le hk.2 hN⟩, fun h => Nat.lt_irrefl _ (Nat.lt_of_lt_of_le hk.2 h.1)⟩) i hi (Kd.R_mono (Kd.R_bound hR) fun k hk => ⟨hk.1, hk.2.2.1⟩) (fun k hk => ⟨fun h => Nat.lt_irrefl _ (Nat.lt_of_lt_of_le (h1 k h) hk.1), Nat.lt_of_lt_of_le hk.2 hN'⟩) (fun k hk e => ?_)
  subst e
  exact Nat.lt_irrefl _ (Nat.lt_of_lt_of_le hgA.2 hk.1)
theorem Two.add {w wr w1 : World} {vB vA v : Value} {B A : List (List Bool)} {Z : List Bool} {oki : Nat → Prop} (h : Two w wr.heap.size wr vB vA B A) (hb : Below wr.heap.size wr w1) (hw : w.heap.size ≤ wr.heap.size) (hR : Kd.R Kd.bool 4 w1 wr.heap.size oki v Z) :
    ∃ ok okp : Nat → Prop, dd.M w1 w.heap.size okp Z [v] ∧ (∀ k, okp k → ok k ∧ some k ≠ vB.ownBlock) ∧ (∀ k, w1.heap.size ≤ k → ok k) ∧ Kd.S dd 54 w1 w.heap.size (fun k => ok k ∧ ¬ okp k) vB B ∧
      ∀ v1 w2, Kd.S dd 54 w2 w.heap.size ok v1 (B ++ [Z]) → w1.grownBy w2 vB.ownBlock → Two w w2.heap.size w2 v1 vA (B ++ [Z]) A := by
  obtain ⟨P, h1, h2, h3⟩ := h
  have hR2 := Kd.R_bound hR
  refine ⟨fun k => P k ∨ wr.heap.size ≤ k, fun k => wr.heap.size ≤ k ∧ k < w1.heap.size, Kd.M_row (Kd.R_mono (Kd.R_lower hR2 hw) fun k hk => ⟨hk.2.1, hk.2.2.1⟩), fun k hk => ⟨.inr hk.1, fun e => ?_⟩, fun k hk => .inr (Nat.le_trans hb.size hk), ?_, fun v1 w2 hS hg => ?_⟩
  · have := h1 k ((Kd.S_R h2).1 k e.symm)
    omega
  · exact Kd.S_mono (Kd.S_below h2 hb) fun k hk => ⟨.inl hk, fun h => by have := h1 k hk; omega⟩
  · refine ⟨fun k => (P k ∨ wr.heap.size ≤ k) ∧ k < w2.heap.size, fun k hk => hk.2, Kd.S_mono (Kd.S_bound hS) fun k hk => ⟨hk.1, hk.2.2.1⟩, ?_⟩
    have h4 := Kd.S_below h3 hb
    refine Kd.S_mono (Kd.S_step h4 fun k hk hl => hg.block k hl fun e => ?_) fun k hk => ⟨fun h => ?_, ?_⟩
    · exact hk.1 ((Kd.S_R h2).1 k e.symm)
    · rcases h.1 with h | h
      · exact hk.1 h
      · omega
    · have := hb.size
      have := hg.size
      omega
end Go.Proofs.Ytcbpbnkoolpibaa.Gr
namespace Go.Proofs.Ytcbpbnkoolpibaa.Gr
open RowKit P YtcbpbnkoolpibaaW.wA YtcbpbnkoolpibaaW.wB Aux
theorem inB_iff {x s : Int} (h : inB x s = true) : 0 ≤ x ∧ x < s := by
  simpa [inB] using h
def StepOk (s : Int) (x : S57) : Prop := (∀ y ∈ usesL x, 0 ≤ y ∧ y < s) ∧ (¬ x.f0 = 4 → ¬ x.f0 = 6 → 0 ≤ x.f1 ∧ x.f1 < s)
theorem instrB_step {z s : Int} {x : S57} (h : instrB z s x.f0 x.f1 x.f2 x.f3 x.f4 x.f5 x.f6 = true) : StepOk s x := by
  unfold instrB at h
  unfold StepOk usesL
  by_cases h0 : x.f0 = 0
  · simp [h0] at h ⊢
    exact inB_iff h.1
  by_cases h1 : x.f0 = 1
  · simp [h1] at h ⊢
    exact ⟨inB_iff h.2.1, inB_iff h.1⟩
  by_cases h2 : x.f0 = 2
  · simp [h2] at h ⊢
    exact ⟨⟨inB_iff h.2.1, inB_iff h.2.2.1⟩, inB_iff h.1⟩
  by_cases h3 : x.f0 = 3
  · simp [h3] at h ⊢
    obtain ⟨a, b, c, d, e⟩ := h
    have b := inB_iff b
    refine ⟨?_, inB_iff a⟩
    by_cases hc : 0 ≤ x.f2
    · rcases d with d | d
      · have d := inB_iff d
        simp [hc]
        exact ⟨b, d.2⟩
      · omega
    · simp [hc]
      exact b
  by_cases h4 : x.f0 = 4
  · simp [h4] at h ⊢
    obtain ⟨a, b, c, d, e⟩ := h
    have a := inB_iff a
    have b := inB_iff b
    by_cases hc : 0 ≤ x.f2
    · rcases d with d | d
      · have d := inB_iff d
        simp [hc]
        exact ⟨b, d.2, a⟩
      · omega
    · simp [hc]
      exact ⟨b, a⟩
  by_cases h5 : x.f0 = 5
  · simp [h5] at h ⊢
    exact inB_iff h.1
  by_cases h6 : x.f0 = 6
  · simp [h6] at h ⊢
    exact inB_iff h.1
  · simp [h0, h1, h2, h3, h4, h5, h6] at h
def BlkOk (s : Int) (n : Nat) (b : S47) : Prop := (∀ x ∈ b.f0, StepOk s x) ∧ b.f0.length ≤ 1000 ∧ (¬ b.f1 = 0 → 0 ≤ b.f2 ∧ b.f2 < s) ∧ ∀ y ∈ nextL b, 0 ≤ y ∧ y < (n : Int)
theorem stepsI_mem (bs : List S47) (b : S47) (h : b ∈ bs) : b.f0.length ≤ Ok.stepsI bs := by
  induction bs with
  | nil => cases h
  | cons c cs ih =>
    simp only [Ok.stepsI]
    rcases List.mem_cons.1 h with rfl | h
    · omega
    · have := ih h
      omega
theorem okG_blk {zs : List Int} {p v s : Int} {bs : List S47} (h : Ok.okG zs p v s bs = true) : (0 ≤ s ∧ s ≤ 1000) ∧ (0 < bs.length ∧ bs.length ≤ 300) ∧ ∀ b ∈ bs, BlkOk s bs.length b := by
  have hnx := okG_next h
  unfold Ok.okG at h
  simp only [Bool.and_eq_true, decide_eq_true_eq] at h
  obtain ⟨_, hv, hl, ha, hst⟩ := h
  have hl2 : 1 ≤ (bs.length : Int) ∧ (bs.length : Int) ≤ 300 := by simpa [inR] using hl
  have hv2 : v ≤ s ∧ s ≤ 1000 := by simpa [inR] using hv
  have hblk : ∀ b ∈ bs, (∀ x ∈ b.f0, StepOk s x) ∧ 0 ≤ s ∧ (¬ b.f1 = 0 → 0 ≤ b.f2 ∧ b.f2 < s) := fun b hb => by
    have hk := List.all_eq_true.1 ha b hb
    unfold Ok.blkOk Ok.blockB at hk
    split at hk
    · exact absurd hk (by simp)
    rename_i hc
    split at hk
    · exact absurd hk (by simp)
    refine ⟨fun x hx => instrB_step (z := (zs.length : Int)) ?_, by omega, fun h0 => ?_⟩
    · rw [Bool.not_eq_true, List.any_eq_false] at hc
      have := hc x hx
      simpa using this
    · rw [if_neg h0] at hk
      split at hk
      · simp only [Bool.and_eq_true] at hk
        exact inB_iff hk.2.2
      · split at hk
        · simp only [Bool.and_eq_true] at hk
          exact inB_iff hk.1
        · exact absurd hk (by simp)
  have hne : 0 < bs.length := hnx.2
  refine ⟨⟨(hblk bs[0] (List.getElem_mem hne)).2.1, hv2.2⟩, ⟨hne, by omega⟩, fun b hb => ⟨(hblk b hb).1, by have := stepsI_mem bs b hb; omega, (hblk b hb).2.2, hnx.1 b hb⟩⟩
theorem usesI_l0 (u : List Int) (hu : u.length ≤ 1048576) (d : Nat) : ∀ (i : Nat) (X : List Bool), i + d = u.length → (∀ y ∈ u, 0 ≤ y ∧ y < (X.length : Int)) → Ev (fun k => impl_back.l0 k X u (u.length : Int) (i : Int)) (usesB (u.drop i) X) := by
  induction d with
  | zero =>
    intro i X hi hX
    rw [List.drop_eq_nil_of_le (by omega)]
    exact Ev.step (f := fun _ => some X) (fun k => by rw [impl_back.l0, if_neg (by omega)]) (Ev.now _)
  | succ d ih =>
    intro i X hi hX
    have hlt : i < u.length := by omega
    have hw : wrap64 ((i : Int) + 1) = ((i + 1 : Nat) : Int) := by rw [wrap_ok (by omega) (by omega)]; omega
    obtain ⟨h0, h1⟩ := hX u[i] (List.getElem_mem hlt)
    have h2 := ih (i + 1) (X.set u[i].toNat true) (by omega) (by rw [List.length_set]; exact hX)
    rw [List.drop_eq_getElem_cons hlt]
    exact Ev.step (fun k => by rw [impl_back.l0, if_pos (by omega), if_pos (by omega), if_pos (by omega), rd_lt u i hlt, if_pos h0, if_pos h1, hw]) h2
theorem usesS_l0 (u : List Int) (hu : u.length ≤ 1048576) (d : Nat) : ∀ (i : Nat) (X : List Bool), i + d = u.length → (∀ y ∈ u, 0 ≤ y ∧ y < (X.length : Int)) → Ev (fun k => spec_l08Ahead.l0 k X u (i : Int)) (usesB (u.drop i) X) := by
  induction d with
  | zero =>
    intro i X hi hX
    rw [List.drop_eq_nil_of_le (by omega)]
    exact Ev.step (f := fun _ => some X) (fun k => by rw [spec_l08Ahead.l0, if_neg (by omega)]) (Ev.now _)
  | succ d ih =>
    intro i X hi hX
    have hlt : i < u.length := by omega
    have hw : wrap64 ((i : Int) + 1) = ((i + 1 : Nat) : Int) := by rw [wrap_ok (by omega) (by omega)]; omega
    obtain ⟨h0, h1⟩ := hX u[i] (List.getElem_mem hlt)
    have h2 := ih (i + 1) (X.set u[i].toNat true) (by omega) (by rw [List.length_set]; exact hX)
    rw [List.drop_eq_getElem_cons hlt]
    exact Ev.step (fun k => by rw [spec_l08Ahead.l0, if_pos (by omega), if_pos (by omega), rd_lt u i hlt, if_pos h0, if_pos h1, hw]) h2
theorem makesV_ok {s : Int} {x : S57} (h : StepOk s x) : 0 ≤ makesV x → makesV x < s := by
  unfold makesV
  intro h0
  split at h0
  · omega
  · split at h0
    · omega
    · rename_i h4 h6
      rw [if_neg h4, if_neg h6]
      exact (h.2 h4 h6).2
theorem back_ev {s : Int} {x : S57} (h : StepOk s x) (X : List Bool) (hX : (X.length : Int) = s) : Ev (fun k => impl_back.f k X x.f0 x.f1 x.f2 x.f3 x.f4 x.f5 x.f6) (backL x X) := by
  have hul := usesL_length x
  have key : ∀ Y : List Bool, Y.length = X.length → Ev (fun k => impl_back.j0 k Y x.f0 x.f1 x.f2 x.f3 x.f4 x.f5 x.f6) (usesB (usesL x) Y) := fun Y hY => by
    have h1 := usesI_l0 (usesL x) (by omega) (usesL x).length 0 Y (by omega) (fun y hy => by have := h.1 y hy; omega)
    rw [List.drop_zero] at h1
    exact Ev.step (fun k => by rw [impl_back.j0]) (Ev.bind (usesOf_ev x) h1)
  unfold backL
  refine Ev.const (makes_i x) ?_
  by_cases hm : 0 ≤ makesV x
  · have hm2 := makesV_ok h hm
    rw [if_pos hm]
    exact Ev.ite_pos (g := fun k => impl_back.j0 k X x.f0 x.f1 x.f2 x.f3 x.f4 x.f5 x.f6) hm (Ev.ite_pos (g := fun _ => none) hm (Ev.ite_pos (g := fun _ => none) (by omega) (key _ (List.length_set ..))))
  · rw [if_neg hm]
    exact Ev.ite_neg hm (key X rfl)
theorem ahead_ev {s : Int} {x : S57} (h : StepOk s x) (X : List Bool) (hX : (X.length : Int) = s) : Ev (fun k => spec_l08Ahead.f k x.f0 x.f1 x.f2 x.f3 x.f4 x.f5 x.f6 X) (backL x X) := by
  have hul := usesL_length x
  have key : ∀ Y : List Bool, Y.length = X.length → Ev (fun k => spec_l08Ahead.j0 k Y x.f0 x.f1 x.f2 x.f3 x.f4 x.f5 x.f6) (usesB (usesL x) Y) := fun Y hY => by
    have h1 := usesS_l0 (usesL x) (by omega) (usesL x).length 0 Y (by omega) (fun y hy => by have := h.1 y hy; omega)
    rw [List.drop_zero] at h1
    exact Ev.step (fun k => by rw [spec_l08Ahead.j0]) (Ev.bind (uses_ev x) h1)
  unfold backL spec_l08Ahead.f spec_l07Def.f
  by_cases h4 : x.f0 = 4
  · have hm : makesV x = -1 := by unfold makesV; rw [if_pos h4]
    rw [hm, if_pos h4, if_neg (show ¬ (0 : Int) ≤ -1 by omega)]
    exact Ev.const rfl (Ev.ite_neg (by simp) (key X rfl))
  · by_cases h6 : x.f0 = 6
    · have hm : makesV x = -1 := by unfold makesV; rw [if_neg h4, if_pos h6]
      rw [hm, if_neg h4, if_neg (show ¬ (0 : Int) ≤ -1 by omega), h6]
      have hk := key X rfl
      rw [h6] at hk
      exact Ev.const rfl (Ev.ite_neg (by simp) hk)
    · have hm : makesV x = x.f1 := by unfold makesV; rw [if_neg h4, if_neg h6]
      obtain ⟨g0, g1⟩ := h.2 h4 h6
      rw [hm, if_neg h4, if_pos g0]
      exact Ev.const rfl (Ev.ite_pos (by simp [h6]) (Ev.ite_pos (g := fun _ => none) g0 (Ev.ite_pos (g := fun _ => none) (by omega) (key _ (List.length_set ..)))))
theorem behind_s {s : Int} {n : Nat} {b : S47} (h : BlkOk s n b) (X : List Bool) (hX : (X.length : Int) = s) (hs : s ≤ 1000) : spec_l08Behind.f b.f0 b.f1 b.f2 b.f3 b.f4 X = some (jumpL b X) := by
  unfold spec_l08Behind.f jumpL
  rw [Option.bind_some, if_pos (by rw [List.length_nil]; omega), Option.bind_some, List.nil_append]
  by_cases h0 : b.f1 = 0
  · rw [if_pos h0, if_pos h0]
  · obtain ⟨g0, g1⟩ := h.2.2.1 h0
    rw [if_neg h0, if_neg h0, if_pos g0, if_pos (by omega)]
theorem rdIIt (xs : List S57) (i : Nat) (h : i < xs.length) : r57 xs (i : Int) = xs[i] := by
  unfold r57
  rw [Int.toNat_natCast, List.getD_eq_getElem?_getD, List.getElem?_eq_getElem h]
  rfl
theorem codeS_l0 {s : Int} (code : List S57) (hc : ∀ x ∈ code, StepOk s x) (hl : code.length ≤ 1000) (a1 a2 a3 a4 : Int) (X : List Bool) (hX : (X.length : Int) = s) : ∀ m : Nat, m ≤ code.length → Ev (fun k => spec_l08In.l0 k (codeL (code.drop m) X) ((m : Int) - 1) code a1 a2 a3 a4) (codeL code X)
  | 0, _ => by
    rw [List.drop_zero]
    exact Ev.step (f := fun _ => some _) (fun k => by rw [spec_l08In.l0, if_neg (by omega)]) (Ev.now _)
  | m + 1, hm => by
    have ih := codeS_l0 code hc hl a1 a2 a3 a4 X hX m (by omega)
    have hw : wrap64 ((m : Int) - 1) = (m : Int) - 1 := wrap_ok (by omega) (by omega)
    have e : ((m + 1 : Nat) : Int) - 1 = (m : Int) := by omega
    rw [e]
    rw [List.drop_eq_getElem_cons (show m < code.length by omega)] at ih
    have h1 := ahead_ev (hc code[m] (List.getElem_mem (by omega))) (codeL (code.drop (m + 1)) X) (by rw [codeL_len]; exact hX)
    exact Ev.step (fun k => by rw [spec_l08In.l0, if_pos (by omega), if_pos (by omega), if_pos (by omega), rdIIt code m (by omega), hw]) (Ev.bind h1 ih)
theorem in_ev {s : Int} {n : Nat} {b : S47} (h : BlkOk s n b) (X : List Bool) (hX : (X.length : Int) = s) (hs : s ≤ 1000) : Ev (fun k => spec_l08In.f k b.f0 b.f1 b.f2 b.f3 b.f4 X) (trL b X) := by
  have hl := h.2.1
  have h1 := codeS_l0 b.f0 h.1 hl b.f1 b.f2 b.f3 b.f4 (jumpL b X) (by rw [jumpL_len]; exact hX) b.f0.length (Nat.le_refl _)
  rw [List.drop_length] at h1
  unfold trL spec_l08In.f
  rw [wrap_ok (i := (b.f0.length : Int) - 1) (by omega) (by omega)]
  exact Ev.const (behind_s h X hX hs) h1
theorem equalB_l0 (X Y : List Bool) (hl : X.length = Y.length) (hn : X.length ≤ 1048576) (d : Nat) : ∀ i : Nat, i + d = X.length → Ev (fun k => slices_Equal_bool_bool.l0 k X Y (X.length : Int) (i : Int)) (decide (X.drop i = Y.drop i)) := by
  induction d with
  | zero =>
    intro i hi
    rw [List.drop_eq_nil_of_le (by omega), List.drop_eq_nil_of_le (by omega)]
    exact Ev.step (f := fun _ => some true) (fun k => by rw [slices_Equal_bool_bool.l0, if_neg (by omega)]) (Ev.now _)
  | succ d ih =>
    intro i hi
    have hx : i < X.length := by omega
    have hy : i < Y.length := by omega
    have r1 := rdOf_lt false X i hx
    have r2 := rdOf_lt false Y i hy
    have hw : wrap64 ((i : Int) + 1) = ((i + 1 : Nat) : Int) := by rw [wrap_ok (by omega) (by omega)]; omega
    rw [List.drop_eq_getElem_cons hx, List.drop_eq_getElem_cons hy]
    by_cases h : X[i] = Y[i]
    · have e : (X[i] != Y[i]) = false := by rw [h]; simp
      refine Ev.step (fun k => by rw [slices_Equal_bool_bool.l0, if_pos (by omega), if_pos (by omega), if_pos (by omega), if_pos (by omega), r1, r2, e, if_neg (by simp), hw]) ?_
      simp only [List.cons.injEq, h, true_and]
      exact ih (i + 1) (by omega)
    · have e : (X[i] != Y[i]) = true := by simpa using h
      refine Ev.step (f := fun _ => some false) (fun k => by rw [slices_Equal_bool_bool.l0, if_pos (by omega), if_pos (by omega), if_pos (by omega), if_pos (by omega), r1, r2, e, if_pos rfl]) ?_
      simp only [List.cons.injEq, h, false_and, decide_false]
      exact Ev.now _
theorem equalB_ev (X Y : List Bool) (hl : X.length = Y.length) (hn : X.length ≤ 1048576) : Ev (fun k => slices_Equal_bool_bool.f k X Y) (decide (X = Y)) := by
  refine Ev.congr (fun k => by rw [slices_Equal_bool_bool.f, if_pos (by omega)]) ?_
  exact equalB_l0 X Y hl hn X.length 0 (by omega)
end Go.Proofs.Ytcbpbnkoolpibaa.Gr
namespace Go.Proofs.Ytcbpbnkoolpibaa.Gr
open RowKit P YtcbpbnkoolpibaaW.wA YtcbpbnkoolpibaaW.wB YtcbpbnkoolpibaaW.wC Aux
def orTo : Nat → List Bool → List Bool → List Bool
  | 0, X, _ => X
  | s + 1, X, Y => (orTo s X Y).set s (gb (orTo s X Y) s || gb Y s)
theorem orTo_len : ∀ (s : Nat) (X Y : List Bool), (orTo s X Y).length = X.length
  | 0, X, Y => rfl
  | s + 1, X, Y => by rw [orTo, List.length_set, orTo_len s]
theorem gb_orTo : ∀ (s : Nat) (X Y : List Bool) (j : Nat), s ≤ X.length → gb (orTo s X Y) j = if j < s then (gb X j || gb Y j) else gb X j
  | 0, X, Y, j, _ => by rw [if_neg (Nat.not_lt_zero _)]; rfl
  | s + 1, X, Y, j, h => by
    rw [orTo, gb_set, orTo_len, gb_orTo s X Y j (by omega), gb_orTo s X Y s (by omega), if_neg (Nat.lt_irrefl s)]
    by_cases e : s = j
    · subst e
      rw [if_pos ⟨rfl, by omega⟩, if_pos (by omega)]
    · rw [if_neg (fun h => e h.1)]
      by_cases l : j < s
      · rw [if_pos l, if_pos (by omega)]
      · rw [if_neg l, if_neg (by omega)]
theorem ext_gb {X Y : List Bool} (h : X.length = Y.length) (hg : ∀ j, gb X j = gb Y j) : X = Y := leB.anti ⟨h, fun s hs => by rw [← hg]; exact hs⟩ ⟨h.symm, fun s hs => by rw [hg]; exact hs⟩
theorem orTo_all {X Y : List Bool} (h : X.length = Y.length) : orTo X.length X Y = orL X Y := by
  refine ext_gb (by rw [orTo_len, orL_len h]) fun j => ?_
  rw [gb_orTo _ _ _ _ (Nat.le_refl _), gb_or h]
  split
  · rfl
  · rename_i hj
    have h1 : gb X j = false := by
      cases e : gb X j with
      | false => rfl
      | true => exact absurd (gb_lt e) hj
    have h2 : gb Y j = false := by
      cases e : gb Y j with
      | false => rfl
      | true => exact absurd (gb_lt e) (by omega)
    rw [h1, h2]
    rfl
theorem Two.mk0 {w w1 w2 : World} {b : Nat} {ok ok' : Nat → Prop} {v1 v2 : Value} (h1 : Kd.S dd 54 w1 b ok v1 []) (hb : Below w1.heap.size w1 w2) (h2 : Kd.S dd 54 w2 w1.heap.size ok' v2 []) (hw : w.heap.size ≤ b) (hw1 : w.heap.size ≤ w1.heap.size) : Two w w2.heap.size w2 v1 v2 [] [] := by
  refine ⟨fun k => k < w1.heap.size, fun k hk => Nat.lt_of_lt_of_le hk hb.size, Kd.S_lower (Kd.S_mono (Kd.S_below (Kd.S_bound h1) hb) fun k hk => hk.2.2.1) hw, Kd.S_lower (Kd.S_mono (Kd.S_bound h2) fun k hk => ⟨Nat.not_lt.2 hk.2.1, hk.2.2.1⟩) hw1⟩
theorem row_rep {n i : Nat} (h : i < n) (Z : List Bool) : row (List.replicate n Z) i = Z := by
  unfold row
  rw [List.getD_eq_getElem?_getD, List.getElem?_replicate, if_pos h]
  rfl
theorem shp_rep (n S : Nat) : Shp n S (List.replicate n (List.replicate S false)) := ⟨List.length_replicate .., fun i hi => by
  have := row_rep hi (List.replicate S false)
  unfold row at this
  rw [this, List.length_replicate]⟩
theorem rep_snoc (n : Nat) (Z : List Bool) : List.replicate n Z ++ [Z] = List.replicate (n + 1) Z := (List.replicate_succ' ..).symm
end Go.Proofs.Ytcbpbnkoolpibaa.Gr
namespace Go.Proofs.Ytcbpbnkoolpibaa.P
open RowKit YtcbpbnkoolpibaaW.wA YtcbpbnkoolpibaaW.wB YtcbpbnkoolpibaaW.wC Gr Aux
def impl_liveOf.f (k : Nat) (zs : List Int) (p v s : Int) (bs : List S47) : Option (List (List Bool)) := if Ok.okG zs p v s bs = true then liveI bs k (List.replicate bs.length (List.replicate s.toNat false), List.replicate bs.length (List.replicate s.toNat false)) else none
theorem impl_liveOf.mono : ∀ zs p v s bs k, LeO (impl_liveOf.f k zs p v s bs) (impl_liveOf.f (k + 1) zs p v s bs) := fun zs p v s bs k => LeO.ite (fun r h => liveI_mono bs k _ r h) (LeO.refl _)
def Inv0 (w : World) (g : Nat) (gcs : Array Value) (n : Nat) (Z : List Bool) (x : Int) (gg : Nat) (s3 s4 : Value) (wr : World) : Prop :=
  ∃ j : Nat, (j : Int) = x ∧ j ≤ n ∧ n - j ≤ gg ∧ Two w wr.heap.size wr s3 s4 (List.replicate j Z) (List.replicate j Z) ∧ wr.heap[g]? = some (.cells gcs 29 (0, 0)) ∧ Below w.heap.size w wr
def Inv2 (w : World) (g : Nat) (gcs : Array Value) (bs : List S47) (S : Nat) (r : List (List Bool)) (vB vA : Value) (b : Bool) (gg : Nat) (wr : World) : Prop :=
  ∃ B A, Two w wr.heap.size wr vB vA B A ∧ wr.heap[g]? = some (.cells gcs 29 (0, 0)) ∧ Below w.heap.size w wr ∧ Shp bs.length S B ∧ Shp bs.length S A ∧ ((b = true ∧ ∃ kk, kk ≤ gg ∧ liveI bs kk (B, A) = some r) ∨ (b = false ∧ B = r))
def Inv4 (w : World) (g : Nat) (gcs : Array Value) (bs : List S47) (S : Nat) (R : StI) (vB vA : Value) (b : Bool) (x : Int) (gg : Nat) (wr : World) : Prop :=
  ∃ (m : Nat) (B A : List (List Bool)), (m : Int) - 1 = x ∧ m ≤ bs.length ∧ m ≤ gg ∧ Two w wr.heap.size wr vB vA B A ∧ wr.heap[g]? = some (.cells gcs 29 (0, 0)) ∧ Below w.heap.size w wr ∧ Shp bs.length S B ∧ Shp bs.length S A ∧ roundI bs m (B, A, b) = R
def Fr (w : World) (g gy : Nat) (gcs ycs : Array Value) (wr : World) : Prop := wr.heap[g]? = some (.cells gcs 29 (0, 0)) ∧ wr.heap[gy]? = some (.cells ycs 47 (0, 0)) ∧ Below w.heap.size w wr
theorem Fr.put {w wr : World} {g gy q s : Nat} {gcs ycs : Array Value} {u : Value} (h : Fr w g gy gcs ycs wr) (hq : ∃ cs, wr.heap[q]? = some (.cells cs 4 (0, 0))) (hw : w.heap.size ≤ q) : Fr w g gy gcs ycs (wr.setCell ⟨q, s, none⟩ u) := by
  obtain ⟨h1, h2, h3⟩ := h
  obtain ⟨cs, hq⟩ := hq
  refine ⟨(Below.heap_setCell wr ⟨q, s, none⟩ u g fun e => ?_).trans h1, (Below.heap_setCell wr ⟨q, s, none⟩ u gy fun e => ?_).trans h2, blS h3 hw⟩
  · have e2 : g = q := e
    rw [e2, hq] at h1
    injection h1 with h1
    injection h1 with _ h1
    exact absurd h1 (by decide)
  · have e2 : gy = q := e
    rw [e2, hq] at h2
    injection h2 with h2
    injection h2 with _ h2
    exact absurd h2 (by decide)
theorem Fr.below {w wr w1 : World} {g gy : Nat} {gcs ycs : Array Value} (h : Fr w g gy gcs ycs wr) (hb : Below wr.heap.size wr w1) : Fr w g gy gcs ycs w1 := ⟨bkB h.1 hb, bkB h.2.1 hb, blT h.2.2 hb⟩
def Inv6 (w : World) (g gy N : Nat) (gcs ycs : Array Value) (bs : List S47) (S i : Nat) (B A : List (List Bool)) (l : List Int) (J : List Bool) (vB vA vN : Value) (x : Int) (gg : Nat) (wr : World) : Prop :=
  ∃ (jj : Nat) (X : List Bool), (jj : Int) = x ∧ jj ≤ l.length ∧ l.length - jj ≤ gg ∧ Two w N wr vB vA (B.set i X) A ∧ X.length = S ∧ joinI A X ((l.map Int.toNat).drop jj) = J ∧ Kd.R (Kd.int .i64) 3 wr w.heap.size (fun _ => True) vN l ∧ Fr w g gy gcs ycs wr
def Inv8 (w : World) (g gy N gA tq : Nat) (vT : Value) (gcs ycs : Array Value) (S i : Nat) (B A : List (List Bool)) (l : List Int) (X Y : List Bool) (vB vA vN : Value) (x : Int) (gg : Nat) (wr : World) : Prop :=
  ∃ s : Nat, (s : Int) = x ∧ s ≤ S ∧ S - s ≤ gg ∧ Two w N wr vB vA (B.set i (orTo s X Y)) A ∧ wr.cell? ⟨gA, tq, none⟩ = some vT ∧ Kd.R (Kd.int .i64) 3 wr w.heap.size (fun _ => True) vN l ∧ Fr w g gy gcs ycs wr
theorem inv8_next {w wr : World} {g gy N gA tq S i gg s q : Nat} {vT vB vA vN : Value} {gcs ycs : Array Value} {B A : List (List Bool)} {l : List Int} {X Y : List Bool} {x : Int} {o : Bool} (hs : (s : Int) = x ∧ s < S ∧ S - s ≤ gg) (hS : S ≤ 1000)
    (hq : Two w N (wr.setCell ⟨q, x.toNat, none⟩ (.bool o)) vB vA ((B.set i (orTo s X Y)).set i ((orTo s X Y).set x.toNat o)) A) (ho : orTo (s + 1) X Y = (orTo s X Y).set s o) (hA : (wr.setCell ⟨q, x.toNat, none⟩ (.bool o)).cell? ⟨gA, tq, none⟩ = some vT) (hR : Kd.R (Kd.int .i64) 3 (wr.setCell ⟨q, x.toNat, none⟩ (.bool o)) w.heap.size (fun _ => True) vN l) (hF : Fr w g gy gcs ycs (wr.setCell ⟨q, x.toNat, none⟩ (.bool o))) :
    Inv8 w g gy N gA tq vT gcs ycs S i B A l X Y vB vA vN (wrap64 (x + 1)) (gg - 1) (wr.setCell ⟨q, x.toNat, none⟩ (.bool o)).drew := by
  have hb := below_drew (Below.refl (wr.setCell ⟨q, x.toNat, none⟩ (.bool o)).heap.size (wr.setCell ⟨q, x.toNat, none⟩ (.bool o)))
  have hq := hq.below hb
  rw [show x.toNat = s by omega] at *
  rw [List.set_set, ← ho] at hq
  refine ⟨s + 1, ?_, by omega, by omega, hq, pw_cell_below hb hA, Kd.R_below hR hb, hF.below hb⟩
  rw [wrap_ok (by omega) (by omega)]
  omega
theorem inv6_next {w wr : World} {g gy N S i gg jj tq : Nat} {vB vA vN : Value} {gcs ycs : Array Value} {bs : List S47} {B A : List (List Bool)} {l : List Int} {X Y J : List Bool} {x : Int} (hj : (jj : Int) = x ∧ jj < l.length ∧ l.length - jj ≤ gg) (hl : l.length ≤ 2)
    (hT : Two w N wr vB vA (B.set i (orTo Y.length X Y)) A) (hX : X.length = S) (hY : Y.length = S) (hd : (l.map Int.toNat).drop jj = tq :: (l.map Int.toNat).drop (jj + 1)) (hYr : Y = row A tq) (hJ : joinI A X ((l.map Int.toNat).drop jj) = J) (hR : Kd.R (Kd.int .i64) 3 wr w.heap.size (fun _ => True) vN l) (hF : Fr w g gy gcs ycs wr) :
    Inv6 w g gy N gcs ycs bs S i B A l J vB vA vN (wrap64 (x + 1)) (l.length - (jj + 1)) wr := by
  have hXY : X.length = Y.length := by omega
  rw [show Y.length = X.length by omega, orTo_all hXY] at hT
  refine ⟨jj + 1, orL X Y, ?_, by omega, Nat.le_refl _, hT, by rw [orL_len hXY]; exact hX, ?_, hR, hF⟩
  · rw [wrap_ok (by omega) (by omega)]
    omega
  · rw [hd] at hJ
    rw [hYr]
    exact hJ
def MidS (w : World) (g gy N : Nat) (gcs ycs : Array Value) (vB vA v : Value) (B A : List (List Bool)) (X : List Bool) (wr : World) : Prop :=
  Two w N wr vB vA B A ∧ Kd.R Kd.bool 4 wr w.heap.size (fun q => N ≤ q) v X ∧ Fr w g gy gcs ycs wr ∧ N ≤ wr.heap.size ∧ g < N ∧ gy < N
theorem MidS.put {w wr : World} {g gy N : Nat} {gcs ycs : Array Value} {vB vA v : Value} {B A : List (List Bool)} {X : List Bool} (h : MidS w g gy N gcs ycs vB vA v B A X wr) (x : Int) (h0 : 0 ≤ x) (h1 : x < (X.length : Int)) (b : Bool) :
    ∃ q c, v = .slice (some ⟨q, 0, none⟩) X.length c ∧ wr.cell? ⟨q, x.toNat, none⟩ = some (.bool (rdOf false X x)) ∧ wr.frozen? ⟨q, x.toNat, none⟩ = false ∧ MidS w g gy N gcs ycs vB vA v B A (X.set x.toNat b) (wr.setCell ⟨q, x.toNat, none⟩ (.bool b)) := by
  obtain ⟨hT, hR, hF, hn, hg⟩ := h
  obtain ⟨q, c, e, hw, hlt, hcs⟩ := Kd.R_form hR (by omega)
  subst e
  have hN : N ≤ q := hR.1 q rfl
  obtain ⟨a1, a2⟩ := Kd.R_celln false hR x h0 h1
  exact ⟨q, c, rfl, a1, a2, hT.step fun k hk _ => Below.heap_setCell wr ⟨q, x.toNat, none⟩ (.bool b) k (fun e => by have e2 : k = q := e; omega), (Kd.R_putg hR x b).1, hF.put hcs hw, by simpa using hn, hg⟩
theorem MidS.drew {w wr w1 : World} {g gy N : Nat} {gcs ycs : Array Value} {vB vA v : Value} {B A : List (List Bool)} {X : List Bool} (h : MidS w g gy N gcs ycs vB vA v B A X wr) (hb : Below wr.heap.size wr w1) : MidS w g gy N gcs ycs vB vA v B A X w1 := ⟨h.1.below hb, Kd.R_below h.2.1 hb, h.2.2.1.below hb, Nat.le_trans h.2.2.2.1 hb.size, h.2.2.2.2⟩
theorem MidS.kept {w wr w1 : World} {g gy N : Nat} {gcs ycs : Array Value} {vB vA v : Value} {B A : List (List Bool)} {X Y : List Bool} (h : MidS w g gy N gcs ycs vB vA v B A X wr) (hk : Kept wr w1 (fun q => N ≤ q)) (hB : Below w.heap.size w w1) (hR : Kd.R Kd.bool 4 w1 w.heap.size (fun k_ => (N ≤ k_ ∨ wr.heap.size ≤ k_)) v Y) : MidS w g gy N gcs ycs vB vA v B A Y w1 := by
  obtain ⟨hT, _, hF, hn, hg, hgy⟩ := h
  refine ⟨hT.step fun k hk1 hk2 => hk.2 k hk2 (Nat.not_le.2 hk1), Kd.R_mono hR fun k hk => hk.elim id (Nat.le_trans hn), ⟨(hk.2 g (blk_lt hF.1) (Nat.not_le.2 hg)).trans hF.1, (hk.2 gy (blk_lt hF.2.1) (Nat.not_le.2 hgy)).trans hF.2.1, hB⟩, Nat.le_trans hn hk.1, hg, hgy⟩
def Inv10 (w : World) (g gy N : Nat) (gcs ycs : Array Value) (code : List S57) (vB vA v : Value) (B A : List (List Bool)) (X : List Bool) (x : Int) (gg : Nat) (wr : World) : Prop :=
  ∃ m : Nat, (m : Int) - 1 = x ∧ m ≤ code.length ∧ m ≤ gg ∧ MidS w g gy N gcs ycs vB vA v B A (codeL (code.drop m) X) wr
theorem inv4_next {w wr : World} {g gy N i gg S gB cB gA cA : Nat} {gcs ycs : Array Value} {v : Value} {bs : List S47} {bk : S47} {B A : List (List Bool)} {J : List Bool} {R : StI} {b : Bool} {x : Int} (hm : (i : Int) = x ∧ i < bs.length ∧ i + 1 ≤ gg) (hl : bs.length ≤ 300)
    (h : MidS w g gy N gcs ycs (.slice (some ⟨gB, 0, none⟩) bs.length cB) (.slice (some ⟨gA, 0, none⟩) bs.length cA) v (B.set i J) A (trL bk J) wr) (hbk : bk = bs.getD i z47) (hJ : J = joinI A (row B i) (nxs bs i)) (hR : roundI bs (i + 1) (B, A, b) = R) (SB : Shp bs.length S B) (SA : Shp bs.length S A) (hJl : J.length = S) :
    Inv4 w g gcs bs S R (.slice (some ⟨gB, 0, none⟩) bs.length cB) (.slice (some ⟨gA, 0, none⟩) bs.length cA) (b || decide (trL bk J ≠ row A i)) (wrap64 (x - 1)) i (wr.setCell ⟨gA, x.toNat, none⟩ v) := by
  obtain ⟨hT, hRR, hF, hn, hg, hgy⟩ := h
  rw [show x.toNat = i by omega]
  obtain ⟨hwA, hT2⟩ := hT.row (N' := wr.heap.size) i hm.2.1 hRR hn (Nat.le_refl _)
  have hsz : (wr.setCell ⟨gA, i, none⟩ v).heap.size = wr.heap.size := by simp
  refine ⟨i, B.set i J, A.set i (trL bk J), ?_, by omega, Nat.le_refl _, by rw [hsz]; exact hT2, ?_, blS hF.2.2 hwA, SB.set hJl, SA.set (by rw [trL_len]; exact hJl), ?_⟩
  · rw [wrap_ok (by omega) (by omega)]
    omega
  · refine (Below.heap_setCell wr ⟨gA, i, none⟩ v g fun e => ?_).trans hF.1
    have e2 : g = gA := e
    obtain ⟨_, _, e3, _, _, cs, hcs⟩ := hT.swap.form (by rw [SA.1]; omega)
    injection e3 with e3
    injection e3 with e3
    injection e3 with e3
    have h1 := hF.1
    rw [e2, e3, hcs] at h1
    injection h1 with h1
    injection h1 with _ h1
    exact absurd h1 (by decide)
  · rw [← hR, roundI, hJ, hbk]
    rfl
theorem inv4_t {w wr : World} {g gy N i gg S gB cB gA cA : Nat} {gcs ycs : Array Value} {v : Value} {bs : List S47} {bk : S47} {B A : List (List Bool)} {J : List Bool} {R : StI} {x : Int} (hm : (i : Int) = x ∧ i < bs.length ∧ i + 1 ≤ gg) (hl : bs.length ≤ 300)
    (h : MidS w g gy N gcs ycs (.slice (some ⟨gB, 0, none⟩) bs.length cB) (.slice (some ⟨gA, 0, none⟩) bs.length cA) v (B.set i J) A (trL bk J) wr) (hbk : bk = bs.getD i z47) (hJ : J = joinI A (row B i) (nxs bs i)) (hR : roundI bs (i + 1) (B, A, true) = R) (SB : Shp bs.length S B) (SA : Shp bs.length S A) (hJl : J.length = S) :
    ∃ (b' : Bool) (x' : Int), Value.bool true = .bool b' ∧ Value.int .i64 (wrap64 (x - 1)) = .int .i64 x' ∧ Zs0 (Inv4 w g gcs bs S R (.slice (some ⟨gB, 0, none⟩) bs.length cB) (.slice (some ⟨gA, 0, none⟩) bs.length cA) b' x' i (wr.setCell ⟨gA, x.toNat, none⟩ v)) := by
  have hn := inv4_next hm hl h hbk hJ hR SB SA hJl
  rw [Bool.true_or] at hn
  exact ⟨true, _, rfl, rfl, ⟨hn⟩⟩
theorem inv4_f {w wr : World} {g gy N i gg S gB cB gA cA : Nat} {gcs ycs : Array Value} {v : Value} {bs : List S47} {bk : S47} {B A : List (List Bool)} {J : List Bool} {R : StI} {x : Int} (hm : (i : Int) = x ∧ i < bs.length ∧ i + 1 ≤ gg) (hl : bs.length ≤ 300)
    (h : MidS w g gy N gcs ycs (.slice (some ⟨gB, 0, none⟩) bs.length cB) (.slice (some ⟨gA, 0, none⟩) bs.length cA) v (B.set i J) A (trL bk J) wr) (hbk : bk = bs.getD i z47) (hJ : J = joinI A (row B i) (nxs bs i)) (hR : roundI bs (i + 1) (B, A, false) = R) (SB : Shp bs.length S B) (SA : Shp bs.length S A) (hJl : J.length = S) :
    ∃ (b' : Bool) (x' : Int), Value.bool (!decide (trL bk J = row A i)) = .bool b' ∧ Value.int .i64 (wrap64 (x - 1)) = .int .i64 x' ∧ Zs0 (Inv4 w g gcs bs S R (.slice (some ⟨gB, 0, none⟩) bs.length cB) (.slice (some ⟨gA, 0, none⟩) bs.length cA) b' x' i (wr.setCell ⟨gA, x.toNat, none⟩ v)) := by
  have hn := inv4_next hm hl h hbk hJ hR SB SA hJl
  rw [Bool.false_or, decide_not] at hn
  exact ⟨_, _, rfl, rfl, ⟨hn⟩⟩
end Go.Proofs.Ytcbpbnkoolpibaa.P
namespace Go.Proofs.Ytcbpbnkoolpibaa.Gr
open RowKit P YtcbpbnkoolpibaaW.wA YtcbpbnkoolpibaaW.wB YtcbpbnkoolpibaaW.wC Aux
theorem rdL_row (M : List (List Bool)) (x : Int) : rd_L13 M x = row M x.toNat := rfl
theorem rdOf_gb (X : List Bool) (s : Nat) : rdOf false X (s : Int) = gb X s := by
  unfold rdOf gb
  rw [Int.toNat_natCast]
theorem set_gb (X : List Bool) (s : Nat) : X.set s (gb X s) = X := by
  refine ext_gb (by rw [List.length_set]) fun j => ?_
  rw [gb_set]
  split
  · rename_i h
    rw [h.1]
  · rfl
theorem live4 (zs : List Int) (p v s : Int) (bs : List S47) (S : Nat) (hs : s = (S : Int)) (hS : S ≤ 1000) (M : List (List Bool)) (i : Nat) (hi : i < M.length) (X Y : List Bool) (hX : row M i = X) (hXl : X.length = S) (hYl : Y.length = S) (g : Bool) (x7 : List Int) (x8 : Int) (R : List (List Bool))
    (hend : Ev (fun k => spec_l08Live.l3 k (M.set i (orL X Y)) (g || decide (orL X Y ≠ X)) (i : Int) x7 (wrap64 (x8 + 1)) zs p v s bs) R) (d : Nat) :
    ∀ c : Nat, c + d = S → Ev (fun k => spec_l08Live.l4 k (M.set i (orTo c X Y)) (g || decide (orTo c X Y ≠ X)) (i : Int) x7 x8 Y (c : Int) zs p v s bs) R := by
  induction d with
  | zero =>
    intro c hc
    have e : orTo c X Y = orL X Y := by rw [show c = X.length by omega]; exact orTo_all (by omega)
    rw [e]
    exact Ev.step (fun k => by rw [spec_l08Live.l4, if_neg (by omega)]) hend
  | succ d ih =>
    intro c hc
    have h1 := ih (c + 1) (by omega)
    have p1 : (c : Int) < s := by omega
    have p2 : 0 ≤ (c : Int) := by omega
    have p3 : (c : Int) < (Y.length : Int) := by omega
    have p4 : 0 ≤ (i : Int) := by omega
    have p5 : (i : Int) < ((M.set i (orTo c X Y)).length : Int) := by rw [List.length_set]; omega
    have hrow : rd_L13 (M.set i (orTo c X Y)) (i : Int) = orTo c X Y := by rw [rdL_row, Int.toNat_natCast, row_set, if_pos ⟨rfl, hi⟩]
    have p6 : (c : Int) < ((orTo c X Y).length : Int) := by rw [orTo_len]; omega
    have hg : gb (orTo c X Y) c = gb X c := by rw [gb_orTo _ _ _ _ (by omega), if_neg (Nat.lt_irrefl c)]
    have hw := Zs0.mk (show wrap64 ((c : Int) + 1) = ((c + 1 : Nat) : Int) by rw [wrap_ok (by omega) (by omega)]; omega)
    cases hy : gb Y c with
    | false =>
      have e : orTo (c + 1) X Y = orTo c X Y := by rw [orTo, hy, Bool.or_false, set_gb]
      rw [e] at h1
      exact Ev.step (fun k => by rw [spec_l08Live.l4, if_pos p1, if_pos p2, if_pos p3, rdOf_gb, hy, if_neg (by simp), hw.out]) h1
    | true =>
      cases hx : gb X c with
      | true =>
        have e : orTo (c + 1) X Y = orTo c X Y := by rw [orTo, hg, hx, Bool.true_or]; rw [← hx, ← hg, set_gb]
        rw [e] at h1
        exact Ev.step (fun k => by rw [spec_l08Live.l4, if_pos p1, if_pos p2, if_pos p3, rdOf_gb, hy, if_pos rfl, if_pos p4, if_pos p5, hrow, if_pos p6, rdOf_gb, hg, hx, if_pos rfl, hw.out]) h1
      | false =>
        have e : orTo (c + 1) X Y = (orTo c X Y).set c true := by rw [orTo, hy, Bool.or_true]
        have hne : orTo (c + 1) X Y ≠ X := fun h => by
          have h2 : gb (orTo (c + 1) X Y) c = gb X c := by rw [h]
          rw [gb_orTo _ _ _ _ (by omega), if_pos (Nat.lt_succ_self c), hx, hy] at h2
          exact absurd h2 (by simp)
        rw [decide_eq_true hne, Bool.or_true, e] at h1
        have e2 : (M.set i (orTo c X Y)).set i ((orTo c X Y).set c true) = M.set i ((orTo c X Y).set c true) := List.set_set ..
        exact Ev.step (fun k => by rw [spec_l08Live.l4, if_pos p1, if_pos p2, if_pos p3, rdOf_gb, hy, if_pos rfl, if_pos p4, if_pos p5, hrow, if_pos p6, rdOf_gb, hg, hx, if_neg (by simp), Int.toNat_natCast, Int.toNat_natCast, e2, hw.out]) h1
theorem live3 (zs : List Int) (p v s : Int) (bs : List S47) (S : Nat) (hs : s = (S : Int)) (hS : S ≤ 1000) (hblk : ∀ b ∈ bs, BlkOk s bs.length b) (i : Nat) (hi : i < bs.length) (l : List Int) (hl : l.length ≤ 2) (hln : ∀ y ∈ l, 0 ≤ y ∧ y < (bs.length : Int)) (R : List (List Bool)) (d : Nat) :
    ∀ (jj : Nat) (M : List (List Bool)) (g : Bool), jj + d = l.length → Shp bs.length S M →
      (∀ M' g', (M', g') = nextS bs i ((l.map Int.toNat).drop jj) (M, g) → Ev (fun k => spec_l08Live.l2 k M' g' (wrap64 ((i : Int) - 1)) zs p v s bs) R) → Ev (fun k => spec_l08Live.l3 k M g (i : Int) l (jj : Int) zs p v s bs) R := by
  induction d with
  | zero =>
    intro jj M g hj hM hend
    have h1 := hend M g (by rw [List.drop_of_length_le (by rw [List.length_map]; omega)]; rfl)
    exact Ev.step (fun k => by rw [spec_l08Live.l3, if_neg (by omega)]) h1
  | succ d ih =>
    intro jj M g hj hM hend
    have hjl : jj < l.length := by omega
    obtain ⟨h0, h1⟩ := hln l[jj] (List.getElem_mem hjl)
    have hr := rd_lt l jj hjl
    obtain ⟨tq, htq⟩ : ∃ tq : Nat, l[jj] = (tq : Int) := ⟨l[jj].toNat, by omega⟩
    have ht : tq < bs.length := by omega
    have hb : r47 bs (tq : Int) = bs.getD tq z47 := by unfold r47; rw [Int.toNat_natCast]
    have hbk : BlkOk s bs.length (bs.getD tq z47) := by
      rw [List.getD_eq_getElem?_getD, List.getElem?_eq_getElem ht]
      exact hblk _ (List.getElem_mem ht)
    have hin := in_ev hbk (row M tq) (by have := hM.2 tq ht; unfold row; omega) (by omega)
    have hw := Zs0.mk (show wrap64 ((jj : Int) + 1) = ((jj + 1 : Nat) : Int) by rw [wrap_ok (by omega) (by omega)]; omega)
    have hXl : (row M i).length = S := hM.2 i hi
    have hYl : (trL (bs.getD tq z47) (row M tq)).length = S := (trL_len _ _).trans (hM.2 tq ht)
    have hdr : (l.map Int.toNat).drop jj = tq :: (l.map Int.toNat).drop (jj + 1) := by
      rw [List.drop_eq_getElem_cons (by rw [List.length_map]; exact hjl), List.getElem_map, htq, Int.toNat_natCast]
    have hM2 : Shp bs.length S (M.set i (orL (row M i) (trL (bs.getD tq z47) (row M tq)))) := hM.set (by rw [orL_len (by omega)]; exact hXl)
    have h3 := ih (jj + 1) (M.set i (orL (row M i) (trL (bs.getD tq z47) (row M tq)))) (g || decide (orL (row M i) (trL (bs.getD tq z47) (row M tq)) ≠ row M i)) (by omega) hM2 (fun M' g' h => hend M' g' (by rw [hdr]; exact h))
    rw [← hw.out] at h3
    have h4 := live4 zs p v s bs S hs hS M i (by rw [hM.1]; exact hi) (row M i) (trL (bs.getD tq z47) (row M tq)) rfl hXl hYl g l (jj : Int) R h3 S 0 (by omega)
    have e0 : orTo 0 (row M i) (trL (bs.getD tq z47) (row M tq)) = row M i := rfl
    rw [e0, set_row, show (g || decide (row M i ≠ row M i)) = g by simp] at h4
    refine Ev.step (fun k => ?_) (Ev.bind (f := fun k t => spec_l08Live.l4 k M g (i : Int) l (jj : Int) t 0 zs p v s bs) hin h4)
    rw [spec_l08Live.l3, if_pos (by omega), if_pos (by omega), hr, htq, if_pos (by omega), if_pos (by omega), if_pos (by rw [hM.1]; omega), hb, rdL_row, Int.toNat_natCast]
theorem live2 (zs : List Int) (p v s : Int) (bs : List S47) (S : Nat) (hs : s = (S : Int)) (hS : S ≤ 1000) (hn : bs.length ≤ 300) (hblk : ∀ b ∈ bs, BlkOk s bs.length b) (R : List (List Bool)) :
    ∀ (m : Nat) (M : List (List Bool)) (g : Bool), m ≤ bs.length → Shp bs.length S M →
      (∀ M' g', (M', g') = roundS bs m (M, g) → Ev (fun k => spec_l08Live.l1 k M' g' zs p v s bs) R) → Ev (fun k => spec_l08Live.l2 k M g ((m : Int) - 1) zs p v s bs) R
  | 0, M, g, _, _, hend => Ev.step (fun k => by rw [spec_l08Live.l2, if_neg (by omega)]) (hend M g rfl)
  | m + 1, M, g, hm, hM, hend => by
    have hi : m < bs.length := by omega
    have hb : r47 bs (m : Int) = bs.getD m z47 := by unfold r47; rw [Int.toNat_natCast]
    have hbk : BlkOk s bs.length (bs.getD m z47) := by
      rw [List.getD_eq_getElem?_getD, List.getElem?_eq_getElem hi]
      exact hblk _ (List.getElem_mem hi)
    have hw := Zs0.mk (show wrap64 ((m : Int) - 1) = (m : Int) - 1 from wrap_ok (by omega) (by omega))
    have shp : ∀ (l : List Nat) (s0 : StS), Shp bs.length S s0.1 → (∀ t ∈ l, t < bs.length) → Shp bs.length S (nextS bs m l s0).1 := by
      intro l
      induction l with
      | nil => intro s0 h0 _; exact h0
      | cons t l ih => intro s0 h0 ht; exact ih (stepS bs m t s0) (h0.set ((orL_len ((h0.2 m hi).trans ((trL_len _ _).trans (h0.2 t (ht t (by simp)))).symm)).trans (h0.2 m hi))) fun u hu => ht u (by simp [hu])
    have hlt : ∀ y ∈ (nextL (bs.getD m z47)).map Int.toNat, y < bs.length := fun y hy => by
      obtain ⟨x, hx, rfl⟩ := List.mem_map.1 hy
      have := hbk.2.2.2 x hx
      omega
    have h3 := live3 zs p v s bs S hs hS hblk m hi (nextL (bs.getD m z47)) (nextL_length _) hbk.2.2.2 R (nextL (bs.getD m z47)).length 0 M g (by omega) hM (fun M' g' h => by
      rw [List.drop_zero] at h
      have h5 := shp _ (M, g) hM hlt
      rw [← h] at h5
      rw [hw.out]
      refine live2 zs p v s bs S hs hS hn hblk R m M' g' (by omega) h5 fun M2 g2 h2 => hend M2 g2 ?_
      rw [h2, h]
      rfl)
    have e : ((m + 1 : Nat) : Int) - 1 = (m : Int) := by omega
    rw [e]
    exact Ev.step (fun k => by rw [spec_l08Live.l2, if_pos (by omega), if_pos (by omega), if_pos (by omega), hb]) (Ev.const (next_s _) h3)
theorem nxs_lt {s : Int} {bs : List S47} (hblk : ∀ b ∈ bs, BlkOk s bs.length b) : ∀ i, i < bs.length → ∀ tq ∈ nxs bs i, tq < bs.length := fun i hi tq ht => by
  unfold nxs at ht
  obtain ⟨x, hx, rfl⟩ := List.mem_map.1 ht
  have hbk : BlkOk s bs.length (bs.getD i z47) := by
    rw [List.getD_eq_getElem?_getD, List.getElem?_eq_getElem hi]
    exact hblk _ (List.getElem_mem hi)
  have := hbk.2.2.2 x hx
  omega
theorem live1 (zs : List Int) (p v s : Int) (bs : List S47) (S : Nat) (hs : s = (S : Int)) (hS : S ≤ 1000) (hn : bs.length ≤ 300) (hblk : ∀ b ∈ bs, BlkOk s bs.length b) (d : Nat) : ∀ M : List (List Bool), InvS bs S M → bs.length * S - cntM M ≤ d →
    ∃ R, Least bs (nxs bs) S R ∧ Ev (fun k => spec_l08Live.l1 k M true zs p v s bs) R := by
  have hnl := nxs_lt hblk
  have hw := Zs0.mk (show wrap64 ((bs.length : Int) - 1) = (bs.length : Int) - 1 from wrap_ok (by omega) (by omega))
  have stop : ∀ M : List (List Bool), InvS bs S M → (roundS bs bs.length (M, false)).2 = false → ∃ R, Least bs (nxs bs) S R ∧ Ev (fun k => spec_l08Live.l1 k M true zs p v s bs) R := fun M hM hf => by
    obtain ⟨b1, b2, b3, b4⟩ := roundS_inv hnl bs.length (Nat.le_refl _) (M, false) hM
    obtain ⟨c1, c2, c3⟩ := b4 hf
    refine ⟨M, ⟨⟨hM.1, fun i hi tq ht => c3 i hi tq ht⟩, hM.2⟩, ?_⟩
    have h2 := live2 zs p v s bs S hs hS hn hblk M bs.length M false (Nat.le_refl _) hM.1 (fun M' g' h => by
      have e1 : M' = M := by rw [show M' = (roundS bs bs.length (M, false)).1 from congrArg Prod.fst h]; exact c2
      have e2 : g' = false := by rw [show g' = (roundS bs bs.length (M, false)).2 from congrArg Prod.snd h]; exact hf
      subst e1 e2
      exact Ev.step (f := fun _ => some M') (fun k => by rw [spec_l08Live.l1, if_neg (by simp)]) (Ev.now _))
    exact Ev.step (fun k => by rw [spec_l08Live.l1, if_pos rfl, hw.out]) h2
  induction d with
  | zero =>
    intro M hM hd
    refine stop M hM ?_
    obtain ⟨b1, b2, b3, b4⟩ := roundS_inv hnl bs.length (Nat.le_refl _) (M, false) hM
    have hc := shp_cnt b1.1
    cases e : (roundS bs bs.length (M, false)).2 with
    | false => rfl
    | true =>
      have h5 := b3 rfl e
      dsimp only at h5
      omega
  | succ d ih =>
    intro M hM hd
    obtain ⟨b1, b2, b3, b4⟩ := roundS_inv hnl bs.length (Nat.le_refl _) (M, false) hM
    cases e : (roundS bs bs.length (M, false)).2 with
    | false => exact stop M hM e
    | true =>
      have h5 := b3 rfl e
      obtain ⟨R, h6, h7⟩ := ih (roundS bs bs.length (M, false)).1 b1 (by dsimp only at h5 ⊢; omega)
      refine ⟨R, h6, ?_⟩
      have h2 := live2 zs p v s bs S hs hS hn hblk R bs.length M false (Nat.le_refl _) hM.1 (fun M' g' h => by
        have e1 : M' = (roundS bs bs.length (M, false)).1 := congrArg Prod.fst h
        have e2 : g' = true := by rw [show g' = (roundS bs bs.length (M, false)).2 from congrArg Prod.snd h]; exact e
        rw [e1, e2]
        exact h7)
      exact Ev.step (fun k => by rw [spec_l08Live.l1, if_pos rfl, hw.out]) h2
theorem live0 (zs : List Int) (p v s : Int) (bs : List S47) (S : Nat) (hs : s = (S : Int)) (hS : S ≤ 1000) (hn : bs.length ≤ 300) (R : List (List Bool)) (hend : Ev (fun k => spec_l08Live.l1 k (List.replicate bs.length (List.replicate S false)) true zs p v s bs) R) (d : Nat) :
    ∀ j : Nat, j + d = bs.length → Ev (fun k => spec_l08Live.l0 k (List.replicate j (List.replicate S false)) (j : Int) zs p v s bs) R := by
  induction d with
  | zero =>
    intro j hj
    obtain rfl : j = bs.length := by omega
    exact Ev.step (fun k => by rw [spec_l08Live.l0, if_neg (by omega)]) hend
  | succ d ih =>
    intro j hj
    have h1 := ih (j + 1) (by omega)
    have hw := Zs0.mk (show wrap64 ((j : Int) + 1) = ((j + 1 : Nat) : Int) by rw [wrap_ok (by omega) (by omega)]; omega)
    have e : s.toNat = S := by omega
    rw [← rep_snoc] at h1
    exact Ev.step (fun k => by rw [spec_l08Live.l0, if_pos (by omega), if_pos (by omega), if_pos (by omega), if_pos (by rw [List.length_replicate]; omega), e, hw.out]) h1
theorem leB_zero {S : Nat} {Y : List Bool} (h : Y.length = S) : leB (List.replicate S false) Y := ⟨by rw [List.length_replicate, h], fun j hj => by
  have : gb (List.replicate S false) j = false := by
    unfold gb
    rw [List.getD_eq_getElem?_getD, List.getElem?_replicate]
    split <;> rfl
  rw [this] at hj
  cases hj⟩
theorem live_same (zs : List Int) (p v s : Int) (bs : List S47) (hG : Ok.okG zs p v s bs = true) : ∃ R : List (List Bool), Shp bs.length s.toNat R ∧ Ev (fun k => impl_liveOf.f k zs p v s bs) R ∧ Ev (fun k => spec_l08Live.f k zs p v s bs) R := by
  obtain ⟨⟨hs0, hs1⟩, ⟨hn0, hn1⟩, hblk⟩ := okG_blk hG
  have hs : s = (s.toNat : Int) := by omega
  have hnl := nxs_lt hblk
  have hrow : ∀ i, i < bs.length → row (List.replicate bs.length (List.replicate s.toNat false)) i = List.replicate s.toNat false := fun i hi => row_rep hi _
  have hmin : ∀ P, Sol bs (nxs bs) s.toNat P → leM bs.length (List.replicate bs.length (List.replicate s.toNat false)) P := fun P hP i hi => by
    rw [hrow i hi]
    exact leB_zero (hP.1.2 i hi)
  obtain ⟨k, R, h1, h2⟩ := liveI_ends hnl (List.replicate bs.length (List.replicate s.toNat false), List.replicate bs.length (List.replicate s.toNat false)) (S := s.toNat) ⟨shp_rep _ _, shp_rep _ _, hmin, fun i hi => by
    show leB (row (List.replicate bs.length (List.replicate s.toNat false)) i) (trL (bs.getD i z47) (row (List.replicate bs.length (List.replicate s.toNat false)) i))
    rw [hrow i hi]
    exact leB_zero (by rw [trL_len, List.length_replicate])⟩
  obtain ⟨R2, h3, h4⟩ := live1 zs p v s bs s.toNat hs (by omega) hn1 hblk (bs.length * s.toNat) (List.replicate bs.length (List.replicate s.toNat false)) ⟨shp_rep _ _, hmin⟩ (Nat.sub_le _ _)
  obtain rfl := h2.one h3
  refine ⟨R, h2.1.1, Ev.of (k := k) (impl_liveOf.mono _ _ _ _ _) ?_, ?_⟩
  · unfold impl_liveOf.f
    rw [if_pos hG]
    exact h1
  · have h5 := live0 zs p v s bs s.toNat hs (by omega) hn1 R h4 bs.length 0 (by omega)
    exact h5
end Go.Proofs.Ytcbpbnkoolpibaa.Gr
