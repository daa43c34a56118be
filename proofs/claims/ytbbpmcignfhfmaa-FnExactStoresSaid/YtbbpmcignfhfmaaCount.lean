/- How many steps of a kind a graph has: the reference's loops and the program's tell the same number. Conditions: as each lemma says. -/
import Derived.Test.YtbbpmcignfhfmaaGr
import Derived.Test.YtbbpmcignfhfmaaF60
import Derived.Test.YtbbpmcignfhfmaaF63
namespace Go.Proofs.Ytbbpmcignfhfmaa.Gr
open Go.RowKit Go.Proofs.Ytbbpmcignfhfmaa.P Go.Proofs.YtbbpmcignfhfmaaW.PrintWords Go.Proofs.YtbbpmcignfhfmaaW.PrintLast Go.Proofs.Ytbbpmcignfhfmaa.Aux Go.Proofs.Ytbbpmcignfhfmaa.Opens
set_option linter.unusedVariables false
set_option linter.unusedSimpArgs false
def cntI (op : Int) : List S39 → Int
  | [] => 0
  | x :: xs => (if x.f0 = op then 1 else 0) + cntI op xs
def cnt (op : Int) : List S49 → Int
  | [] => 0
  | b :: bs => cntI op b.f0 + cnt op bs
theorem cntI_le (op : Int) (xs : List S39) : 0 ≤ cntI op xs ∧ cntI op xs ≤ xs.length := by
  induction xs with
  | nil => simp [cntI]
  | cons x xs ih =>
    simp only [cntI, List.length_cons]
    split <;> omega
theorem spec_l1 (op : Int) (zs : List Int) (p v s : Int) (bs : List S49) (i : Nat) (hi : i < bs.length) (hc : (bs[i]'hi).f0.length < 4611686018427387904) (R M : Int) (hn : bs.length < 4611686018427387904)
    (next : ∀ n, 0 ≤ n → n ≤ M + (bs[i]'hi).f0.length → Ev (fun k => spec_l07Count.l0 k op n ((i + 1 : Nat) : Int) zs p v s bs) (n + R)) (hM : M + (bs[i]'hi).f0.length < 4611686018427387904) (d : Nat) :
    ∀ (j : Nat) (n : Int), j + d = (bs[i]'hi).f0.length → 0 ≤ n → n + d ≤ M + (bs[i]'hi).f0.length → Ev (fun k => spec_l07Count.l1 k op n (i : Int) (j : Int) zs p v s bs) (n + (cntI op ((bs[i]'hi).f0.drop j) + R)) := by
  have hb := rdIB bs i hi
  induction d with
  | zero =>
    intro j n hj h0 h1
    have h := next n h0 (by omega)
    rw [List.drop_eq_nil_of_le (by omega)]
    simp only [cntI, Int.zero_add]
    refine Ev.step (fun k => ?_) h
    rw [spec_l07Count.l1, if_pos (by omega), if_pos (by omega), hb, if_neg (by omega), wrap_ok (by omega) (by omega)]
    rfl
  | succ d ih =>
    intro j n hj h0 h1
    have hd : (bs[i]'hi).f0.drop j = (bs[i]'hi).f0[j]'(by omega) :: (bs[i]'hi).f0.drop (j + 1) := List.drop_eq_getElem_cons (by omega)
    have hx := rdII (bs[i]'hi).f0 j (by omega)
    rw [hd]
    simp only [cntI]
    by_cases h : ((bs[i]'hi).f0[j]'(by omega)).f0 = op
    · have h2 := ih (j + 1) (n + 1) (by omega) (by omega) (by omega)
      rw [if_pos h, show n + (1 + cntI op ((bs[i]'hi).f0.drop (j + 1)) + R) = n + 1 + (cntI op ((bs[i]'hi).f0.drop (j + 1)) + R) by omega]
      refine Ev.step (fun k => ?_) h2
      rw [spec_l07Count.l1, if_pos (by omega), if_pos (by omega), hb, if_pos (by omega), if_pos (by omega), hx, if_pos h, wrap_ok (i := n + 1) (by omega) (by omega), wrap_ok (i := (j : Int) + 1) (by omega) (by omega)]
      rfl
    · have h2 := ih (j + 1) n (by omega) (by omega) (by omega)
      rw [if_neg h, Int.zero_add]
      refine Ev.step (fun k => ?_) h2
      rw [spec_l07Count.l1, if_pos (by omega), if_pos (by omega), hb, if_pos (by omega), if_pos (by omega), hx, if_neg h, wrap_ok (i := (j : Int) + 1) (by omega) (by omega)]
      rfl
theorem impl_l1 (op : Int) (bs : List S49) (i : Nat) (hi : i < bs.length) (hc : (bs[i]'hi).f0.length < 4611686018427387904) (R M : Int) (hn : bs.length < 4611686018427387904)
    (next : ∀ n, 0 ≤ n → n ≤ M + (bs[i]'hi).f0.length → Ev (fun k => impl_countOps.l0 k op n bs (bs.length : Int) ((i + 1 : Nat) : Int)) (n + R)) (hM : M + (bs[i]'hi).f0.length < 4611686018427387904) (d : Nat) :
    ∀ (j : Nat) (n : Int), j + d = (bs[i]'hi).f0.length → 0 ≤ n → n + d ≤ M + (bs[i]'hi).f0.length → Ev (fun k => impl_countOps.l1 k op n bs (bs.length : Int) (i : Int) (bs[i]'hi).f0 ((bs[i]'hi).f0.length : Int) (j : Int)) (n + (cntI op ((bs[i]'hi).f0.drop j) + R)) := by
  induction d with
  | zero =>
    intro j n hj h0 h1
    have h := next n h0 (by omega)
    rw [List.drop_eq_nil_of_le (by omega)]
    simp only [cntI, Int.zero_add]
    refine Ev.step (fun k => ?_) h
    rw [impl_countOps.l1, if_neg (by omega), wrap_ok (by omega) (by omega)]
    rfl
  | succ d ih =>
    intro j n hj h0 h1
    have hd : (bs[i]'hi).f0.drop j = (bs[i]'hi).f0[j]'(by omega) :: (bs[i]'hi).f0.drop (j + 1) := List.drop_eq_getElem_cons (by omega)
    have hx := rdII (bs[i]'hi).f0 j (by omega)
    rw [hd]
    simp only [cntI]
    by_cases h : ((bs[i]'hi).f0[j]'(by omega)).f0 = op
    · have h2 := ih (j + 1) (n + 1) (by omega) (by omega) (by omega)
      rw [if_pos h, show n + (1 + cntI op ((bs[i]'hi).f0.drop (j + 1)) + R) = n + 1 + (cntI op ((bs[i]'hi).f0.drop (j + 1)) + R) by omega]
      refine Ev.step (fun k => ?_) h2
      rw [impl_countOps.l1, if_pos (by omega), if_pos (by omega), if_pos (by omega), hx, if_pos h, wrap_ok (i := n + 1) (by omega) (by omega), wrap_ok (i := (j : Int) + 1) (by omega) (by omega)]
      rfl
    · have h2 := ih (j + 1) n (by omega) (by omega) (by omega)
      rw [if_neg h, Int.zero_add]
      refine Ev.step (fun k => ?_) h2
      rw [impl_countOps.l1, if_pos (by omega), if_pos (by omega), if_pos (by omega), hx, if_neg h, wrap_ok (i := (j : Int) + 1) (by omega) (by omega)]
      rfl
/-- How many steps there are from a block on. -/
def stepsI : List S49 → Nat
  | [] => 0
  | b :: bs => b.f0.length + stepsI bs
theorem stepsI_conv (bs : List S44) : stepsI (bs.map convB) = steps bs := by
  induction bs with
  | nil => rfl
  | cons b bs ih => simp [stepsI, steps, convB, ih]
theorem spec_l0 (op : Int) (zs : List Int) (p v s : Int) (bs : List S49) (hn : bs.length < 4611686018427387904) (d : Nat) :
    ∀ (i : Nat) (n : Int), i + d = bs.length → 0 ≤ n → n + stepsI (bs.drop i) < 4611686018427387904 → Ev (fun k => spec_l07Count.l0 k op n (i : Int) zs p v s bs) (n + cnt op (bs.drop i)) := by
  induction d with
  | zero =>
    intro i n hi h0 h1
    rw [List.drop_eq_nil_of_le (by omega)]
    simp only [cnt, Int.add_zero]
    exact Ev.step (fun k => by rw [spec_l07Count.l0, if_neg (by omega)]) (Ev.now _)
  | succ d ih =>
    intro i n hi h0 h1
    have hd : bs.drop i = bs[i]'(by omega) :: bs.drop (i + 1) := List.drop_eq_getElem_cons (by omega)
    rw [hd] at h1 ⊢
    simp only [stepsI, cnt] at h1 ⊢
    refine Ev.step (fun k => by rw [spec_l07Count.l0, if_pos (by omega)]) ?_
    have h := spec_l1 op zs p v s bs i (by omega) (by omega) (cnt op (bs.drop (i + 1))) n hn (fun m hm0 hm1 => ih (i + 1) m (by omega) hm0 (by omega)) (by omega) _ 0 n (Nat.zero_add _) h0 (Int.le_refl _)
    exact h
theorem impl_l0 (op : Int) (bs : List S49) (hn : bs.length < 4611686018427387904) (d : Nat) :
    ∀ (i : Nat) (n : Int), i + d = bs.length → 0 ≤ n → n + stepsI (bs.drop i) < 4611686018427387904 → Ev (fun k => impl_countOps.l0 k op n bs (bs.length : Int) (i : Int)) (n + cnt op (bs.drop i)) := by
  induction d with
  | zero =>
    intro i n hi h0 h1
    rw [List.drop_eq_nil_of_le (by omega)]
    simp only [cnt, Int.add_zero]
    exact Ev.step (fun k => by rw [impl_countOps.l0, if_neg (by omega)]) (Ev.now _)
  | succ d ih =>
    intro i n hi h0 h1
    have hd : bs.drop i = bs[i]'(by omega) :: bs.drop (i + 1) := List.drop_eq_getElem_cons (by omega)
    have hb := rdIB bs i (by omega)
    rw [hd] at h1 ⊢
    simp only [stepsI, cnt] at h1 ⊢
    refine Ev.step (fun k => by rw [impl_countOps.l0, if_pos (by omega), if_pos (by omega), if_pos (by omega), hb]) ?_
    have h := impl_l1 op bs i (by omega) (by omega) (cnt op (bs.drop (i + 1))) n hn (fun m hm0 hm1 => ih (i + 1) m (by omega) hm0 (by omega)) (by omega) _ 0 n (Nat.zero_add _) h0 (Int.le_refl _)
    exact h
theorem spec_count (op : Int) (zs : List Int) (p v s : Int) (ls : List S44) (hs : Small zs ls) : Ev (fun k => spec_l07Count.f k zs p v s (ls.map convB) op) (cnt op (ls.map convB)) := by
  have hb := hs.blocks
  have hst := hs.steps
  have h := spec_l0 op zs p v s (ls.map convB) (by simp; omega) (ls.map convB).length 0 0 (by omega) (by omega) (by rw [List.drop_zero, stepsI_conv]; omega)
  rw [List.drop_zero, Int.zero_add] at h
  exact h
theorem impl_count (op : Int) (zs : List Int) (p v s : Int) (ls : List S44) (hs : Small zs ls) : Ev (fun k => impl_countOps.f k zs p v s (ls.map convB) op) (cnt op (ls.map convB)) := by
  have hb := hs.blocks
  have hst := hs.steps
  have h := impl_l0 op (ls.map convB) (by simp; omega) (ls.map convB).length 0 0 (by omega) (by omega) (by rw [List.drop_zero, stepsI_conv]; omega)
  rw [List.drop_zero, Int.zero_add] at h
  exact h
end Go.Proofs.Ytbbpmcignfhfmaa.Gr
