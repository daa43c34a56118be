/- Small lemmas on rounds, rows of numbers and sums that do not wrap. -/
import Derived.Test.YthbonkpmaomhoaaWWords
namespace Go.Proofs.Ythbonkpmaomhoaa.Aid
open Go.RowKit Go.Proofs.YthbonkpmaomhoaaW.PrintWords
theorem wrap_ok {i : Int} (h0 : -9223372036854775808 ≤ i) (h : i ≤ 9223372036854775807) : wrap64 i = i := by
  unfold wrap64
  omega
theorem rdOf_lt {α : Type} (d : α) (xs : List α) (i : Nat) (h : i < xs.length) : rdOf d xs (i : Int) = xs[i] := by
  simp [rdOf, List.getD_eq_getElem?_getD, List.getElem?_eq_getElem h]
theorem rd_lt (xs : List Int) (i : Nat) (h : i < xs.length) : rd xs (i : Int) = xs[i] := by
  simp [rd, List.getD_eq_getElem?_getD, List.getElem?_eq_getElem h]
theorem Ev.ite_pos {α : Type} {p : Prop} [Decidable p] {f g : Nat → Option α} {r : α} (hp : p) (h : Ev f r) : Ev (fun k => if p then f k else g k) r := by
  simp only [if_pos hp]
  exact h
theorem Ev.ite_neg {α : Type} {p : Prop} [Decidable p] {f g : Nat → Option α} {r : α} (hp : ¬ p) (h : Ev g r) : Ev (fun k => if p then f k else g k) r := by
  simp only [if_neg hp]
  exact h
/-- A function without rounds. -/
theorem Ev.const {α β : Type} {o : Option α} {f : Nat → α → Option β} {a : α} {r : β} (h : o = some a) (k : Ev (fun n => f n a) r) : Ev (fun n => o.bind (f n)) r := by
  subst h
  exact k
/-- A loop that holds two rows of numbers against each other, by the equation of its round. -/
theorem eqInts_loop (G : Nat → List Int → List Int → Int → Option Bool)
    (hG : ∀ k x0 x1 i, G (k + 1) x0 x1 i = if i < (x0.length : Int) then (if 0 ≤ i then (if i < (x1.length : Int) then (if (rd x0 i) = (rd x1 i) then G k x0 x1 (wrap64 (i + 1)) else some false) else none) else none) else some true)
    (xs ys : List Int) (hl : xs.length = ys.length) (hn : xs.length < 9223372036854775807) (d : Nat) : ∀ i : Nat, i + d = xs.length → Ev (fun k => G k xs ys (i : Int)) (decide (xs.drop i = ys.drop i)) := by
  induction d with
  | zero =>
    intro i hi
    refine Ev.step (fun k => by rw [hG, if_neg (by omega)]) ?_
    rw [List.drop_eq_nil_of_le (by omega), List.drop_eq_nil_of_le (by omega)]
    exact Ev.now _
  | succ d ih =>
    intro i hi
    have hx : xs.drop i = xs[i]'(by omega) :: xs.drop (i + 1) := List.drop_eq_getElem_cons (by omega)
    have hy : ys.drop i = ys[i]'(by omega) :: ys.drop (i + 1) := List.drop_eq_getElem_cons (by omega)
    have r1 := rd_lt xs i (by omega)
    have r2 := rd_lt ys i (by omega)
    rw [hx, hy]
    by_cases h : xs[i]'(by omega) = ys[i]'(by omega)
    · refine Ev.step (fun k => by rw [hG, if_pos (by omega), if_pos (by omega), if_pos (by omega), r1, r2, if_pos h, wrap_ok (by omega) (by omega)]) ?_
      simp only [List.cons.injEq, h, true_and]
      exact ih (i + 1) (by omega)
    · refine Ev.step (f := fun _ => some false) (fun k => by rw [hG, if_pos (by omega), if_pos (by omega), if_pos (by omega), r1, r2, if_neg h]) ?_
      simp only [List.cons.injEq, h, false_and, decide_false]
      exact Ev.now _
/-- The same with the length at hand, as slices.Equal has it. -/
theorem eqInts_loop_n (G : Nat → List Int → List Int → Int → Int → Option Bool)
    (hG : ∀ k x0 x1 n i, G (k + 1) x0 x1 n i = if i < n then (if 0 ≤ i then (if i < (x0.length : Int) then (if i < (x1.length : Int) then (if (rd x0 i) = (rd x1 i) then G k x0 x1 n (wrap64 (i + 1)) else some false) else none) else none) else none) else some true)
    (xs ys : List Int) (hl : xs.length = ys.length) (hn : xs.length < 9223372036854775807) (d : Nat) : ∀ i : Nat, i + d = xs.length → Ev (fun k => G k xs ys (xs.length : Int) (i : Int)) (decide (xs.drop i = ys.drop i)) := by
  induction d with
  | zero =>
    intro i hi
    refine Ev.step (fun k => by rw [hG, if_neg (by omega)]) ?_
    rw [List.drop_eq_nil_of_le (by omega), List.drop_eq_nil_of_le (by omega)]
    exact Ev.now _
  | succ d ih =>
    intro i hi
    have hx : xs.drop i = xs[i]'(by omega) :: xs.drop (i + 1) := List.drop_eq_getElem_cons (by omega)
    have hy : ys.drop i = ys[i]'(by omega) :: ys.drop (i + 1) := List.drop_eq_getElem_cons (by omega)
    have r1 := rd_lt xs i (by omega)
    have r2 := rd_lt ys i (by omega)
    rw [hx, hy]
    by_cases h : xs[i]'(by omega) = ys[i]'(by omega)
    · refine Ev.step (fun k => by rw [hG, if_pos (by omega), if_pos (by omega), if_pos (by omega), if_pos (by omega), r1, r2, if_pos h, wrap_ok (by omega) (by omega)]) ?_
      simp only [List.cons.injEq, h, true_and]
      exact ih (i + 1) (by omega)
    · refine Ev.step (f := fun _ => some false) (fun k => by rw [hG, if_pos (by omega), if_pos (by omega), if_pos (by omega), if_pos (by omega), r1, r2, if_neg h]) ?_
      simp only [List.cons.injEq, h, false_and, decide_false]
      exact Ev.now _
/-- One round of a loop that writes a row anew, element by element. -/
theorem set_fill {α β : Type} (xs : List α) (g : α → β) (z : β) (i : Nat) (h : i < xs.length) :
    ((xs.take i).map g ++ List.replicate (xs.length - i) z).set i (g xs[i]) = (xs.take (i + 1)).map g ++ List.replicate (xs.length - (i + 1)) z := by
  have hr : List.replicate (xs.length - i) z = z :: List.replicate (xs.length - (i + 1)) z := by
    rw [show xs.length - i = (xs.length - (i + 1)) + 1 by omega, List.replicate_succ]
  rw [List.set_append_right _ _ (by simp; omega), hr, List.take_succ_eq_append_getElem h, List.map_append, List.length_map, List.length_take, show i - min i xs.length = 0 by omega]
  simp only [List.set_cons_zero, List.map_cons, List.map_nil, List.append_assoc, List.cons_append, List.nil_append]
theorem fill_length {α β : Type} (xs : List α) (g : α → β) (z : β) (i : Nat) (h : i ≤ xs.length) : ((xs.take i).map g ++ List.replicate (xs.length - i) z).length = xs.length := by
  simp
  omega
/-- A loop that copies a row of numbers. -/
theorem copyInts_loop (G : Nat → List Int → List Int → Int → Option (List Int))
    (hG : ∀ k x0 x3 i, G (k + 1) x0 x3 i = if i < (x0.length : Int) then (if 0 ≤ i then (if i < (x3.length : Int) then G k x0 (x3.set (i : Int).toNat (rd x0 i)) (wrap64 (i + 1)) else none) else none) else some x3)
    (xs : List Int) (hn : xs.length < 9223372036854775807) (d : Nat) : ∀ i : Nat, i + d = xs.length → Ev (fun k => G k xs ((xs.take i).map id ++ List.replicate (xs.length - i) 0) (i : Int)) xs := by
  induction d with
  | zero =>
    intro i hi
    refine Ev.step (fun k => by rw [hG, if_neg (by omega)]) ?_
    have : (xs.take i).map id ++ List.replicate (xs.length - i) 0 = xs := by
      rw [List.take_of_length_le (by omega), show xs.length - i = 0 by omega]
      simp
    rw [this]
    exact Ev.now _
  | succ d ih =>
    intro i hi
    have r1 := rd_lt xs i (by omega)
    have hf := fill_length xs id 0 i (by omega)
    refine Ev.step (fun k => by rw [hG, if_pos (by omega), if_pos (by omega), if_pos (by omega), r1, wrap_ok (by omega) (by omega), Int.toNat_natCast]) ?_
    have := set_fill xs id 0 i (by omega)
    simp only [id_eq] at this
    rw [this]
    exact ih (i + 1) (by omega)
end Go.Proofs.Ythbonkpmaomhoaa.Aid
