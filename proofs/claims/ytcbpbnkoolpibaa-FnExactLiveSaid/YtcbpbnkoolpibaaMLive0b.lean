/- Functions of the program and of the reference as plain functions, and that the Go code comes to their answers; several texts in one. No conditions beyond what each theorem says. -/
import Derived.Test.YtcbpbnkoolpibaaMLive0a
namespace Go.Proofs.Ytcbpbnkoolpibaa.P
open Go.RowKit Go.Proofs.YtcbpbnkoolpibaaW.PrintWords Go.Proofs.YtcbpbnkoolpibaaW.PrintLast Go.Proofs.YtcbpbnkoolpibaaW.PrintMore
attribute [local go_sem] max2_int min2_int max_two min_two max_three min_three max_four min_four   -- for this text's walks alone
set_option linter.unusedVariables false
set_option linter.unusedSimpArgs false

/-! ### laws_markIntS: function 24 -/
def laws_markIntS.l0 : Nat → List Int → Int → Int → Option (Int × List Int)
  | 0, _, _, _ => none
  | k + 1, x0, x1, x5 => if x5 < (x0.length : Int) then (if 0 ≤ x5 then (laws_markIntS.l0 k (x0.set (x5 : Int).toNat x1) (wrap64 (x1 + 1)) (wrap64 (x5 + 1))) else (none)) else (some (x1, x0))
def laws_markIntS.f (k : Nat) (l0 : List Int) (a1 : Int) : Option (Int × List Int) := laws_markIntS.l0 k l0 a1 0
theorem laws_markIntS.mono_l : ∀ k, (∀ y0 y1 y2, LeO (laws_markIntS.l0 k y0 y1 y2) (laws_markIntS.l0 (k + 1) y0 y1 y2))
  | 0 => fun _ _ _ r h => by simp [laws_markIntS.l0] at h
  | k + 1 => by
    have ih0 := laws_markIntS.mono_l k
    · intro y0 y1 y2
      unfold laws_markIntS.l0
      repeat' first
      | (with_reducible exact ih0 _ _ _)
      | (with_reducible exact LeO.refl _)
      | (with_reducible exact LeO.none _)
      | (with_reducible refine LeO.ite ?_ ?_)
      | (with_reducible refine LeO.bind ?_ (fun _ => ?_))
      | exact ih0 _ _ _
      | exact LeO.none _
      | refine LeO.ite ?_ ?_
      | refine LeO.bind ?_ (fun _ => ?_)
theorem laws_markIntS.mono : ∀ a0 a1 k, LeO (laws_markIntS.f k a0 a1) (laws_markIntS.f (k + 1) a0 a1) := by
  intro a0 a1 k
  have ih0 := laws_markIntS.mono_l k
  unfold laws_markIntS.f
  repeat' first
      | (with_reducible exact ih0 _ _ _)
      | (with_reducible exact LeO.refl _)
      | (with_reducible exact LeO.none _)
      | (with_reducible refine LeO.ite ?_ ?_)
      | (with_reducible refine LeO.bind ?_ (fun _ => ?_))
      | exact ih0 _ _ _
      | exact LeO.none _
      | refine LeO.ite ?_ ?_
      | refine LeO.bind ?_ (fun _ => ?_)
set_option maxHeartbeats 8000000 in
set_option maxRecDepth 100000 in
theorem laws_markIntS.calls (k : Nat) (P0_ : Nat → Prop) (u9000_ : Value) (l0 : List Int) (a1 : Int) (r1 : Int) (r2 : List Int) (w0 w : World) (hB : Below w0.heap.size w0 w) (ho0 : Kd.R (Kd.int .i64) 3 w w0.heap.size P0_ u9000_ l0) (h : laws_markIntS.f k l0 a1 = some (r1, r2)) :
  Calls Try.prog 24 #[u9000_, .int .i64 a1] w fun e w' => e = .returned (.int .i64 r1) ∧ Kd.R (Kd.int .i64) 3 w' w0.heap.size (fun k_ => (P0_ k_ ∨ w.heap.size ≤ k_)) u9000_ r2 ∧ Below w0.heap.size w0 w' ∧ Kept w w' (fun k_ => P0_ k_) := by
 have HO0 := Zs0.mk (show Kd.R (Kd.int .i64) 3 w w0.heap.size (fun k_ => (P0_ k_ ∨ w.heap.size ≤ k_)) u9000_ l0 from Kd.R_mono ho0 (fun k_ hk => (.inl hk)))
 have HK := Zs0.mk (Kept.refl w (fun k_ => P0_ k_))
 have HW0 := Zs0.mk hB.size
 have HB := Zs0.mk hB
 clear hB
 have H : (laws_markIntS.l0 k l0 a1 0) = some (r1, r2) := h
 clear h
 have H' := Zs0.mk H
 clear H
 go_enter Try.func24, Try.ntmps24
 go_wp2
 go_loopg [1, 5] k (fun kq v1 v5 w' => ∃ (x0_1 : List Int) (x1_1 : Int) (x5_1 : Int), v1 = .int .i64 x1_1 ∧ v5 = .int .i64 x5_1 ∧ Zs0 (laws_markIntS.l0 kq x0_1 x1_1 x5_1 = some (r1, r2)) ∧ Zs0 (kq ≤ k) ∧ Zs0 (Kd.R (Kd.int .i64) 3 w' w0.heap.size (fun k_ => (P0_ k_ ∨ w.heap.size ≤ k_)) u9000_ x0_1) ∧ Zs0 (Kept w w' (fun k_ => P0_ k_)) ∧ Zs0 (Below w0.heap.size w0 w'))
 case atStart => exact ⟨(l0), (a1), (0), zq, zq, H', ⟨Nat.le_refl _⟩, ⟨zR HO0.out⟩, ⟨by repeat (first | (with_reducible first | exact HK.out | apply Kept.alloc | apply Kept.drewN | apply Kept.drew) | exact HK.out)⟩, ⟨zB⟩⟩
 case round =>
  clear H'
  try clear c2
  try clear p2
  obtain ⟨x0_1, x1_1, x5_1, rfl, rfl, HA, HK1, HO_0, HK, HB⟩ := hrel
  cases gk with
  | zero => exact absurd HA.out (by simp [laws_markIntS.l0])
  | succ k1 =>
   have H := HA.out
   clear HA
   simp only [laws_markIntS.l0] at H
   by_cases c3 : x5_1 < (x0_1.length : Int)
   ·rw [if_pos c3] at H
    have c3b0 : decide (x5_1 < (x0_1.length : Int)) = true := decide_eq_true c3
    clear c3
    have c4 := ipos H
    rw [if_pos c4] at H
    have c4b0 := decide_eq_true c4
    clear c4
    obtain ⟨y101, hy101⟩ : ∃ y_ : List Int, y_ = (x0_1.set (x5_1 : Int).toNat x1_1) := ⟨_, rfl⟩
    replace H : (laws_markIntS.l0 k1 y101 (wrap64 (x1_1 + 1)) (wrap64 (x5_1 + 1))) = some (r1, r2) := by first | (rw [hy101]; with_reducible exact H) | (have H2_ := (Option.bind_some _ _).symm.trans H; rw [hy101]; with_reducible exact H2_) | (have H2_ := (Option.bind_some _ _).symm.trans H; with_reducible exact H2_) | with_reducible exact H | (rw [hy101]; exact H) | exact H
    have Ny101 := Zs0.mk hy101
    clear hy101
    have H' := Zs0.mk H
    clear H
    obtain ⟨Ao6, co6, eo6⟩ := Kd.R_slice HO_0.out
    subst eo6
    have p5 : 0 ≤ (x5_1 : Int) := zD
    have q5 : (x5_1 : Int) < ((x0_1.length : Int) : Int) := zD
    obtain ⟨go5, co5, eo5, gb5, gl5, cl5, HG5⟩ := Kd.R_form HO_0.out (by omega)
    (first | cases eo5 | (injection eo5 with ea_ en_ ec_; (first | subst ea_ | (injection ea_ with ea_; subst ea_)); subst ec_; clear en_))
    have GB5 := Zs0.mk gb5
    have GG5 := Zs0.mk HG5
    clear gb5 gl5 HG5
    have HMgo5 := Zs0.mk (show (P0_ go5 ∨ w.heap.size ≤ go5) from (HO_0.out.1 _ rfl))
    obtain ⟨hx5_0, hf5_0⟩ := Kd.R_celln 0 HO_0.out (x5_1 : Int) p5 q5
    replace p5 := eq_true p5
    replace q5 := eq_true q5
    have HP7 := Kd.R_putg HO_0.out (x5_1 : Int) x1_1
    go_wp2_with (first | ((with_reducible refine gate_store (t := 3) (p := 15) rfl ?_); refine store_event (t := 3) (p := 15) (v := ?vo_w8) (w1 := (wr.setCell ⟨go5, (x5_1 : Int).toNat, none⟩ (.int .i64 x1_1))) ?hg ?ho ?hn ?hr ?_; (case ho => rfl); (case hg => rfl); (case hn => rfl); (case hr => first | (go_simp; done) | (go_simp; rfl)); intro w8 hw; have hg : wr.grownBy w8 (some go5) := (by rw [hw]; exact HP7.2); have hp_ : Kd.R (Kd.int .i64) 3 w8 w0.heap.size (fun k_ => (P0_ k_ ∨ w.heap.size ≤ k_)) (.slice (some ⟨go5, 0, none⟩) x0_1.length co6) y101 := (by rw [hw, Ny101.out]; exact HP7.1); clear HP7; have n0_ := Zs0.mk (hp_); have n1_ := Zs0.mk ((by rw [hw]; exact blS (HB.out) GB5.out : Below w0.heap.size w0 w8)); have n2_ := Zs0.mk (Kept.of_grown (S := (fun k_ => P0_ k_)) hg (by repeat (first | (with_reducible first | exact HK.out | apply Kept.alloc | apply Kept.drewN | apply Kept.drew) | exact HK.out)) (fun k_ e_ => (HO_0.out.1 k_ e_))); revert n0_ n1_ n2_; clear HO_0 HB HK; intro HO_0 HB HK; clear hg hw hp_))
    go_roundg k1
    case measure => have := HK1.out; omega
    case rel => exact ⟨(y101), (wrap64 (x1_1 + 1)), (wrap64 (x5_1 + 1)), zq, zq, H', ⟨by have := HK1.out; omega⟩, ⟨zR HO_0.out⟩, ⟨by repeat (first | (with_reducible first | exact HK.out | apply Kept.alloc | apply Kept.drewN | apply Kept.drew) | exact HK.out)⟩, ⟨zB⟩⟩
   ·rw [if_neg c3] at H
    have c3b0 : decide (x5_1 < (x0_1.length : Int)) = false := decide_eq_false c3
    clear c3
    simp only [Option.some.injEq, Prod.mk.injEq] at H
    obtain ⟨rfl, rfl⟩ := H
    obtain ⟨Ao9, co9, eo9⟩ := Kd.R_slice HO_0.out
    subst eo9
    go_wp2
    go_ret
    exact ⟨zr, by (with_reducible repeat (first | apply Kd.rA1 | apply Kd.rD1 | apply Kd.rD2)); exact HO_0.out, zB, by repeat (first | (with_reducible first | exact HK.out | apply Kept.alloc | apply Kept.drewN | apply Kept.drew) | exact HK.out)⟩

end Go.Proofs.Ytcbpbnkoolpibaa.P
namespace Go.Proofs.Ytcbpbnkoolpibaa.Aux
open Go.RowKit Go.Proofs.YtcbpbnkoolpibaaW.PrintWords
theorem wrap_ok {i : Int} (h0 : -9223372036854775808 ≤ i) (h : i ≤ 9223372036854775807) : wrap64 i = i := by
  unfold wrap64
  omega
theorem rdOf_lt {α : Type} (d : α) (xs : List α) (i : Nat) (h : i < xs.length) : rdOf d xs (i : Int) = xs[i] := by
  simp [rdOf, List.getD_eq_getElem?_getD, List.getElem?_eq_getElem h]
theorem rd_lt (xs : List Int) (i : Nat) (h : i < xs.length) : rd xs (i : Int) = xs[i] := by
  simp [rd, List.getD_eq_getElem?_getD, List.getElem?_eq_getElem h]
theorem Ev.ite_pos {α : Type} {p : Prop} [Decidable p] {f g : Nat → Option α} {r : α} (hp : p) (h : Ev f r) : Ev (fun k => if p then f k else g k) r := by
  simp only [if_pos hp]
  exact h
theorem Ev.ite_neg {α : Type} {p : Prop} [Decidable p] {f g : Nat → Option α} {r : α} (hp : ¬ p) (h : Ev g r) : Ev (fun k => if p then f k else g k) r := by
  simp only [if_neg hp]
  exact h
/-- A function without rounds. -/
theorem Ev.const {α β : Type} {o : Option α} {f : Nat → α → Option β} {a : α} {r : β} (h : o = some a) (k : Ev (fun n => f n a) r) : Ev (fun n => o.bind (f n)) r := by
  subst h
  exact k
/-- A loop that holds two rows of numbers against each other, by the equation of its round. -/
theorem eqInts_loop (G : Nat → List Int → List Int → Int → Option Bool)
    (hG : ∀ k x0 x1 i, G (k + 1) x0 x1 i = if i < (x0.length : Int) then (if 0 ≤ i then (if i < (x1.length : Int) then (if (rd x0 i) = (rd x1 i) then G k x0 x1 (wrap64 (i + 1)) else some false) else none) else none) else some true)
    (xs ys : List Int) (hl : xs.length = ys.length) (hn : xs.length < 9223372036854775807) (d : Nat) : ∀ i : Nat, i + d = xs.length → Ev (fun k => G k xs ys (i : Int)) (decide (xs.drop i = ys.drop i)) := by
  induction d with
  | zero =>
    intro i hi
    refine Ev.step (fun k => by rw [hG, if_neg (by omega)]) ?_
    rw [List.drop_eq_nil_of_le (by omega), List.drop_eq_nil_of_le (by omega)]
    exact Ev.now _
  | succ d ih =>
    intro i hi
    have hx : xs.drop i = xs[i]'(by omega) :: xs.drop (i + 1) := List.drop_eq_getElem_cons (by omega)
    have hy : ys.drop i = ys[i]'(by omega) :: ys.drop (i + 1) := List.drop_eq_getElem_cons (by omega)
    have r1 := rd_lt xs i (by omega)
    have r2 := rd_lt ys i (by omega)
    rw [hx, hy]
    by_cases h : xs[i]'(by omega) = ys[i]'(by omega)
    · refine Ev.step (fun k => by rw [hG, if_pos (by omega), if_pos (by omega), if_pos (by omega), r1, r2, if_pos h, wrap_ok (by omega) (by omega)]) ?_
      simp only [List.cons.injEq, h, true_and]
      exact ih (i + 1) (by omega)
    · refine Ev.step (f := fun _ => some false) (fun k => by rw [hG, if_pos (by omega), if_pos (by omega), if_pos (by omega), r1, r2, if_neg h]) ?_
      simp only [List.cons.injEq, h, false_and, decide_false]
      exact Ev.now _
/-- One round of a loop that writes a row anew, element by element. -/
theorem set_fill {α β : Type} (xs : List α) (g : α → β) (z : β) (i : Nat) (h : i < xs.length) :
    ((xs.take i).map g ++ List.replicate (xs.length - i) z).set i (g xs[i]) = (xs.take (i + 1)).map g ++ List.replicate (xs.length - (i + 1)) z := by
  have hr : List.replicate (xs.length - i) z = z :: List.replicate (xs.length - (i + 1)) z := by
    rw [show xs.length - i = (xs.length - (i + 1)) + 1 by omega, List.replicate_succ]
  rw [List.set_append_right _ _ (by simp; omega), hr, List.take_succ_eq_append_getElem h, List.map_append, List.length_map, List.length_take, show i - min i xs.length = 0 by omega]
  simp only [List.set_cons_zero, List.map_cons, List.map_nil, List.append_assoc, List.cons_append, List.nil_append]
theorem fill_length {α β : Type} (xs : List α) (g : α → β) (z : β) (i : Nat) (h : i ≤ xs.length) : ((xs.take i).map g ++ List.replicate (xs.length - i) z).length = xs.length := by
  simp
  omega
/-- A loop that copies a row of numbers. -/
theorem copyInts_loop (G : Nat → List Int → List Int → Int → Option (List Int))
    (hG : ∀ k x0 x3 i, G (k + 1) x0 x3 i = if i < (x0.length : Int) then (if 0 ≤ i then (if i < (x3.length : Int) then G k x0 (x3.set (i : Int).toNat (rd x0 i)) (wrap64 (i + 1)) else none) else none) else some x3)
    (xs : List Int) (hn : xs.length < 9223372036854775807) (d : Nat) : ∀ i : Nat, i + d = xs.length → Ev (fun k => G k xs ((xs.take i).map id ++ List.replicate (xs.length - i) 0) (i : Int)) xs := by
  induction d with
  | zero =>
    intro i hi
    refine Ev.step (fun k => by rw [hG, if_neg (by omega)]) ?_
    have : (xs.take i).map id ++ List.replicate (xs.length - i) 0 = xs := by
      rw [List.take_of_length_le (by omega), show xs.length - i = 0 by omega]
      simp
    rw [this]
    exact Ev.now _
  | succ d ih =>
    intro i hi
    have r1 := rd_lt xs i (by omega)
    have hf := fill_length xs id 0 i (by omega)
    refine Ev.step (fun k => by rw [hG, if_pos (by omega), if_pos (by omega), if_pos (by omega), r1, wrap_ok (by omega) (by omega), Int.toNat_natCast]) ?_
    have := set_fill xs id 0 i (by omega)
    simp only [id_eq] at this
    rw [this]
    exact ih (i + 1) (by omega)
theorem eqInts_ev (F : Nat → List Int → List Int → Option Bool) (G : Nat → List Int → List Int → Int → Option Bool) (hF : ∀ k x0 x1, F k x0 x1 = if (x0.length : Int) = (x1.length : Int) then G k x0 x1 0 else some false)
    (hG : ∀ k x0 x1 i, G (k + 1) x0 x1 i = if i < (x0.length : Int) then (if 0 ≤ i then (if i < (x1.length : Int) then (if (rd x0 i) = (rd x1 i) then G k x0 x1 (wrap64 (i + 1)) else some false) else none) else none) else some true)
    (xs ys : List Int) (hn : xs.length < 9223372036854775807) : Ev (fun k => F k xs ys) (decide (xs = ys)) := by
  by_cases h : xs.length = ys.length
  · refine Ev.congr (fun k => by rw [hF, if_pos (by omega)]) ?_
    exact eqInts_loop G hG xs ys h hn xs.length 0 (by omega)
  · refine Ev.congr (f := fun _ => some false) (fun k => by rw [hF, if_neg (by omega)]) ?_
    rw [decide_eq_false (fun e => h (by rw [e]))]
    exact Ev.now _
theorem copyInts_ev (F : Nat → List Int → Option (List Int)) (G : Nat → List Int → List Int → Int → Option (List Int)) (hF : ∀ k x0, F k x0 = if 0 ≤ (x0.length : Int) then (if ((x0.length : Int) : Int).toNat ≤ 35184372088832 then G k x0 (List.replicate ((x0.length : Int) : Int).toNat 0) 0 else none) else none)
    (hG : ∀ k x0 x3 i, G (k + 1) x0 x3 i = if i < (x0.length : Int) then (if 0 ≤ i then (if i < (x3.length : Int) then G k x0 (x3.set (i : Int).toNat (rd x0 i)) (wrap64 (i + 1)) else none) else none) else some x3)
    (xs : List Int) (hn : xs.length ≤ 35184372088832) : Ev (fun k => F k xs) xs := by
  refine Ev.congr (fun k => by rw [hF, if_pos (by omega), if_pos (by omega), Int.toNat_natCast]) ?_
  have h := copyInts_loop G hG xs (by omega) xs.length 0 (by omega)
  simpa using h
/-- m, m + 1, .. : n numbers. -/
def seqFrom (m : Int) : Nat → List Int
  | 0 => []
  | n + 1 => m :: seqFrom (m + 1) n
theorem seqFrom_length (n : Nat) : ∀ m, (seqFrom m n).length = n := by
  induction n with
  | zero => intro m; rfl
  | succ n ih => intro m; simp [seqFrom, ih]
theorem markInts_loop (G : Nat → List Int → Int → Int → Option (Int × List Int))
    (hG : ∀ k x0 x1 i, G (k + 1) x0 x1 i = if i < (x0.length : Int) then (if 0 ≤ i then G k (x0.set (i : Int).toNat x1) (wrap64 (x1 + 1)) (wrap64 (i + 1)) else none) else some (x1, x0))
    (d : Nat) : ∀ (xs : List Int) (i : Nat) (m : Int), i + d = xs.length → 0 ≤ m → m + d < 4611686018427387904 → xs.length < 4611686018427387904 → Ev (fun k => G k xs m (i : Int)) (m + d, xs.take i ++ seqFrom m d) := by
  induction d with
  | zero =>
    intro xs i m hi h0 hm hn
    refine Ev.step (fun k => by rw [hG, if_neg (by omega)]) ?_
    rw [List.take_of_length_le (by omega)]
    rw [show m + ((0 : Nat) : Int) = m by omega, seqFrom, List.append_nil]
    exact Ev.now _
  | succ d ih =>
    intro xs i m hi h0 hm hn
    refine Ev.step (fun k => by rw [hG, if_pos (by omega), if_pos (by omega), wrap_ok (i := m + 1) (by omega) (by omega), wrap_ok (i := (i : Int) + 1) (by omega) (by omega), Int.toNat_natCast]) ?_
    have h := ih (xs.set i m) (i + 1) (m + 1) (by simp; omega) (by omega) (by omega) (by simpa using hn)
    have e1 : (m + ((d + 1 : Nat) : Int), xs.take i ++ seqFrom m (d + 1)) = (m + 1 + (d : Int), (xs.set i m).take (i + 1) ++ seqFrom (m + 1) d) := by
      rw [List.take_succ_eq_append_getElem (by simp; omega), List.getElem_set_self, List.take_set_of_le (by omega)]
      simp only [seqFrom, List.append_assoc, List.cons_append, List.nil_append, Prod.mk.injEq, and_true]
      omega
    rw [e1]
    exact h
theorem markInts_ev (F : Nat → List Int → Int → Option (Int × List Int)) (G : Nat → List Int → Int → Int → Option (Int × List Int)) (hF : ∀ k x0 x1, F k x0 x1 = G k x0 x1 0)
    (hG : ∀ k x0 x1 i, G (k + 1) x0 x1 i = if i < (x0.length : Int) then (if 0 ≤ i then G k (x0.set (i : Int).toNat x1) (wrap64 (x1 + 1)) (wrap64 (i + 1)) else none) else some (x1, x0))
    (xs : List Int) (m : Int) (h0 : 0 ≤ m) (hm : m + xs.length < 4611686018427387904) : Ev (fun k => F k xs m) (m + xs.length, seqFrom m xs.length) := by
  have h := markInts_loop G hG xs.length xs 0 m (by omega) h0 hm (by omega)
  exact Ev.congr (fun k => hF k xs m) (by simpa using h)
theorem heldInts_loop (G : Nat → List Int → Int → Int → Option Int)
    (hG : ∀ k x0 x1 i, G (k + 1) x0 x1 i = if i < (x0.length : Int) then (if 0 ≤ i then (if (rd x0 i) = x1 then G k x0 (wrap64 (x1 + 1)) (wrap64 (i + 1)) else some (-1)) else none) else some x1)
    (xs : List Int) (hn : xs.length < 4611686018427387904) (d : Nat) : ∀ (i : Nat) (m : Int), i + d = xs.length → 0 ≤ m → m + d < 4611686018427387904 → xs.drop i = seqFrom m d → Ev (fun k => G k xs m (i : Int)) (m + d) := by
  induction d with
  | zero =>
    intro i m hi h0 hm he
    refine Ev.step (fun k => by rw [hG, if_neg (by omega)]) ?_
    rw [show m + ((0 : Nat) : Int) = m by omega]
    exact Ev.now _
  | succ d ih =>
    intro i m hi h0 hm he
    have hx : xs.drop i = xs[i]'(by omega) :: xs.drop (i + 1) := List.drop_eq_getElem_cons (by omega)
    rw [hx, seqFrom] at he
    injection he with e1 e2
    have r1 := rd_lt xs i (by omega)
    refine Ev.step (fun k => by rw [hG, if_pos (by omega), if_pos (by omega), r1, if_pos e1, wrap_ok (i := m + 1) (by omega) (by omega), wrap_ok (i := (i : Int) + 1) (by omega) (by omega)]) ?_
    have h := ih (i + 1) (m + 1) (by omega) (by omega) (by omega) e2
    rw [show m + ((d + 1 : Nat) : Int) = m + 1 + (d : Int) by omega]
    exact h
theorem heldInts_ev (F : Nat → List Int → Int → Option Int) (G : Nat → List Int → Int → Int → Option Int) (hF : ∀ k x0 x1, F k x0 x1 = G k x0 x1 0)
    (hG : ∀ k x0 x1 i, G (k + 1) x0 x1 i = if i < (x0.length : Int) then (if 0 ≤ i then (if (rd x0 i) = x1 then G k x0 (wrap64 (x1 + 1)) (wrap64 (i + 1)) else some (-1)) else none) else some x1)
    (m : Int) (n : Nat) (h0 : 0 ≤ m) (hm : m + n < 4611686018427387904) : Ev (fun k => F k (seqFrom m n) m) (m + n) := by
  have h := heldInts_loop G hG (seqFrom m n) (by rw [seqFrom_length]; omega) n 0 m (by rw [seqFrom_length]; omega) h0 hm rfl
  exact Ev.congr (fun k => hF k _ m) h
/-- The text of a mark: some text, always the same for the same number. -/
theorem markText_loop (G : Nat → Int → ByteArray → Option ByteArray)
    (hG : ∀ k x0 x3, G (k + 1) x0 x3 = if x0 > 0 then ((some (([(wrap64 (48 + (Int.tmod x0 10))) % 256] : List Int) : List Int)).bind fun y => (if (strOfNums y).size + x3.size ≤ 9223372036854775807 then G k (wrap64 (Int.tdiv x0 10)) ((strOfNums y) ++ x3) else none)) else (if 1 + x3.size ≤ 9223372036854775807 then some ((⟨#[109]⟩ : ByteArray) ++ x3) else none))
    (d : Nat) : ∀ (n : Int) (s : ByteArray), 0 ≤ n → n < 10 ^ d → n ≤ 9223372036854775807 → s.size + d < 4611686018427387904 → ∃ r, Ev (fun k => G k n s) r := by
  induction d with
  | zero =>
    intro n s h0 h1 h2 h3
    have : n = 0 := by simp at h1; omega
    exact ⟨_, Ev.step (fun k => by rw [hG, if_neg (by omega), if_pos (by omega)]) (Ev.now _)⟩
  | succ d ih =>
    intro n s h0 h1 h2 h3
    by_cases hp : n > 0
    · have hs : (strOfNums ([(wrap64 (48 + (Int.tmod n 10))) % 256] : List Int)).size = 1 := by simp [strOfNums, ByteArray.size]
      have hq : Int.tdiv n 10 = n / 10 := Int.tdiv_eq_ediv_of_nonneg h0
      have hlt : n / 10 < 10 ^ d := by
        rw [Int.pow_succ] at h1
        exact Int.ediv_lt_of_lt_mul (by omega) h1
      obtain ⟨r, hr⟩ := ih (n / 10) (strOfNums ([(wrap64 (48 + (Int.tmod n 10))) % 256] : List Int) ++ s) (by omega) hlt (by omega) (by rw [ByteArray.size_append, hs]; omega)
      refine ⟨r, Ev.step (fun k => ?_) hr⟩
      rw [hG, if_pos hp, Option.bind_some, if_pos (by rw [hs]; omega), hq, wrap_ok (by omega) (by omega)]
    · exact ⟨_, Ev.step (fun k => by rw [hG, if_neg hp, if_pos (by omega)]) (Ev.now _)⟩
theorem markText_ev (F : Nat → Int → Option ByteArray) (G : Nat → Int → ByteArray → Option ByteArray) (hF : ∀ k n, F k n = if n ≤ 0 then (some (⟨#[109, 48]⟩ : ByteArray)) else G k n (⟨#[]⟩ : ByteArray))
    (hG : ∀ k x0 x3, G (k + 1) x0 x3 = if x0 > 0 then ((some (([(wrap64 (48 + (Int.tmod x0 10))) % 256] : List Int) : List Int)).bind fun y => (if (strOfNums y).size + x3.size ≤ 9223372036854775807 then G k (wrap64 (Int.tdiv x0 10)) ((strOfNums y) ++ x3) else none)) else (if 1 + x3.size ≤ 9223372036854775807 then some ((⟨#[109]⟩ : ByteArray) ++ x3) else none))
    (n : Int) (hn : n ≤ 9223372036854775807) : ∃ r, Ev (fun k => F k n) r := by
  by_cases h : n ≤ 0
  · exact ⟨_, Ev.congr (fun k => by rw [hF, if_pos h]) (Ev.now _)⟩
  · obtain ⟨r, hr⟩ := markText_loop G hG 20 n (⟨#[]⟩ : ByteArray) (by omega) (by omega) hn (by simp [ByteArray.size])
    exact ⟨r, Ev.congr (fun k => by rw [hF, if_neg h]) hr⟩
end Go.Proofs.Ytcbpbnkoolpibaa.Aux
namespace Go.Proofs.Ytcbpbnkoolpibaa.Gr
open Go.RowKit Go.Proofs.Ytcbpbnkoolpibaa.P Go.Proofs.YtcbpbnkoolpibaaW.PrintWords Go.Proofs.YtcbpbnkoolpibaaW.PrintLast Go.Proofs.YtcbpbnkoolpibaaW.PrintMore Go.Proofs.Ytcbpbnkoolpibaa.Aux
set_option linter.unusedVariables false
set_option linter.unusedSimpArgs false
/-- The number behind the marks of blocks. -/
def markB (k : Nat) : List S47 → Int → Option Int
  | [], a => some a
  | b :: bs, a => (laws_markInstrS.f k b.f0 a).bind fun p => markB k bs (wrap64 (wrap64 (wrap64 (wrap64 (p.1 + 1) + 1) + 1) + 1))
/-- What is known of the rows from block j on. -/
def Bun (xs : List S47) (P : Nat → Prop) (oki : Nat → Nat → Prop) (g : Nat) (w0 w : World) (j : Nat) (wr : World) : Prop :=
  Below w0.heap.size w0 wr ∧ Kept w wr P ∧ (∃ cs, wr.heap[g]? = some (.cells cs 47 (0, 0))) ∧
    ∀ i, j ≤ i → i < xs.length → ∃ vc u1 u2 u3 u4, Kd.R k57 57 wr w0.heap.size (oki i) vc (rd_T47 xs (i : Int)).f0 ∧ wr.cell? ⟨g, i * 5, none⟩ = some vc ∧ wr.cell? ⟨g, i * 5 + 1, none⟩ = some (.int .i64 u1) ∧ wr.cell? ⟨g, i * 5 + 2, none⟩ = some (.int .i64 u2) ∧ wr.cell? ⟨g, i * 5 + 3, none⟩ = some (.int .i64 u3) ∧ wr.cell? ⟨g, i * 5 + 4, none⟩ = some (.int .i64 u4)
theorem cell_set_ne {w : World} {g i o : Nat} {t : TypeId} {cs : Array Value} {u v : Value} (hb : w.heap[g]? = some (.cells cs t (0, 0))) (h : w.cell? ⟨g, o, none⟩ = some v) (hne : o ≠ i) : (w.setCell ⟨g, i, none⟩ u).cell? ⟨g, o, none⟩ = some v := by
  rw [bkC (blk_set hb i u), Array.getElem?_setIfInBounds_ne (by omega)]
  rw [bkC hb] at h
  exact h
theorem Bun.set {xs : List S47} {P : Nat → Prop} {oki : Nat → Nat → Prop} {g : Nat} {w0 w : World} {j : Nat} {wr : World} (h : Bun xs P oki g w0 w j wr) (hPg : P g) (hg : w0.heap.size ≤ g) (hd : ∀ j q, oki j q → P q ∧ q ≠ g) {o : Nat} (ho : o < j * 5) (u : Value) : Bun xs P oki g w0 w j (wr.setCell ⟨g, o, none⟩ u) := by
  obtain ⟨h1, h2, ⟨cs, h3⟩, h4⟩ := h
  refine ⟨blS h1 hg, h2.setCell (.inl hPg) u, ⟨_, blk_set h3 o u⟩, fun i hi hl => ?_⟩
  obtain ⟨vc, u1, u2, u3, u4, c, d0, d1, d2, d3, d4⟩ := h4 i hi hl
  have : j * 5 ≤ i * 5 := Nat.mul_le_mul_right _ hi
  exact ⟨vc, u1, u2, u3, u4, Kd.R_far c (fun k hk => (hd i k hk).2) u, cell_set_ne h3 d0 (by omega), cell_set_ne h3 d1 (by omega), cell_set_ne h3 d2 (by omega), cell_set_ne h3 d3 (by omega), cell_set_ne h3 d4 (by omega)⟩
/-- Behind the marks of the steps of block j. -/
theorem Bun.call {xs : List S47} {P : Nat → Prop} {oki : Nat → Nat → Prop} {g : Nat} {w0 w : World} {j : Nat} {wr w1 : World} (h : Bun xs P oki g w0 w j wr) (hd : ∀ j q, oki j q → P q ∧ q ≠ g) (hj : ∀ j j' q, oki j q → oki j' q → j = j') (hB : Below w0.heap.size w0 w1) (hk : Kept wr w1 (oki j)) : Bun xs P oki g w0 w (j + 1) w1 := by
  obtain ⟨h1, h2, ⟨cs, h3⟩, h4⟩ := h
  have hne : ¬ oki j g := fun h => (hd j g h).2 rfl
  refine ⟨hB, h2.then_ hk (fun k hk => .inl (hd j k hk).1), ⟨cs, blk_kept h3 hk hne⟩, fun i hi hl => ?_⟩
  obtain ⟨vc, u1, u2, u3, u4, c, d0, d1, d2, d3, d4⟩ := h4 i (by omega) hl
  exact ⟨vc, u1, u2, u3, u4, Kd.R_kept c hk (fun k h1 h2 => by have := hj i j k h1 h2; omega), cell_kept d0 hk hne, cell_kept d1 hk hne, cell_kept d2 hk hne, cell_kept d3 hk hne, cell_kept d4 hk hne⟩
/-- What is known at the start of a round. -/
def InvB (k : Nat) (xs : List S47) (r : Int) (P : Nat → Prop) (oki : Nat → Nat → Prop) (g : Nat) (w0 w : World) (x1 x5 : Int) (gg : Nat) (wr : World) : Prop :=
  ∃ j : Nat, (j : Int) = x5 ∧ j ≤ xs.length ∧ xs.length - j ≤ gg ∧ markB k (xs.drop j) x1 = some r ∧ Bun xs P oki g w0 w j wr
set_option maxRecDepth 100000 in
set_option maxHeartbeats 4000000 in
theorem markB_nil (v : Value) (a : Int) (w0 w : World) (P : Nat → Prop) (A : Option Addr) (c : Nat) (hB : Below w0.heap.size w0 w) :
    Calls Try.prog 39 #[.slice A 0 c, .int .i64 a] w fun e w' => e = .returned (.int .i64 a) ∧ Below w0.heap.size w0 w' ∧ Kept w w' P := by
  have HB := Zs0.mk hB
  clear hB
  go_enter Try.func39, Try.ntmps39
  go_wp2
  go_loopg [1, 5] 1 (fun gg s1 s5 wr => s1 = .int .i64 a ∧ s5 = .int .i64 0 ∧ Zs0 (wr = w))
  case atStart => exact ⟨rfl, rfl, ⟨rfl⟩⟩
  case round =>
    obtain ⟨rfl, rfl, HW⟩ := hrel
    go_wp2
    go_ret
    obtain rfl := HW.out
    exact ⟨rfl, HB.out, Kept.refl _ _⟩
theorem facts5 {wr w1 : World} {g j : Nat} {ad : Addr} {m : Nat} {S : Nat → Prop} (e5 : ad.add m = ⟨g, j * 5, none⟩) (hk : Kept wr w1 S) (hne : ¬ S g) (hcs : ∃ cs, wr.heap[g]? = some (.cells cs 47 (0, 0)))
    {u1 u2 u3 u4 : Int} (h1 : wr.cell? ⟨g, j * 5 + 1, none⟩ = some (.int .i64 u1)) (h2 : wr.cell? ⟨g, j * 5 + 2, none⟩ = some (.int .i64 u2)) (h3 : wr.cell? ⟨g, j * 5 + 3, none⟩ = some (.int .i64 u3)) (h4 : wr.cell? ⟨g, j * 5 + 4, none⟩ = some (.int .i64 u4)) :
    w1.cell? ⟨(ad.add m).block, (ad.add m).off + 1, none⟩ = some (.int .i64 u1) ∧ w1.cell? ⟨(ad.add m).block, (ad.add m).off + 2, none⟩ = some (.int .i64 u2) ∧ w1.cell? ⟨(ad.add m).block, (ad.add m).off + 3, none⟩ = some (.int .i64 u3) ∧ w1.cell? ⟨(ad.add m).block, (ad.add m).off + 4, none⟩ = some (.int .i64 u4) ∧
      w1.frozen? ⟨(ad.add m).block, (ad.add m).off + 1, none⟩ = false ∧ w1.frozen? ⟨(ad.add m).block, (ad.add m).off + 2, none⟩ = false ∧ w1.frozen? ⟨(ad.add m).block, (ad.add m).off + 3, none⟩ = false ∧ w1.frozen? ⟨(ad.add m).block, (ad.add m).off + 4, none⟩ = false := by
  obtain ⟨cs, hcs⟩ := hcs
  have hb := blk_kept hcs hk hne
  have e1 : (ad.add m).block = g := by rw [e5]
  have e2 : (ad.add m).off = j * 5 := by rw [e5]
  rw [e1, e2]
  exact ⟨cell_kept h1 hk hne, cell_kept h2 hk hne, cell_kept h3 hk hne, cell_kept h4 hk hne, blk_frozen hb _, blk_frozen hb _, blk_frozen hb _, blk_frozen hb _⟩
set_option maxRecDepth 100000 in
set_option maxHeartbeats 4000000 in
theorem markB_some (k : Nat) (xs : List S47) (a r : Int) (P : Nat → Prop) (oki : Nat → Nat → Prop) (g c : Nat) (w0 w : World) (hPg : P g) (hg : w0.heap.size ≤ g) (hd : ∀ j q, oki j q → P q ∧ q ≠ g) (hj : ∀ j j' q, oki j q → oki j' q → j = j') (hmax : xs.length ≤ 9223372036854775807)
    (h : InvB k xs r P oki g w0 w a 0 xs.length w) :
    Calls Try.prog 39 #[.slice (some ⟨g, 0, none⟩) xs.length c, .int .i64 a] w fun e w' => e = .returned (.int .i64 r) ∧ Below w0.heap.size w0 w' ∧ Kept w w' P := by
  have hu49 := Try.underlying47
  have HH := Zs0.mk h
  have HD := Zs0.mk hd
  have HJ := Zs0.mk hj
  have HM := Zs0.mk hmax
  have HG := Zs0.mk hg
  have HP := Zs0.mk hPg
  clear h hd hj hmax hg hPg
  obtain ⟨ad, had⟩ : ∃ ad : Addr, ad = ⟨g, 0, none⟩ := ⟨_, rfl⟩
  rw [← had]
  have HA := Zs0.mk had
  clear had
  go_enter Try.func39, Try.ntmps39
  go_wp2
  go_loopg [1, 5] xs.length (fun gg s1 s5 wr => ∃ x1 x5 : Int, s1 = .int .i64 x1 ∧ s5 = .int .i64 x5 ∧ Zs0 (InvB k xs r P oki g w0 w x1 x5 gg wr))
  case atStart => exact ⟨a, 0, rfl, rfl, HH⟩
  case round =>
    obtain ⟨x1, x5, rfl, rfl, HI⟩ := hrel
    by_cases hlt : x5 < (xs.length : Int)
    · have c4b0 : decide (x5 < (xs.length : Int)) = true := decide_eq_true hlt
      have p101 : 0 ≤ x5 := by obtain ⟨kk, h1, _⟩ := HI.out; omega
      obtain ⟨j, hjx, hj1, hj2, hm, hbun⟩ := HI.out
      have HBU := Zs0.mk hbun
      obtain ⟨hB, hK, hcs, hrow⟩ := hbun
      have hjl : j < xs.length := by omega
      have hd' := HD.out
      obtain ⟨vc, u1, u2, u3, u4, hR, h0, h1, h2, h3, h4⟩ := hrow j (Nat.le_refl _) hjl
      obtain ⟨Ac, cc, rfl⟩ := Kd.R_slice hR
      have e5 : ad.add (x5.toNat * 5) = ⟨g, j * 5, none⟩ := by rw [HA.out, add_plain, ← hjx]; simp
      have hx0 : wr.cell? (ad.add (x5.toNat * 5)) = some (.slice Ac (rd_T47 xs (j : Int)).f0.length cc) := by rw [e5]; exact h0
      rw [List.drop_eq_getElem_cons hjl] at hm
      obtain ⟨⟨r1, r2⟩, hmi, hm2⟩ := Option.bind_eq_some_iff.mp hm
      have hrd : rd_T47 xs (j : Int) = xs[j] := by simp [rd_T47, List.getD_eq_getElem?_getD, List.getElem?_eq_getElem hjl]
      have HM2 := Zs0.mk hm2
      have hcall := Zs0.mk (laws_markInstrS.calls k (oki j) (.slice Ac (rd_T47 xs (j : Int)).f0.length cc) (rd_T47 xs (j : Int)).f0 x1 r1 r2 w0 wr hB hR (by rw [hrd]; exact hmi))
      have HF := Zs0.mk (fun (w1 : World) (hk1 : Kept wr w1 (oki j)) => facts5 e5 hk1 (fun h => (hd' j g h).2 rfl) hcs h1 h2 h3 h4)
      have HE := Zs0.mk e5
      have HJX := Zs0.mk hjx
      have HJL := Zs0.mk hjl
      have HJ2 := Zs0.mk hj2
      clear hd' hrow hK hcs hB hR hm hm2 hmi h0 h1 h2 h3 h4 hrd e5 hjx hjl hj1 hj2
      replace p101 := eq_true p101
      replace hlt := eq_true hlt
      go_wp2_with (go_at_call 60; refine hcall.out.mono ?_; rintro e w1 ⟨rfl, _, hb1, hk1⟩; obtain ⟨g1, g2, g3, g4, f1, f2, f3, f4⟩ := HF.out w1 hk1; have HB1 := Zs0.mk hb1; have HK1 := Zs0.mk hk1; clear hb1 hk1)
      go_roundg (gk - 1)
      case measure => have h1 := HJ2.out; have h2 := HJL.out; omega
      case rel =>
        refine ⟨_, _, rfl, rfl, ⟨?_⟩⟩
        have h1 := HJ2.out
        have h2 := HJL.out
        have h3 := HM.out
        refine ⟨j + 1, ?_, by omega, by omega, HM2.out, ?_⟩
        · rw [wrap_ok (by have := HJX.out; omega) (by have := HJX.out; omega)]
          have := HJX.out
          omega
        · have hb := HBU.out.call HD.out HJ.out HB1.out HK1.out
          rw [HE.out]
          dsimp only
          exact (((hb.set HP.out HG.out HD.out (by omega) _).set HP.out HG.out HD.out (by omega) _).set HP.out HG.out HD.out (by omega) _).set HP.out HG.out HD.out (by omega) _
    · have c4b0 : decide (x5 < (xs.length : Int)) = false := decide_eq_false hlt
      have HL := Zs0.mk hlt
      clear hlt
      go_wp2
      go_ret
      obtain ⟨j, hjx, hj1, hj2, hm, hB, hK, _⟩ := HI.out
      have h4 := HL.out
      rw [List.drop_eq_nil_of_le (by omega)] at hm
      obtain rfl := Option.some.inj hm
      exact ⟨rfl, hB, hK⟩
theorem markBlocks_calls (k : Nat) (P : Nat → Prop) (v : Value) (xs : List S47) (a r : Int) (w0 w : World) (hB : Below w0.heap.size w0 w) (ho : Kd.S k47 47 w w0.heap.size P v xs) (h : markB k xs a = some r) :
    Calls Try.prog 39 #[v, .int .i64 a] w fun e w' => e = .returned (.int .i64 r) ∧ Below w0.heap.size w0 w' ∧ Kept w w' P := by
  by_cases hne : 0 < xs.length
  · obtain ⟨g, c, rfl, h1, h2, h3, oki, h4, h5, h6⟩ := parts ho hne
    refine markB_some k xs a r P oki g c w0 w h1 h2 h4 h5 (Kd.C_max (Kd.S_reads' ho).2.2) ⟨0, rfl, Nat.zero_le _, by omega, by rw [List.drop_zero]; exact h, hB, Kept.refl _ _, h3, fun i _ hl => ?_⟩
    obtain ⟨vc, d, d0, d1, d2, d3, d4⟩ := h6 i hl
    exact ⟨vc, _, _, _, _, d, d0, d1, d2, d3, d4⟩
  · have hx : xs = [] := List.length_eq_zero_iff.1 (by omega)
    subst hx
    obtain rfl := Option.some.inj h
    obtain ⟨A, c, rfl⟩ := Kd.S_slice ho
    exact markB_nil (.slice A 0 c) a w0 w P A c hB
set_option maxRecDepth 100000 in
set_option maxHeartbeats 4000000 in
/-- Marking a graph that is the call's own: nothing but its own rows is written. -/
theorem markGraph_calls (k : Nat) (P0 P4 : Nat → Prop) (A0 : Option Addr) (c0 : Nat) (zs : List Int) (p v s : Int) (A4 : Option Addr) (c4 : Nat) (bs : List S47) (a r1 r : Int) (zs2 : List Int) (w0 w : World) (hB : Below w0.heap.size w0 w)
    (h0 : Kd.R (Kd.int .i64) 3 w w0.heap.size P0 (.slice A0 zs.length c0) zs) (h4 : Kd.S k47 47 w w0.heap.size P4 (.slice A4 bs.length c4) bs) (hd : ∀ q, P4 q → ¬ P0 q) (e1 : laws_markIntS.f k zs a = some (r1, zs2)) (e2 : markB k bs r1 = some r) :
    Calls Try.prog 12 #[.agg #[.slice A0 zs.length c0, .int .i64 p, .int .i64 v, .int .i64 s, .slice A4 bs.length c4], .int .i64 a] w fun e w' => e = .returned (.int .i64 r) ∧ Below w0.heap.size w0 w' ∧ Kept w w' (fun q => P0 q ∨ P4 q) := by
  have hu30 := Try.underlying29
  have H0 := Zs0.mk (show Kd.R (Kd.int .i64) 3 w w0.heap.size (fun q => P0 q ∧ q < w.heap.size) (.slice A0 zs.length c0) zs from Kd.R_mono (Kd.R_bound h0) fun q hq => ⟨hq.1, hq.2.2.1⟩)
  have H4 := Zs0.mk h4
  have HD := Zs0.mk hd
  have HE1 := Zs0.mk e1
  have HE2 := Zs0.mk e2
  have HB := Zs0.mk hB
  clear h0 h4 hd e1 e2 hB
  go_enter Try.func12, Try.ntmps12
  go_wp2_with (first | (go_at_call 24; refine (laws_markIntS.calls k (fun q => P0 q ∧ q < w.heap.size) _ zs a r1 zs2 w0 _ (blA HB.out _) (Kd.rA1 H0.out _) HE1.out).mono ?_; rintro e w1 ⟨rfl, _, hb1, hk1⟩; have hl1 := hk1.1; have g4 := cell_kept (a := ⟨w.heap.size, 4, none⟩) (show _ = some (.slice A4 bs.length c4) by simp) hk1 (fun h => Nat.lt_irrefl _ h.2); have HB1 := Zs0.mk hb1; have HK1 := Zs0.mk hk1; clear hb1 hk1) | (go_at_call 39; refine (markBlocks_calls k P4 _ bs r1 r w0 _ HB1.out (Kd.S_kept (Kd.S_alloc H4.out _) HK1.out (fun q h1 h2 => HD.out q h1 h2.1)) HE2.out).mono ?_; rintro e w2 ⟨rfl, hb2, hk2⟩))
  go_ret
  refine ⟨rfl, hb2, ?_⟩
  exact (((Kept.refl w _).alloc _).then_ (HK1.out.mono (S' := fun q => P0 q ∨ P4 q) fun q h => Or.inl h.1) fun q h => .inl h).then_ hk2 fun q h => .inl (.inr h)
end Go.Proofs.Ytcbpbnkoolpibaa.Gr
namespace Go.Proofs.Ytcbpbnkoolpibaa.P
open Go.RowKit Go.Proofs.YtcbpbnkoolpibaaW.PrintWords Go.Proofs.YtcbpbnkoolpibaaW.PrintLast Go.Proofs.YtcbpbnkoolpibaaW.PrintMore Go.Proofs.Ytcbpbnkoolpibaa.Gr
set_option linter.unusedVariables false
set_option linter.unusedSimpArgs false
/-- The number behind the marks of a graph. -/
def laws_markGraph.f (k : Nat) (zs : List Int) (bs : List S47) (a : Int) : Option Int := (laws_markIntS.f k zs a).bind fun p => markB k bs p.1
theorem markB_mono (k : Nat) : ∀ (bs : List S47) (a : Int), LeO (markB k bs a) (markB (k + 1) bs a)
  | [], a => LeO.refl _
  | b :: bs, a => LeO.bind (laws_markInstrS.mono _ _ _) fun p => markB_mono k bs _
theorem laws_markGraph.mono : ∀ zs bs a k, LeO (laws_markGraph.f k zs bs a) (laws_markGraph.f (k + 1) zs bs a) := fun zs bs a k => LeO.bind (laws_markIntS.mono _ _ _) fun p => markB_mono k bs p.1
/-- A block of a kind of cells. -/
def isT (w : World) (q : Nat) (e : Nat) : Prop := ∃ cs, w.heap[q]? = some (.cells cs e (0, 0))
theorem isT_one {w : World} {q e e' : Nat} (h : isT w q e) (h' : isT w q e') : e = e' := by
  obtain ⟨cs, h⟩ := h
  obtain ⟨cs', h'⟩ := h'
  rw [h] at h'
  injection h' with h'
  injection h' with _ h'
/-- What marking a graph may write: the row of sizes (v), rows of blocks, rows of steps. -/
def markS (w : World) (v : Value) (q : Nat) : Prop := some q = v.ownBlock ∨ isT w q 47 ∨ isT w q 57
theorem laws_markGraph.calls (k : Nat) {A0 : Option Addr} {c0 : Nat} {zs : List Int} {p v s : Int} {A4 : Option Addr} {c4 : Nat} {bs : List S47} {a r : Int} {w0 w : World} {ok0 ok4 : Nat → Prop} (hB : Below w0.heap.size w0 w)
    (h0 : Kd.R (Kd.int .i64) 3 w w0.heap.size ok0 (.slice A0 zs.length c0) zs) (h4 : Kd.S k47 47 w w0.heap.size ok4 (.slice A4 bs.length c4) bs) (h : laws_markGraph.f k zs bs a = some r) :
    Calls Try.prog 12 #[.agg #[.slice A0 zs.length c0, .int .i64 p, .int .i64 v, .int .i64 s, .slice A4 bs.length c4], .int .i64 a] w fun e w' => e = .returned (.int .i64 r) ∧ Below w0.heap.size w0 w' ∧ Kept w w' (markS w (.slice A0 zs.length c0)) ∧ ∀ q, markS w (.slice A0 zs.length c0) q → isT w q 3 ∨ isT w q 47 ∨ isT w q 57 := by
  obtain ⟨⟨r1, zs2⟩, e1, e2⟩ := Option.bind_eq_some_iff.mp h
  have ty : ∀ q, some q = (Value.slice A0 zs.length c0).ownBlock → isT w q 3 := fun q hq => by
    obtain ⟨cs, hcs⟩ := own_typed (Kd.own_of_R h0) q hq.symm
    exact ⟨cs, hcs⟩
  have h4' : Kd.S k47 47 w w0.heap.size (fun q => isT w q 47 ∨ isT w q 57) (.slice A4 bs.length c4) bs := Kd.S_mono (Kd.S_bound h4) fun q hq => by
    obtain ⟨_, _, _, e, he, hc⟩ := hq
    rcases List.mem_cons.1 he with rfl | he
    · exact .inl hc
    · have : e = 57 := by simpa [k47, k57, Kd.iso, Kd.pair, Kd.slice, Kd.int, Kd.scalar, Kd.string] using he
      subst this
      exact .inr hc
  refine (markGraph_calls k (fun q => some q = (Value.slice A0 zs.length c0).ownBlock) (fun q => isT w q 47 ∨ isT w q 57) A0 c0 zs p v s A4 c4 bs a r1 r zs2 w0 w hB (Kd.R_tight rfl h0) h4' (fun q h4 h0 => ?_) e1 e2).mono ?_
  · have := ty q h0
    rcases h4 with h4 | h4
    · exact absurd (isT_one this h4) (by decide)
    · exact absurd (isT_one this h4) (by decide)
  · rintro e w' ⟨rfl, hb, hk⟩
    exact ⟨rfl, hb, hk, fun q hq => hq.elim (fun h => .inl (ty q h)) .inr⟩
end Go.Proofs.Ytcbpbnkoolpibaa.P
namespace Go.Proofs.Ytcbpbnkoolpibaa.P
open Go.RowKit Go.Proofs.YtcbpbnkoolpibaaW.PrintWords Go.Proofs.YtcbpbnkoolpibaaW.PrintLast Go.Proofs.YtcbpbnkoolpibaaW.PrintMore
attribute [local go_sem] max2_int min2_int max_two min_two max_three min_three max_four min_four   -- for this text's walks alone
set_option linter.unusedVariables false
set_option linter.unusedSimpArgs false

/-! ### laws_heldIntS: function 25 -/
def laws_heldIntS.l0 : Nat → List Int → Int → Int → Option (Int)
  | 0, _, _, _ => none
  | k + 1, x0, x1, x5 => if x5 < (x0.length : Int) then (if 0 ≤ x5 then (if (rd x0 x5) = x1 then (laws_heldIntS.l0 k x0 (wrap64 (x1 + 1)) (wrap64 (x5 + 1))) else (some (-1))) else (none)) else (some x1)
def laws_heldIntS.f (k : Nat) (l0 : List Int) (a1 : Int) : Option (Int) := laws_heldIntS.l0 k l0 a1 0
theorem laws_heldIntS.mono_l : ∀ k, (∀ y0 y1 y2, LeO (laws_heldIntS.l0 k y0 y1 y2) (laws_heldIntS.l0 (k + 1) y0 y1 y2))
  | 0 => fun _ _ _ r h => by simp [laws_heldIntS.l0] at h
  | k + 1 => by
    have ih0 := laws_heldIntS.mono_l k
    · intro y0 y1 y2
      unfold laws_heldIntS.l0
      repeat' first
      | (with_reducible exact ih0 _ _ _)
      | (with_reducible exact LeO.refl _)
      | (with_reducible exact LeO.none _)
      | (with_reducible refine LeO.ite ?_ ?_)
      | (with_reducible refine LeO.bind ?_ (fun _ => ?_))
      | exact ih0 _ _ _
      | exact LeO.none _
      | refine LeO.ite ?_ ?_
      | refine LeO.bind ?_ (fun _ => ?_)
theorem laws_heldIntS.mono : ∀ a0 a1 k, LeO (laws_heldIntS.f k a0 a1) (laws_heldIntS.f (k + 1) a0 a1) := by
  intro a0 a1 k
  have ih0 := laws_heldIntS.mono_l k
  unfold laws_heldIntS.f
  repeat' first
      | (with_reducible exact ih0 _ _ _)
      | (with_reducible exact LeO.refl _)
      | (with_reducible exact LeO.none _)
      | (with_reducible refine LeO.ite ?_ ?_)
      | (with_reducible refine LeO.bind ?_ (fun _ => ?_))
      | exact ih0 _ _ _
      | exact LeO.none _
      | refine LeO.ite ?_ ?_
      | refine LeO.bind ?_ (fun _ => ?_)
set_option maxHeartbeats 8000000 in
set_option maxRecDepth 100000 in
theorem laws_heldIntS.calls (k : Nat) (A0 : Option Addr) (c0 : Nat) (l0 : List Int) (a1 : Int) (r : Int) (w : World) (hr0 : Kd.C (Kd.int .i64) w A0 l0.length l0) (hc0 : l0.length ≤ c0) (h : laws_heldIntS.f k l0 a1 = some r) :
  Calls Try.prog 25 #[.slice A0 l0.length c0, .int .i64 a1] w fun e w' => e = .returned (.int .i64 r) ∧ Drawn0 w w' := by
 have HR0 := Zs0.mk hr0
 have HC0 := Zs0.mk hc0
 clear hr0 hc0
 have H : (laws_heldIntS.l0 k l0 a1 0) = some r := h
 clear h
 have H' := Zs0.mk H
 clear H
 go_enter Try.func25, Try.ntmps25
 go_wp2
 go_loopg [1, 5] k (fun kq v1 v5 w' => ∃ (x1_1 : Int) (x5_1 : Int), v1 = .int .i64 x1_1 ∧ v5 = .int .i64 x5_1 ∧ Zs0 (laws_heldIntS.l0 kq l0 x1_1 x5_1 = some r) ∧ Zs0 (kq ≤ k) ∧ Drawn0 w w')
 case atStart => exact ⟨(a1), (0), zq, zq, H', ⟨Nat.le_refl _⟩, by repeat (first | exact Drawn0.refl _ | apply Drawn0.step)⟩
 case round =>
  clear H'
  try clear c2
  try clear p2
  obtain ⟨x1_1, x5_1, rfl, rfl, HA, HK1, ⟨m1, rfl⟩⟩ := hrel
  cases gk with
  | zero => exact absurd HA.out (by simp [laws_heldIntS.l0])
  | succ k1 =>
   have H := HA.out
   clear HA
   simp only [laws_heldIntS.l0] at H
   by_cases c3 : x5_1 < (l0.length : Int)
   ·rw [if_pos c3] at H
    have c3b0 : decide (x5_1 < (l0.length : Int)) = true := decide_eq_true c3
    clear c3
    have c4 := ipos H
    rw [if_pos c4] at H
    have c4b0 := decide_eq_true c4
    clear c4
    by_cases c5 : (rd l0 x5_1) = x1_1
    ·rw [if_pos c5] at H
     have c5b0 : ((rd l0 x5_1) == x1_1) = true := beq_iff_eq.mpr c5
     have c5b1 : ((rd l0 x5_1) != x1_1) = false := bne_eq_false_iff_eq.mpr c5
     clear c5
     have H' := Zs0.mk H
     clear H
     have p101 : 0 ≤ (x5_1 : Int) := zD
     have q101 : x5_1 < (l0.length : Int) := zD
     obtain ⟨ad101, e101, hx101_0⟩ := Kd.at_int HR0.out x5_1 p101 q101
     cases e101
     replace p101 := eq_true p101
     replace q101 := eq_true q101
     go_wp2
     go_roundg k1
     case measure => have := HK1.out; omega
     case rel => exact ⟨(wrap64 (x1_1 + 1)), (wrap64 (x5_1 + 1)), zq, zq, H', ⟨by have := HK1.out; omega⟩, by repeat (first | exact Drawn0.refl _ | apply Drawn0.step)⟩
    ·rw [if_neg c5] at H
     have c5b0 : ((rd l0 x5_1) == x1_1) = false := beq_eq_false_iff_ne.mpr c5
     have c5b1 : ((rd l0 x5_1) != x1_1) = true := bne_iff_ne.mpr c5
     obtain rfl := Option.some.inj H
     have p101 : 0 ≤ (x5_1 : Int) := zD
     have q101 : x5_1 < (l0.length : Int) := zD
     obtain ⟨ad101, e101, hx101_0⟩ := Kd.at_int HR0.out x5_1 p101 q101
     cases e101
     replace p101 := eq_true p101
     replace q101 := eq_true q101
     go_wp2
     go_ret
     exact ⟨by first | rfl | (simp; done) | (simp [*]; done), by repeat (first | exact Drawn0.refl _ | apply Drawn0.step)⟩
   ·rw [if_neg c3] at H
    have c3b0 : decide (x5_1 < (l0.length : Int)) = false := decide_eq_false c3
    clear c3
    obtain rfl := Option.some.inj H
    go_wp2
    go_ret
    exact ⟨by first | rfl | (simp; done) | (simp [*]; done), by repeat (first | exact Drawn0.refl _ | apply Drawn0.step)⟩

end Go.Proofs.Ytcbpbnkoolpibaa.P
namespace Go.Proofs.Ytcbpbnkoolpibaa.P
open Go.RowKit Go.Proofs.YtcbpbnkoolpibaaW.PrintWords Go.Proofs.YtcbpbnkoolpibaaW.PrintLast Go.Proofs.YtcbpbnkoolpibaaW.PrintMore
attribute [local go_sem] max2_int min2_int max_two min_two max_three min_three max_four min_four   -- for this text's walks alone
set_option linter.unusedVariables false
set_option linter.unusedSimpArgs false

/-! ### laws_heldInstrS: function 61 -/
def laws_heldInstrS.l0 : Nat → List (S57) → Int → Int → Option (Int)
  | 0, _, _, _ => none
  | k + 1, x0, x1, x5 => if x5 < (x0.length : Int) then (if 0 ≤ x5 then (if ((rd_T57 x0 x5).f0) = x1 then (if ((rd_T57 x0 x5).f1) = (wrap64 (x1 + 1)) then (if ((rd_T57 x0 x5).f2) = (wrap64 ((wrap64 (x1 + 1)) + 1)) then (if ((rd_T57 x0 x5).f3) = (wrap64 ((wrap64 ((wrap64 (x1 + 1)) + 1)) + 1)) then (if ((rd_T57 x0 x5).f4) = (wrap64 ((wrap64 ((wrap64 ((wrap64 (x1 + 1)) + 1)) + 1)) + 1)) then (if ((rd_T57 x0 x5).f5) = (wrap64 ((wrap64 ((wrap64 ((wrap64 ((wrap64 (x1 + 1)) + 1)) + 1)) + 1)) + 1)) then ((laws_markText.f k (wrap64 ((wrap64 ((wrap64 ((wrap64 ((wrap64 ((wrap64 (x1 + 1)) + 1)) + 1)) + 1)) + 1)) + 1))).bind fun t108 => (if ((rd_T57 x0 x5).f6).toList = t108.toList then (laws_heldInstrS.l0 k x0 (wrap64 ((wrap64 ((wrap64 ((wrap64 ((wrap64 ((wrap64 ((wrap64 (x1 + 1)) + 1)) + 1)) + 1)) + 1)) + 1)) + 1)) (wrap64 (x5 + 1))) else (none))) else (none)) else (none)) else (none)) else (none)) else (none)) else (none)) else (none)) else (some x1)
def laws_heldInstrS.f (k : Nat) (l0 : List (S57)) (a1 : Int) : Option (Int) := laws_heldInstrS.l0 k l0 a1 0
theorem laws_heldInstrS.mono_l : ∀ k, (∀ y0 y1 y2, LeO (laws_heldInstrS.l0 k y0 y1 y2) (laws_heldInstrS.l0 (k + 1) y0 y1 y2))
  | 0 => fun _ _ _ r h => by simp [laws_heldInstrS.l0] at h
  | k + 1 => by
    have ih0 := laws_heldInstrS.mono_l k
    · intro y0 y1 y2
      unfold laws_heldInstrS.l0
      repeat' first
      | (with_reducible exact ih0 _ _ _)
      | (with_reducible exact laws_markText.mono _ _)
      | (with_reducible exact LeO.refl _)
      | (with_reducible exact LeO.none _)
      | (with_reducible refine LeO.ite ?_ ?_)
      | (with_reducible refine LeO.bind ?_ (fun _ => ?_))
      | exact ih0 _ _ _
      | exact laws_markText.mono _ _
      | exact LeO.none _
      | refine LeO.ite ?_ ?_
      | refine LeO.bind ?_ (fun _ => ?_)
theorem laws_heldInstrS.mono : ∀ a0 a1 k, LeO (laws_heldInstrS.f k a0 a1) (laws_heldInstrS.f (k + 1) a0 a1) := by
  intro a0 a1 k
  have ih0 := laws_heldInstrS.mono_l k
  unfold laws_heldInstrS.f
  repeat' first
      | (with_reducible exact ih0 _ _ _)
      | (with_reducible exact laws_markText.mono _ _)
      | (with_reducible exact LeO.refl _)
      | (with_reducible exact LeO.none _)
      | (with_reducible refine LeO.ite ?_ ?_)
      | (with_reducible refine LeO.bind ?_ (fun _ => ?_))
      | exact ih0 _ _ _
      | exact laws_markText.mono _ _
      | exact LeO.none _
      | refine LeO.ite ?_ ?_
      | refine LeO.bind ?_ (fun _ => ?_)
def laws_heldInstrS.T22 : Bool × List (List Nat × List Nat) := (true, [([], []), ([], []), ([0, 1], [0, 1]), ([2], [2]), ([3], [3]), ([], []), ([5], [5]), ([4, 6], [4, 6])])
def laws_heldInstrS.B22 : List Nat := [0, 0, 3, 7, 15, 0, 32, 127]
theorem laws_heldInstrS.tab22 : rtab .any (opsOf Try.f61 22) = laws_heldInstrS.T22 := by kernel_rfl
theorem laws_heldInstrS.bits22 : waitsOk laws_heldInstrS.T22.2 laws_heldInstrS.B22 = true := by kernel_rfl
set_option maxHeartbeats 8000000 in
set_option maxRecDepth 100000 in
theorem laws_heldInstrS.calls (k : Nat) (A0 : Option Addr) (c0 : Nat) (l0 : List (S57)) (a1 : Int) (r : Int) (w : World) (hr0 : Kd.C k57 w A0 l0.length l0) (hc0 : l0.length ≤ c0) (h : laws_heldInstrS.f k l0 a1 = some r) :
  Calls Try.prog 61 #[.slice A0 l0.length c0, .int .i64 a1] w fun e w' => e = .returned (.int .i64 r) ∧ Below w.heap.size w w' := by
 have HR0 := Zs0.mk hr0
 have HC0 := Zs0.mk hc0
 clear hr0 hc0
 have HB := Zs0.mk (Below.refl w.heap.size w)
 have H : (laws_heldInstrS.l0 k l0 a1 0) = some r := h
 clear h
 have H' := Zs0.mk H
 clear H
 go_enter Try.func61, Try.ntmps61
 go_wp2
 go_loopg [1, 5] k (fun kq v1 v5 w' => ∃ (x1_1 : Int) (x5_1 : Int), v1 = .int .i64 x1_1 ∧ v5 = .int .i64 x5_1 ∧ Zs0 (laws_heldInstrS.l0 kq l0 x1_1 x5_1 = some r) ∧ Zs0 (kq ≤ k) ∧ Zs0 (Below w.heap.size w w'))
 case atStart => exact ⟨(a1), (0), zq, zq, H', ⟨Nat.le_refl _⟩, ⟨zB⟩⟩
 case round =>
  clear H'
  try clear p2
  obtain ⟨x1_1, x5_1, rfl, rfl, HA, HK1, HB⟩ := hrel
  cases gk with
  | zero => exact absurd HA.out (by simp [laws_heldInstrS.l0])
  | succ k1 =>
   have H := HA.out
   clear HA
   simp only [laws_heldInstrS.l0] at H
   by_cases c3 : x5_1 < (l0.length : Int)
   ·rw [if_pos c3] at H
    have c3b0 : decide (x5_1 < (l0.length : Int)) = true := decide_eq_true c3
    clear c3
    have c4 := ipos H
    rw [if_pos c4] at H
    have c4b0 := decide_eq_true c4
    clear c4
    have c5 := ipos H
    rw [if_pos c5] at H
    have c5b0 : (((rd_T57 l0 x5_1).f0) == x1_1) = true := beq_iff_eq.mpr c5
    have c5b1 : (((rd_T57 l0 x5_1).f0) != x1_1) = false := bne_eq_false_iff_eq.mpr c5
    clear c5
    have c6 := ipos H
    rw [if_pos c6] at H
    have c6b0 : (((rd_T57 l0 x5_1).f1) == (wrap64 (x1_1 + 1))) = true := beq_iff_eq.mpr c6
    have c6b1 : (((rd_T57 l0 x5_1).f1) != (wrap64 (x1_1 + 1))) = false := bne_eq_false_iff_eq.mpr c6
    clear c6
    have c7 := ipos H
    rw [if_pos c7] at H
    have c7b0 : (((rd_T57 l0 x5_1).f2) == (wrap64 ((wrap64 (x1_1 + 1)) + 1))) = true := beq_iff_eq.mpr c7
    have c7b1 : (((rd_T57 l0 x5_1).f2) != (wrap64 ((wrap64 (x1_1 + 1)) + 1))) = false := bne_eq_false_iff_eq.mpr c7
    clear c7
    have c8 := ipos H
    rw [if_pos c8] at H
    have c8b0 : (((rd_T57 l0 x5_1).f3) == (wrap64 ((wrap64 ((wrap64 (x1_1 + 1)) + 1)) + 1))) = true := beq_iff_eq.mpr c8
    have c8b1 : (((rd_T57 l0 x5_1).f3) != (wrap64 ((wrap64 ((wrap64 (x1_1 + 1)) + 1)) + 1))) = false := bne_eq_false_iff_eq.mpr c8
    clear c8
    have c9 := ipos H
    rw [if_pos c9] at H
    have c9b0 : (((rd_T57 l0 x5_1).f4) == (wrap64 ((wrap64 ((wrap64 ((wrap64 (x1_1 + 1)) + 1)) + 1)) + 1))) = true := beq_iff_eq.mpr c9
    have c9b1 : (((rd_T57 l0 x5_1).f4) != (wrap64 ((wrap64 ((wrap64 ((wrap64 (x1_1 + 1)) + 1)) + 1)) + 1))) = false := bne_eq_false_iff_eq.mpr c9
    clear c9
    have c10 := ipos H
    rw [if_pos c10] at H
    have c10b0 : (((rd_T57 l0 x5_1).f5) == (wrap64 ((wrap64 ((wrap64 ((wrap64 ((wrap64 (x1_1 + 1)) + 1)) + 1)) + 1)) + 1))) = true := beq_iff_eq.mpr c10
    have c10b1 : (((rd_T57 l0 x5_1).f5) != (wrap64 ((wrap64 ((wrap64 ((wrap64 ((wrap64 (x1_1 + 1)) + 1)) + 1)) + 1)) + 1))) = false := bne_eq_false_iff_eq.mpr c10
    clear c10
    replace H := Option.bind_eq_some_iff.mp H
    obtain ⟨t108, A110, H⟩ := H
    replace H : (if ((rd_T57 l0 x5_1).f6).toList = t108.toList then (laws_heldInstrS.l0 k1 l0 (wrap64 ((wrap64 ((wrap64 ((wrap64 ((wrap64 ((wrap64 ((wrap64 (x1_1 + 1)) + 1)) + 1)) + 1)) + 1)) + 1)) + 1)) (wrap64 (x5_1 + 1))) else (none)) = some r := H
    have A11 := Zs0.mk A110
    clear A110
    have c12 := ipos H
    rw [if_pos c12] at H
    have c12b0 : (((rd_T57 l0 x5_1).f6).toList == t108.toList) = true := beq_iff_eq.mpr c12
    have c12b1 : (((rd_T57 l0 x5_1).f6).toList != t108.toList) = false := bne_eq_false_iff_eq.mpr c12
    clear c12
    have H' := Zs0.mk H
    clear H
    have p101 : 0 ≤ (x5_1 : Int) := zD
    have q101 : x5_1 < (l0.length : Int) := zD
    obtain ⟨ad101, e101, hx101_0, hx101_1, hx101_2, hx101_3, hx101_4, hx101_5, hx101_6⟩ := at_T57 HR0.out x5_1 p101 q101
    cases e101
    replace hx101_0 := zx HB.out hx101_0
    replace hx101_1 := zx HB.out hx101_1
    replace hx101_2 := zx HB.out hx101_2
    replace hx101_3 := zx HB.out hx101_3
    replace hx101_4 := zx HB.out hx101_4
    replace hx101_5 := zx HB.out hx101_5
    replace hx101_6 := zx HB.out hx101_6
    replace p101 := eq_true p101
    replace q101 := eq_true q101
    have p102 : 0 ≤ (x5_1 : Int) := zD
    have q102 : x5_1 < (l0.length : Int) := zD
    obtain ⟨ad102, e102, hx102_0, hx102_1, hx102_2, hx102_3, hx102_4, hx102_5, hx102_6⟩ := at_T57 HR0.out x5_1 p102 q102
    obtain rfl : ad101 = ad102 := (by injection e102)
    replace hx102_0 := zx HB.out hx102_0
    replace hx102_1 := zx HB.out hx102_1
    replace hx102_2 := zx HB.out hx102_2
    replace hx102_3 := zx HB.out hx102_3
    replace hx102_4 := zx HB.out hx102_4
    replace hx102_5 := zx HB.out hx102_5
    replace hx102_6 := zx HB.out hx102_6
    replace p102 := eq_true p102
    replace q102 := eq_true q102
    have p103 : 0 ≤ (x5_1 : Int) := zD
    have q103 : x5_1 < (l0.length : Int) := zD
    obtain ⟨ad103, e103, hx103_0, hx103_1, hx103_2, hx103_3, hx103_4, hx103_5, hx103_6⟩ := at_T57 HR0.out x5_1 p103 q103
    obtain rfl : ad101 = ad103 := (by injection e103)
    replace hx103_0 := zx HB.out hx103_0
    replace hx103_1 := zx HB.out hx103_1
    replace hx103_2 := zx HB.out hx103_2
    replace hx103_3 := zx HB.out hx103_3
    replace hx103_4 := zx HB.out hx103_4
    replace hx103_5 := zx HB.out hx103_5
    replace hx103_6 := zx HB.out hx103_6
    replace p103 := eq_true p103
    replace q103 := eq_true q103
    have p104 : 0 ≤ (x5_1 : Int) := zD
    have q104 : x5_1 < (l0.length : Int) := zD
    obtain ⟨ad104, e104, hx104_0, hx104_1, hx104_2, hx104_3, hx104_4, hx104_5, hx104_6⟩ := at_T57 HR0.out x5_1 p104 q104
    obtain rfl : ad101 = ad104 := (by injection e104)
    replace hx104_0 := zx HB.out hx104_0
    replace hx104_1 := zx HB.out hx104_1
    replace hx104_2 := zx HB.out hx104_2
    replace hx104_3 := zx HB.out hx104_3
    replace hx104_4 := zx HB.out hx104_4
    replace hx104_5 := zx HB.out hx104_5
    replace hx104_6 := zx HB.out hx104_6
    replace p104 := eq_true p104
    replace q104 := eq_true q104
    have p105 : 0 ≤ (x5_1 : Int) := zD
    have q105 : x5_1 < (l0.length : Int) := zD
    obtain ⟨ad105, e105, hx105_0, hx105_1, hx105_2, hx105_3, hx105_4, hx105_5, hx105_6⟩ := at_T57 HR0.out x5_1 p105 q105
    obtain rfl : ad101 = ad105 := (by injection e105)
    replace hx105_0 := zx HB.out hx105_0
    replace hx105_1 := zx HB.out hx105_1
    replace hx105_2 := zx HB.out hx105_2
    replace hx105_3 := zx HB.out hx105_3
    replace hx105_4 := zx HB.out hx105_4
    replace hx105_5 := zx HB.out hx105_5
    replace hx105_6 := zx HB.out hx105_6
    replace p105 := eq_true p105
    replace q105 := eq_true q105
    have p106 : 0 ≤ (x5_1 : Int) := zD
    have q106 : x5_1 < (l0.length : Int) := zD
    obtain ⟨ad106, e106, hx106_0, hx106_1, hx106_2, hx106_3, hx106_4, hx106_5, hx106_6⟩ := at_T57 HR0.out x5_1 p106 q106
    obtain rfl : ad101 = ad106 := (by injection e106)
    replace hx106_0 := zx HB.out hx106_0
    replace hx106_1 := zx HB.out hx106_1
    replace hx106_2 := zx HB.out hx106_2
    replace hx106_3 := zx HB.out hx106_3
    replace hx106_4 := zx HB.out hx106_4
    replace hx106_5 := zx HB.out hx106_5
    replace hx106_6 := zx HB.out hx106_6
    replace p106 := eq_true p106
    replace q106 := eq_true q106
    try go_wp2
    have n0_ := Zs0.mk (bl1 HB.out)
    revert n0_; clear HB; intro HB
    have p107 : 0 ≤ (x5_1 : Int) := zD
    have q107 : x5_1 < (l0.length : Int) := zD
    obtain ⟨ad107, e107, hx107_0, hx107_1, hx107_2, hx107_3, hx107_4, hx107_5, hx107_6⟩ := at_T57 HR0.out x5_1 p107 q107
    have hw107_6 := hx107_6
    have hw107_5 := hx107_5
    have hw107_4 := hx107_4
    have hw107_3 := hx107_3
    have hw107_2 := hx107_2
    have hw107_1 := hx107_1
    have hw107_0 := hx107_0
    obtain rfl : ad101 = ad107 := (by injection e107)
    replace hx107_0 := zx HB.out hx107_0
    replace hx107_1 := zx HB.out hx107_1
    replace hx107_2 := zx HB.out hx107_2
    replace hx107_3 := zx HB.out hx107_3
    replace hx107_4 := zx HB.out hx107_4
    replace hx107_5 := zx HB.out hx107_5
    replace hx107_6 := zx HB.out hx107_6
    replace p107 := eq_true p107
    replace q107 := eq_true q107
    refine start_ (n := 8) (S := fun w' => w'.cell? (ad101.add ((x5_1).toNat * 7)) = some (.int .i64 ((rd_T57 l0 x5_1).f0)) ∧ w'.cell? ⟨(ad101.add ((x5_1).toNat * 7)).block, (ad101.add ((x5_1).toNat * 7)).off + 1, none⟩ = some (.int .i64 ((rd_T57 l0 x5_1).f1)) ∧ w'.cell? ⟨(ad101.add ((x5_1).toNat * 7)).block, (ad101.add ((x5_1).toNat * 7)).off + 2, none⟩ = some (.int .i64 ((rd_T57 l0 x5_1).f2)) ∧ w'.cell? ⟨(ad101.add ((x5_1).toNat * 7)).block, (ad101.add ((x5_1).toNat * 7)).off + 3, none⟩ = some (.int .i64 ((rd_T57 l0 x5_1).f3)) ∧ w'.cell? ⟨(ad101.add ((x5_1).toNat * 7)).block, (ad101.add ((x5_1).toNat * 7)).off + 4, none⟩ = some (.int .i64 ((rd_T57 l0 x5_1).f4)) ∧ w'.cell? ⟨(ad101.add ((x5_1).toNat * 7)).block, (ad101.add ((x5_1).toNat * 7)).off + 5, none⟩ = some (.int .i64 ((rd_T57 l0 x5_1).f5)) ∧ w'.cell? ⟨(ad101.add ((x5_1).toNat * 7)).block, (ad101.add ((x5_1).toNat * 7)).off + 6, none⟩ = some (.string ((rd_T57 l0 x5_1).f6))) (ds := []) #[false, false, false, false, false, false, false, false] (by kernel_rfl) rfl rfl ⟨(zx HB.out hw107_0), (zx HB.out hw107_1), (zx HB.out hw107_2), (zx HB.out hw107_3), (zx HB.out hw107_4), (zx HB.out hw107_5), (zx HB.out hw107_6)⟩ (fun hHeld => ?_); refine with_tabW laws_heldInstrS.tab22 laws_heldInstrS.bits22 (fun HT_ HW_ => ?_)
    generalize wr.drew = w13 at HB hx107_0 hx107_1 hx107_2 hx107_3 hx107_4 hx107_5 hx107_6 hHeld ⊢
    refine pure_ (i := 0) (N := some 66) (v := ?_) (a' := ?_) #[true, false, false, false, false, false, false, false] rfl rfl (any_of HT_.out (by kernel_rfl)) (fun _ _ _ h => h) (Or.inl ⟨by rfl, ?_⟩) ?_ ?_
    rotate_left
    ·intro w'
     go_simp
     with_reducible rfl
    rotate_left
    ·exact zp
    refine pure_ (i := 1) (N := some 67) (v := ?_) (a' := ?_) #[true, true, false, false, false, false, false, false] rfl rfl (any_of HT_.out (by kernel_rfl)) (fun _ _ _ h => h) (Or.inl ⟨by rfl, ?_⟩) ?_ ?_
    rotate_left
    ·intro w'
     go_simp
     with_reducible rfl
    rotate_left
    ·exact zp
    refine pure_ (i := 2) (N := some 68) (v := ?_) (a' := ?_) #[true, true, true, false, false, false, false, false] rfl rfl (any_of HT_.out (by kernel_rfl)) (fun _ _ _ h => h) (Or.inl ⟨by rfl, ?_⟩) ?_ ?_
    rotate_left
    ·intro w'
     go_simp
     with_reducible rfl
    rotate_left
    ·exact zp
    refine pure_ (i := 3) (N := some 69) (v := ?_) (a' := ?_) #[true, true, true, true, false, false, false, false] rfl rfl (any_of HT_.out (by kernel_rfl)) (fun _ _ _ h => h) (Or.inl ⟨by rfl, ?_⟩) ?_ ?_
    rotate_left
    ·intro w'
     go_simp
     with_reducible rfl
    rotate_left
    ·exact zp
    refine pure_ (i := 5) (N := some 71) (v := ?_) (a' := ?_) #[true, true, true, true, false, true, false, false] rfl rfl (any_of HT_.out (by kernel_rfl)) (fun _ _ _ h => h) (Or.inl ⟨by rfl, ?_⟩) ?_ ?_
    rotate_left
    ·intro w'
     go_simp
     with_reducible rfl
    rotate_left
    ·exact zp
    refine take_ (i := 4) (N := some 70) (v := ?_) (a' := ?_) #[true, true, true, true, true, true, false, false] rfl rfl (take_ofW HT_.out HW_.out (by kernel_rfl)) (fun _ _ _ h => h) (Or.inl ⟨by rfl, ?_⟩) hHeld ?_ ?_
    rotate_left
    ·rintro w' ⟨s0, s1, s2, s3, s4, s5, s6⟩
     go_simp
     with_reducible rfl
    rotate_left
    ·exact zp
    refine one_ (i := 6) (N := some 72) #[true, true, true, true, true, true, true, false] rfl rfl (one_of HT_.out (by kernel_rfl)) (by decide) (fun K hK => ?_)
    refine goes_ Try.func80 (by kernel_rfl) rfl #[.int .i64 (wrap64 ((wrap64 ((wrap64 ((wrap64 ((wrap64 ((wrap64 (x1_1 + 1)) + 1)) + 1)) + 1)) + 1)) + 1))] (by rfl) rfl rfl zM ?_
    with_reducible refine (laws_markText.calls k1 (wrap64 ((wrap64 ((wrap64 ((wrap64 ((wrap64 ((wrap64 (x1_1 + 1)) + 1)) + 1)) + 1)) + 1)) + 1)) t108 _ A11.out).mono ?_
    rintro e w14 ⟨rfl, hb⟩
    refine ⟨_, rfl, ?_⟩
    have n0_ := Zs0.mk (blT zB hb)
    revert n0_; clear HB; intro HB
    (try clear hb)
    (try clear hb2)
    (try clear hk)
    (try clear hi)
    refine hK.out _ _ ⟨(zx HB.out hw107_0), (zx HB.out hw107_1), (zx HB.out hw107_2), (zx HB.out hw107_3), (zx HB.out hw107_4), (zx HB.out hw107_5), (zx HB.out hw107_6)⟩ (fun hHeld => ?_)
    clear hK K
    refine norm_ (a' := ?_) ?_ ?_
    rotate_left
    ·show Act.put _ (some 72) _ = _
     simp only [Act.put, List.setIfInBounds_toArray, List.set_cons_zero, List.set_cons_succ, i64_w, i32_w]
     rfl
    refine pure_ (i := 7) (N := some 73) (v := ?_) (a' := ?_) #[true, true, true, true, true, true, true, true] rfl rfl (any_of HT_.out (by kernel_rfl)) (fun _ _ _ h => h) (Or.inl ⟨by rfl, ?_⟩) ?_ ?_
    rotate_left
    ·intro w'
     go_simp
     with_reducible rfl
    rotate_left
    ·exact zp
    refine done_ (done_of HT_.out (by kernel_rfl)) ?_
    try go_wp2
    go_roundg k1
    case measure => have := HK1.out; omega
    case rel => exact ⟨(wrap64 ((wrap64 ((wrap64 ((wrap64 ((wrap64 ((wrap64 ((wrap64 (x1_1 + 1)) + 1)) + 1)) + 1)) + 1)) + 1)) + 1)), (wrap64 (x5_1 + 1)), zq, zq, H', ⟨by have := HK1.out; omega⟩, ⟨zB⟩⟩
   ·rw [if_neg c3] at H
    have c3b0 : decide (x5_1 < (l0.length : Int)) = false := decide_eq_false c3
    clear c3
    obtain rfl := Option.some.inj H
    go_wp2
    go_ret
    exact ⟨zr, zB⟩

end Go.Proofs.Ytcbpbnkoolpibaa.P
namespace Go.Proofs.Ytcbpbnkoolpibaa.P
open Go.RowKit Go.Proofs.YtcbpbnkoolpibaaW.PrintWords Go.Proofs.YtcbpbnkoolpibaaW.PrintLast Go.Proofs.YtcbpbnkoolpibaaW.PrintMore
attribute [local go_sem] max2_int min2_int max_two min_two max_three min_three max_four min_four   -- for this text's walks alone
set_option linter.unusedVariables false
set_option linter.unusedSimpArgs false

/-! ### laws_heldBlockS: function 40 -/
def laws_heldBlockS.l0 : Nat → List (S47) → Int → Int → Option (Int)
  | 0, _, _, _ => none
  | k + 1, x0, x1, x5 => if x5 < (x0.length : Int) then (if 0 ≤ x5 then ((laws_heldInstrS.f k ((rd_T47 x0 x5).f0) x1).bind fun t102 => (if t102 < 0 then (none) else (if ((rd_T47 x0 x5).f1) = t102 then (if ((rd_T47 x0 x5).f2) = (wrap64 (t102 + 1)) then (if ((rd_T47 x0 x5).f3) = (wrap64 ((wrap64 (t102 + 1)) + 1)) then (if ((rd_T47 x0 x5).f4) = (wrap64 ((wrap64 ((wrap64 (t102 + 1)) + 1)) + 1)) then (laws_heldBlockS.l0 k x0 (wrap64 ((wrap64 ((wrap64 ((wrap64 (t102 + 1)) + 1)) + 1)) + 1)) (wrap64 (x5 + 1))) else (none)) else (none)) else (none)) else (none)))) else (none)) else (some x1)
def laws_heldBlockS.f (k : Nat) (l0 : List (S47)) (a1 : Int) : Option (Int) := laws_heldBlockS.l0 k l0 a1 0
theorem laws_heldBlockS.mono_l : ∀ k, (∀ y0 y1 y2, LeO (laws_heldBlockS.l0 k y0 y1 y2) (laws_heldBlockS.l0 (k + 1) y0 y1 y2))
  | 0 => fun _ _ _ r h => by simp [laws_heldBlockS.l0] at h
  | k + 1 => by
    have ih0 := laws_heldBlockS.mono_l k
    · intro y0 y1 y2
      unfold laws_heldBlockS.l0
      repeat' first
      | (with_reducible exact ih0 _ _ _)
      | (with_reducible exact laws_heldInstrS.mono _ _ _)
      | (with_reducible exact LeO.refl _)
      | (with_reducible exact LeO.none _)
      | (with_reducible refine LeO.ite ?_ ?_)
      | (with_reducible refine LeO.bind ?_ (fun _ => ?_))
      | exact ih0 _ _ _
      | exact laws_heldInstrS.mono _ _ _
      | exact LeO.none _
      | refine LeO.ite ?_ ?_
      | refine LeO.bind ?_ (fun _ => ?_)
theorem laws_heldBlockS.mono : ∀ a0 a1 k, LeO (laws_heldBlockS.f k a0 a1) (laws_heldBlockS.f (k + 1) a0 a1) := by
  intro a0 a1 k
  have ih0 := laws_heldBlockS.mono_l k
  unfold laws_heldBlockS.f
  repeat' first
      | (with_reducible exact ih0 _ _ _)
      | (with_reducible exact laws_heldInstrS.mono _ _ _)
      | (with_reducible exact LeO.refl _)
      | (with_reducible exact LeO.none _)
      | (with_reducible refine LeO.ite ?_ ?_)
      | (with_reducible refine LeO.bind ?_ (fun _ => ?_))
      | exact ih0 _ _ _
      | exact laws_heldInstrS.mono _ _ _
      | exact LeO.none _
      | refine LeO.ite ?_ ?_
      | refine LeO.bind ?_ (fun _ => ?_)
set_option maxHeartbeats 8000000 in
set_option maxRecDepth 100000 in
theorem laws_heldBlockS.calls (k : Nat) (A0 : Option Addr) (c0 : Nat) (l0 : List (S47)) (a1 : Int) (r : Int) (w : World) (hr0 : Kd.C k47 w A0 l0.length l0) (hc0 : l0.length ≤ c0) (h : laws_heldBlockS.f k l0 a1 = some r) :
  Calls Try.prog 40 #[.slice A0 l0.length c0, .int .i64 a1] w fun e w' => e = .returned (.int .i64 r) ∧ Below w.heap.size w w' := by
 have HR0 := Zs0.mk hr0
 have HC0 := Zs0.mk hc0
 clear hr0 hc0
 have HB := Zs0.mk (Below.refl w.heap.size w)
 have H : (laws_heldBlockS.l0 k l0 a1 0) = some r := h
 clear h
 have H' := Zs0.mk H
 clear H
 go_enter Try.func40, Try.ntmps40
 go_wp2
 go_loopg [1, 5] k (fun kq v1 v5 w' => ∃ (x1_1 : Int) (x5_1 : Int), v1 = .int .i64 x1_1 ∧ v5 = .int .i64 x5_1 ∧ Zs0 (laws_heldBlockS.l0 kq l0 x1_1 x5_1 = some r) ∧ Zs0 (kq ≤ k) ∧ Zs0 (Below w.heap.size w w'))
 case atStart => exact ⟨(a1), (0), zq, zq, H', ⟨Nat.le_refl _⟩, ⟨zB⟩⟩
 case round =>
  clear H'
  try clear p2
  obtain ⟨x1_1, x5_1, rfl, rfl, HA, HK1, HB⟩ := hrel
  cases gk with
  | zero => exact absurd HA.out (by simp [laws_heldBlockS.l0])
  | succ k1 =>
   have H := HA.out
   clear HA
   simp only [laws_heldBlockS.l0] at H
   by_cases c3 : x5_1 < (l0.length : Int)
   ·rw [if_pos c3] at H
    have c3b0 : decide (x5_1 < (l0.length : Int)) = true := decide_eq_true c3
    clear c3
    have c4 := ipos H
    rw [if_pos c4] at H
    have c4b0 := decide_eq_true c4
    clear c4
    replace H := Option.bind_eq_some_iff.mp H
    obtain ⟨t102, A50, H⟩ := H
    replace H : (if t102 < 0 then (none) else (if ((rd_T47 l0 x5_1).f1) = t102 then (if ((rd_T47 l0 x5_1).f2) = (wrap64 (t102 + 1)) then (if ((rd_T47 l0 x5_1).f3) = (wrap64 ((wrap64 (t102 + 1)) + 1)) then (if ((rd_T47 l0 x5_1).f4) = (wrap64 ((wrap64 ((wrap64 (t102 + 1)) + 1)) + 1)) then (laws_heldBlockS.l0 k1 l0 (wrap64 ((wrap64 ((wrap64 ((wrap64 (t102 + 1)) + 1)) + 1)) + 1)) (wrap64 (x5_1 + 1))) else (none)) else (none)) else (none)) else (none))) = some r := H
    have A5 := Zs0.mk A50
    clear A50
    by_cases c6 : t102 < 0
    ·rw [if_pos c6] at H
     exact absurd H (by simp)
    ·rw [if_neg c6] at H
     have c6b0 : decide (t102 < 0) = false := decide_eq_false c6
     clear c6
     have c7 := ipos H
     rw [if_pos c7] at H
     have c7b0 : (((rd_T47 l0 x5_1).f1) == t102) = true := beq_iff_eq.mpr c7
     have c7b1 : (((rd_T47 l0 x5_1).f1) != t102) = false := bne_eq_false_iff_eq.mpr c7
     clear c7
     have c8 := ipos H
     rw [if_pos c8] at H
     have c8b0 : (((rd_T47 l0 x5_1).f2) == (wrap64 (t102 + 1))) = true := beq_iff_eq.mpr c8
     have c8b1 : (((rd_T47 l0 x5_1).f2) != (wrap64 (t102 + 1))) = false := bne_eq_false_iff_eq.mpr c8
     clear c8
     have c9 := ipos H
     rw [if_pos c9] at H
     have c9b0 : (((rd_T47 l0 x5_1).f3) == (wrap64 ((wrap64 (t102 + 1)) + 1))) = true := beq_iff_eq.mpr c9
     have c9b1 : (((rd_T47 l0 x5_1).f3) != (wrap64 ((wrap64 (t102 + 1)) + 1))) = false := bne_eq_false_iff_eq.mpr c9
     clear c9
     have c10 := ipos H
     rw [if_pos c10] at H
     have c10b0 : (((rd_T47 l0 x5_1).f4) == (wrap64 ((wrap64 ((wrap64 (t102 + 1)) + 1)) + 1))) = true := beq_iff_eq.mpr c10
     have c10b1 : (((rd_T47 l0 x5_1).f4) != (wrap64 ((wrap64 ((wrap64 (t102 + 1)) + 1)) + 1))) = false := bne_eq_false_iff_eq.mpr c10
     clear c10
     have H' := Zs0.mk H
     clear H
     have p101 : 0 ≤ (x5_1 : Int) := zD
     have q101 : x5_1 < (l0.length : Int) := zD
     obtain ⟨ad101, A101_0, c101_0, e101, hx101_0, hx101_1, hx101_2, hx101_3, hx101_4, hl101_0, hi101_0⟩ := at_T47 HR0.out x5_1 p101 q101
     cases e101
     replace hx101_0 := zx HB.out hx101_0
     replace hx101_1 := zx HB.out hx101_1
     replace hx101_2 := zx HB.out hx101_2
     replace hx101_3 := zx HB.out hx101_3
     replace hx101_4 := zx HB.out hx101_4
     have HR101_0 := Zs0.mk hi101_0
     have HC101_0 := Zs0.mk hl101_0
     clear hi101_0 hl101_0
     replace p101 := eq_true p101
     replace q101 := eq_true q101
     go_wp2_with (first | ((with_reducible refine gtC (f := 61) rfl ?_); refine goesL_ (some 18) rfl rfl Try.func61 (by kernel_rfl) rfl #[.slice A101_0 ((rd_T47 l0 x5_1).f0).length c101_0, .int .i64 x1_1] rfl zM ?_; (with_reducible refine (laws_heldInstrS.calls k1 _ _ ((rd_T47 l0 x5_1).f0) x1_1 t102 _ ?side1 ?side2 A5.out).mono ?_); (case side1 => exact zC HR101_0.out); (case side2 => exact HC101_0.out); rintro e w11 ⟨rfl, hb⟩; refine ⟨_, rfl, ?_⟩; have n0_ := Zs0.mk (blT zB hb); revert n0_; clear HB; intro HB; (try clear hb); (try clear hb2); (try clear hk); (try clear hi); have p103 : 0 ≤ (x5_1 : Int) := zD; have q103 : x5_1 < (l0.length : Int) := zD; obtain ⟨ad103, A103_0, c103_0, e103, hx103_0, hx103_1, hx103_2, hx103_3, hx103_4, hl103_0, hi103_0⟩ := at_T47 HR0.out x5_1 p103 q103; obtain rfl : ad101 = ad103 := (by injection e103); replace hx103_0 := zx HB.out hx103_0; replace hx103_1 := zx HB.out hx103_1; replace hx103_2 := zx HB.out hx103_2; replace hx103_3 := zx HB.out hx103_3; replace hx103_4 := zx HB.out hx103_4; have HR103_0 := Zs0.mk hi103_0; have HC103_0 := Zs0.mk hl103_0; clear hi103_0 hl103_0; replace p103 := eq_true p103; replace q103 := eq_true q103; have p104 : 0 ≤ (x5_1 : Int) := zD; have q104 : x5_1 < (l0.length : Int) := zD; obtain ⟨ad104, A104_0, c104_0, e104, hx104_0, hx104_1, hx104_2, hx104_3, hx104_4, hl104_0, hi104_0⟩ := at_T47 HR0.out x5_1 p104 q104; obtain rfl : ad101 = ad104 := (by injection e104); replace hx104_0 := zx HB.out hx104_0; replace hx104_1 := zx HB.out hx104_1; replace hx104_2 := zx HB.out hx104_2; replace hx104_3 := zx HB.out hx104_3; replace hx104_4 := zx HB.out hx104_4; have HR104_0 := Zs0.mk hi104_0; have HC104_0 := Zs0.mk hl104_0; clear hi104_0 hl104_0; replace p104 := eq_true p104; replace q104 := eq_true q104; have ea_ := Option.some.inj (hx103_0.symm.trans hx104_0); injection ea_ with ea_ en_ ec_; subst ea_; subst ec_; clear en_; have p105 : 0 ≤ (x5_1 : Int) := zD; have q105 : x5_1 < (l0.length : Int) := zD; obtain ⟨ad105, A105_0, c105_0, e105, hx105_0, hx105_1, hx105_2, hx105_3, hx105_4, hl105_0, hi105_0⟩ := at_T47 HR0.out x5_1 p105 q105; obtain rfl : ad101 = ad105 := (by injection e105); replace hx105_0 := zx HB.out hx105_0; replace hx105_1 := zx HB.out hx105_1; replace hx105_2 := zx HB.out hx105_2; replace hx105_3 := zx HB.out hx105_3; replace hx105_4 := zx HB.out hx105_4; have HR105_0 := Zs0.mk hi105_0; have HC105_0 := Zs0.mk hl105_0; clear hi105_0 hl105_0; replace p105 := eq_true p105; replace q105 := eq_true q105; have ea_ := Option.some.inj (hx103_0.symm.trans hx105_0); injection ea_ with ea_ en_ ec_; subst ea_; subst ec_; clear en_; have p106 : 0 ≤ (x5_1 : Int) := zD; have q106 : x5_1 < (l0.length : Int) := zD; obtain ⟨ad106, A106_0, c106_0, e106, hx106_0, hx106_1, hx106_2, hx106_3, hx106_4, hl106_0, hi106_0⟩ := at_T47 HR0.out x5_1 p106 q106; obtain rfl : ad101 = ad106 := (by injection e106); replace hx106_0 := zx HB.out hx106_0; replace hx106_1 := zx HB.out hx106_1; replace hx106_2 := zx HB.out hx106_2; replace hx106_3 := zx HB.out hx106_3; replace hx106_4 := zx HB.out hx106_4; have HR106_0 := Zs0.mk hi106_0; have HC106_0 := Zs0.mk hl106_0; clear hi106_0 hl106_0; replace p106 := eq_true p106; replace q106 := eq_true q106; have ea_ := Option.some.inj (hx103_0.symm.trans hx106_0); injection ea_ with ea_ en_ ec_; subst ea_; subst ec_; clear en_))
     go_roundg k1
     case measure => have := HK1.out; omega
     case rel => exact ⟨(wrap64 ((wrap64 ((wrap64 ((wrap64 (t102 + 1)) + 1)) + 1)) + 1)), (wrap64 (x5_1 + 1)), zq, zq, H', ⟨by have := HK1.out; omega⟩, ⟨zB⟩⟩
   ·rw [if_neg c3] at H
    have c3b0 : decide (x5_1 < (l0.length : Int)) = false := decide_eq_false c3
    clear c3
    obtain rfl := Option.some.inj H
    go_wp2
    go_ret
    exact ⟨zr, zB⟩

end Go.Proofs.Ytcbpbnkoolpibaa.P
namespace Go.Proofs.Ytcbpbnkoolpibaa.P
open Go.RowKit Go.Proofs.YtcbpbnkoolpibaaW.PrintWords Go.Proofs.YtcbpbnkoolpibaaW.PrintLast Go.Proofs.YtcbpbnkoolpibaaW.PrintMore
attribute [local go_sem] max2_int min2_int max_two min_two max_three min_three max_four min_four   -- for this text's walks alone
set_option linter.unusedVariables false
set_option linter.unusedSimpArgs false

/-! ### laws_heldGraph: function 13 -/
def laws_heldGraph.f (k : Nat) (l0_0 : List Int) (a0_1 : Int) (a0_2 : Int) (a0_3 : Int) (l0_4 : List (S47)) (a1 : Int) : Option (Int) := (laws_heldIntS.f k l0_0 a1).bind fun t102 => (if t102 < 0 then (none) else ((laws_heldBlockS.f k l0_4 t102).bind fun t103 => (if t103 < 0 then (none) else (some t103))))
theorem laws_heldGraph.mono : ∀ a0 a1 a2 a3 a4 a5 k, LeO (laws_heldGraph.f k a0 a1 a2 a3 a4 a5) (laws_heldGraph.f (k + 1) a0 a1 a2 a3 a4 a5) := by
  intro a0 a1 a2 a3 a4 a5 k
  unfold laws_heldGraph.f
  repeat' first
      | (with_reducible exact laws_heldBlockS.mono _ _ _)
      | (with_reducible exact laws_heldIntS.mono _ _ _)
      | (with_reducible exact LeO.refl _)
      | (with_reducible exact LeO.none _)
      | (with_reducible refine LeO.ite ?_ ?_)
      | (with_reducible refine LeO.bind ?_ (fun _ => ?_))
      | exact laws_heldBlockS.mono _ _ _
      | exact laws_heldIntS.mono _ _ _
      | exact LeO.none _
      | refine LeO.ite ?_ ?_
      | refine LeO.bind ?_ (fun _ => ?_)
set_option maxHeartbeats 8000000 in
set_option maxRecDepth 100000 in
theorem laws_heldGraph.calls (k : Nat) (A0_0 : Option Addr) (c0_0 : Nat) (l0_0 : List Int) (a0_1 : Int) (a0_2 : Int) (a0_3 : Int) (A0_4 : Option Addr) (c0_4 : Nat) (l0_4 : List (S47)) (a1 : Int) (r : Int) (w : World) (hr0_0 : Kd.C (Kd.int .i64) w A0_0 l0_0.length l0_0) (hc0_0 : l0_0.length ≤ c0_0) (hr0_4 : Kd.C k47 w A0_4 l0_4.length l0_4) (hc0_4 : l0_4.length ≤ c0_4) (h : laws_heldGraph.f k l0_0 a0_1 a0_2 a0_3 l0_4 a1 = some r) :
  Calls Try.prog 13 #[.agg #[.slice A0_0 l0_0.length c0_0, .int .i64 a0_1, .int .i64 a0_2, .int .i64 a0_3, .slice A0_4 l0_4.length c0_4], .int .i64 a1] w fun e w' => e = .returned (.int .i64 r) ∧ Below w.heap.size w w' := by
 have hu29 := Try.underlying29
 have HR0_0 := Zs0.mk hr0_0
 have HC0_0 := Zs0.mk hc0_0
 clear hr0_0 hc0_0
 have HR0_4 := Zs0.mk hr0_4
 have HC0_4 := Zs0.mk hc0_4
 clear hr0_4 hc0_4
 have HB := Zs0.mk (Below.refl w.heap.size w)
 have H : ((laws_heldIntS.f k l0_0 a1).bind fun t102 => (if t102 < 0 then (none) else ((laws_heldBlockS.f k l0_4 t102).bind fun t103 => (if t103 < 0 then (none) else (some t103))))) = some r := h
 clear h
 replace H := Option.bind_eq_some_iff.mp H
 obtain ⟨t102, A30, H⟩ := H
 replace H : (if t102 < 0 then (none) else ((laws_heldBlockS.f k l0_4 t102).bind fun t103 => (if t103 < 0 then (none) else (some t103)))) = some r := H
 have A3 := Zs0.mk A30
 clear A30
 by_cases c4 : t102 < 0
 ·rw [if_pos c4] at H
  exact absurd H (by simp)
 ·rw [if_neg c4] at H
  have c4b0 : decide (t102 < 0) = false := decide_eq_false c4
  clear c4
  replace H := Option.bind_eq_some_iff.mp H
  obtain ⟨t103, A50, H⟩ := H
  replace H : (if t103 < 0 then (none) else (some t103)) = some r := H
  have A5 := Zs0.mk A50
  clear A50
  by_cases c6 : t103 < 0
  ·rw [if_pos c6] at H
   exact absurd H (by simp)
  ·rw [if_neg c6] at H
   have c6b0 : decide (t103 < 0) = false := decide_eq_false c6
   clear c6
   obtain rfl := Option.some.inj H
   go_enter Try.func13, Try.ntmps13
   go_wp2_with (first | ((with_reducible refine gtD (N := 2) rfl ?_); refine bxE ?hg (N := 2) ?hd (cs := #[.slice A0_0 l0_0.length c0_0, .int .i64 a0_1, .int .i64 a0_2, .int .i64 a0_3, .slice A0_4 l0_4.length c0_4]) (t := 29) ?hr ?_; (case hd => rfl); (case hg => rfl); (case hr => first | (go_simp; done) | (go_simp; rfl)); intro gb101 hg w7 hbox hb; have n0_ := Zs0.mk (blT zB hb); have n1_ := Zs0.mk (hbox); have n2_ := Zs0.mk (zs hg : w.heap.size ≤ gb101); have n3_ := Zs0.mk (zs hg : w.heap.size ≤ gb101); revert n0_ n1_ n2_ n3_; clear HB; intro HB BK101 GW101 GE101; clear hb hbox hg; obtain ⟨hcz8_0, hcz8_1, hcz8_2, hcz8_3, hcz8_4, hfz8_0, hfz8_1, hfz8_2, hfz8_3, hfz8_4⟩ := bx5 BK101.out) | ((with_reducible refine gtC (f := 25) rfl ?_); refine goesL_ (some 8) rfl rfl Try.func25 (by kernel_rfl) rfl #[.slice A0_0 l0_0.length c0_0, .int .i64 a1] rfl zM ?_; (with_reducible refine (laws_heldIntS.calls k _ _ l0_0 a1 t102 _ ?side1 ?side2 A3.out).mono ?_); (case side1 => exact zC HR0_0.out); (case side2 => exact HC0_0.out); rintro e w' ⟨rfl, ⟨nd, rfl⟩⟩; refine ⟨_, rfl, ?_⟩) | ((with_reducible refine gtC (f := 40) rfl ?_); refine goesL_ (some 14) rfl rfl Try.func40 (by kernel_rfl) rfl #[.slice A0_4 l0_4.length c0_4, .int .i64 t102] rfl zM ?_; (with_reducible refine (laws_heldBlockS.calls k _ _ l0_4 t102 t103 _ ?side1 ?side2 A5.out).mono ?_); (case side1 => repeat (first | exact (Kd.cB1 HR0_4.out zB) | (with_reducible refine Kd.cA1 ?_ _) | (with_reducible refine Kd.cD1 ?_ _) | (with_reducible refine Kd.cD2 ?_))); (case side2 => exact HC0_4.out); rintro e w9 ⟨rfl, hb⟩; refine ⟨_, rfl, ?_⟩; have n0_ := Zs0.mk (bkB (zG BK101.out) hb); have n1_ := Zs0.mk (blT zB hb); revert n0_ n1_; clear BK101 HB; intro BK101 HB; (try clear hb); (try clear hb2); (try clear hk); (try clear hi)))
   go_ret
   exact ⟨zr, zB⟩

end Go.Proofs.Ytcbpbnkoolpibaa.P
namespace Go.Proofs.Ytcbpbnkoolpibaa.P
open Go.RowKit Go.Proofs.YtcbpbnkoolpibaaW.PrintWords Go.Proofs.YtcbpbnkoolpibaaW.PrintLast Go.Proofs.YtcbpbnkoolpibaaW.PrintMore
attribute [local go_sem] max2_int min2_int max_two min_two max_three min_three max_four min_four   -- for this text's walks alone
set_option linter.unusedVariables false
set_option linter.unusedSimpArgs false

/-! ### laws_heldIntSS: function 18 -/
def laws_heldIntSS.l0 : Nat → List (List Int) → Int → Int → Option (Int)
  | 0, _, _, _ => none
  | k + 1, x0, x1, x5 => if x5 < (x0.length : Int) then (if 0 ≤ x5 then ((laws_heldIntS.f k (rd_L14 x0 x5) x1).bind fun t102 => (if t102 < 0 then (some (-1)) else (laws_heldIntSS.l0 k x0 t102 (wrap64 (x5 + 1))))) else (none)) else (some x1)
def laws_heldIntSS.f (k : Nat) (l0 : List (List Int)) (a1 : Int) : Option (Int) := laws_heldIntSS.l0 k l0 a1 0
theorem laws_heldIntSS.mono_l : ∀ k, (∀ y0 y1 y2, LeO (laws_heldIntSS.l0 k y0 y1 y2) (laws_heldIntSS.l0 (k + 1) y0 y1 y2))
  | 0 => fun _ _ _ r h => by simp [laws_heldIntSS.l0] at h
  | k + 1 => by
    have ih0 := laws_heldIntSS.mono_l k
    · intro y0 y1 y2
      unfold laws_heldIntSS.l0
      repeat' first
      | (with_reducible exact ih0 _ _ _)
      | (with_reducible exact laws_heldIntS.mono _ _ _)
      | (with_reducible exact LeO.refl _)
      | (with_reducible exact LeO.none _)
      | (with_reducible refine LeO.ite ?_ ?_)
      | (with_reducible refine LeO.bind ?_ (fun _ => ?_))
      | exact ih0 _ _ _
      | exact laws_heldIntS.mono _ _ _
      | exact LeO.none _
      | refine LeO.ite ?_ ?_
      | refine LeO.bind ?_ (fun _ => ?_)
theorem laws_heldIntSS.mono : ∀ a0 a1 k, LeO (laws_heldIntSS.f k a0 a1) (laws_heldIntSS.f (k + 1) a0 a1) := by
  intro a0 a1 k
  have ih0 := laws_heldIntSS.mono_l k
  unfold laws_heldIntSS.f
  repeat' first
      | (with_reducible exact ih0 _ _ _)
      | (with_reducible exact laws_heldIntS.mono _ _ _)
      | (with_reducible exact LeO.refl _)
      | (with_reducible exact LeO.none _)
      | (with_reducible refine LeO.ite ?_ ?_)
      | (with_reducible refine LeO.bind ?_ (fun _ => ?_))
      | exact ih0 _ _ _
      | exact laws_heldIntS.mono _ _ _
      | exact LeO.none _
      | refine LeO.ite ?_ ?_
      | refine LeO.bind ?_ (fun _ => ?_)
set_option maxHeartbeats 8000000 in
set_option maxRecDepth 100000 in
theorem laws_heldIntSS.calls (k : Nat) (A0 : Option Addr) (c0 : Nat) (l0 : List (List Int)) (a1 : Int) (r : Int) (w : World) (hr0 : Kd.C (Kd.slice 3 (Kd.int .i64)) w A0 l0.length l0) (hc0 : l0.length ≤ c0) (h : laws_heldIntSS.f k l0 a1 = some r) :
  Calls Try.prog 18 #[.slice A0 l0.length c0, .int .i64 a1] w fun e w' => e = .returned (.int .i64 r) ∧ Drawn0 w w' := by
 have HR0 := Zs0.mk hr0
 have HC0 := Zs0.mk hc0
 clear hr0 hc0
 have H : (laws_heldIntSS.l0 k l0 a1 0) = some r := h
 clear h
 have H' := Zs0.mk H
 clear H
 go_enter Try.func18, Try.ntmps18
 go_wp2
 go_loopg [1, 5] k (fun kq v1 v5 w' => ∃ (x1_1 : Int) (x5_1 : Int), v1 = .int .i64 x1_1 ∧ v5 = .int .i64 x5_1 ∧ Zs0 (laws_heldIntSS.l0 kq l0 x1_1 x5_1 = some r) ∧ Zs0 (kq ≤ k) ∧ Drawn0 w w')
 case atStart => exact ⟨(a1), (0), zq, zq, H', ⟨Nat.le_refl _⟩, by repeat (first | exact Drawn0.refl _ | apply Drawn0.step)⟩
 case round =>
  clear H'
  try clear c1
  try clear p2
  obtain ⟨x1_1, x5_1, rfl, rfl, HA, HK1, ⟨m1, rfl⟩⟩ := hrel
  cases gk with
  | zero => exact absurd HA.out (by simp [laws_heldIntSS.l0])
  | succ k1 =>
   have H := HA.out
   clear HA
   simp only [laws_heldIntSS.l0] at H
   by_cases c3 : x5_1 < (l0.length : Int)
   ·rw [if_pos c3] at H
    have c3b0 : decide (x5_1 < (l0.length : Int)) = true := decide_eq_true c3
    clear c3
    have c4 := ipos H
    rw [if_pos c4] at H
    have c4b0 := decide_eq_true c4
    clear c4
    replace H := Option.bind_eq_some_iff.mp H
    obtain ⟨t102, A50, H⟩ := H
    replace H : (if t102 < 0 then (some (-1)) else (laws_heldIntSS.l0 k1 l0 t102 (wrap64 (x5_1 + 1)))) = some r := H
    have A5 := Zs0.mk A50
    clear A50
    by_cases c6 : t102 < 0
    ·rw [if_pos c6] at H
     have c6b0 : decide (t102 < 0) = true := decide_eq_true c6
     clear c6
     obtain rfl := Option.some.inj H
     have p101 : 0 ≤ (x5_1 : Int) := zD
     have q101 : x5_1 < (l0.length : Int) := zD
     obtain ⟨ad101, A101_0, c101_0, e101, hx101_0, hl101_0, hi101_0⟩ := at_L14 HR0.out x5_1 p101 q101
     cases e101
     have HR101_0 := Zs0.mk hi101_0
     have HC101_0 := Zs0.mk hl101_0
     clear hi101_0 hl101_0
     replace p101 := eq_true p101
     replace q101 := eq_true q101
     go_wp2_with (first | ((with_reducible refine gtC (f := 25) rfl ?_); refine goesL_ (some 17) rfl rfl Try.func25 (by kernel_rfl) rfl #[.slice A101_0 (rd_L14 l0 x5_1).length c101_0, .int .i64 x1_1] rfl zM ?_; (with_reducible refine (laws_heldIntS.calls k1 _ _ (rd_L14 l0 x5_1) x1_1 t102 _ ?side1 ?side2 A5.out).mono ?_); (case side1 => repeat (first | exact HR101_0.out | (with_reducible refine Kd.cA1 ?_ _) | (with_reducible refine Kd.cD1 ?_ _) | (with_reducible refine Kd.cD2 ?_))); (case side2 => exact HC101_0.out); rintro e w' ⟨rfl, ⟨nd, rfl⟩⟩; refine ⟨_, rfl, ?_⟩))
     go_ret
     exact ⟨by first | rfl | (simp; done) | (simp [*]; done), by repeat (first | exact Drawn0.refl _ | apply Drawn0.step)⟩
    ·rw [if_neg c6] at H
     have c6b0 : decide (t102 < 0) = false := decide_eq_false c6
     clear c6
     have H' := Zs0.mk H
     clear H
     have p101 : 0 ≤ (x5_1 : Int) := zD
     have q101 : x5_1 < (l0.length : Int) := zD
     obtain ⟨ad101, A101_0, c101_0, e101, hx101_0, hl101_0, hi101_0⟩ := at_L14 HR0.out x5_1 p101 q101
     cases e101
     have HR101_0 := Zs0.mk hi101_0
     have HC101_0 := Zs0.mk hl101_0
     clear hi101_0 hl101_0
     replace p101 := eq_true p101
     replace q101 := eq_true q101
     go_wp2_with (first | ((with_reducible refine gtC (f := 25) rfl ?_); refine goesL_ (some 17) rfl rfl Try.func25 (by kernel_rfl) rfl #[.slice A101_0 (rd_L14 l0 x5_1).length c101_0, .int .i64 x1_1] rfl zM ?_; (with_reducible refine (laws_heldIntS.calls k1 _ _ (rd_L14 l0 x5_1) x1_1 t102 _ ?side1 ?side2 A5.out).mono ?_); (case side1 => repeat (first | exact HR101_0.out | (with_reducible refine Kd.cA1 ?_ _) | (with_reducible refine Kd.cD1 ?_ _) | (with_reducible refine Kd.cD2 ?_))); (case side2 => exact HC101_0.out); rintro e w' ⟨rfl, ⟨nd, rfl⟩⟩; refine ⟨_, rfl, ?_⟩))
     go_roundg k1
     case measure => have := HK1.out; omega
     case rel => exact ⟨(t102), (wrap64 (x5_1 + 1)), zq, zq, H', ⟨by have := HK1.out; omega⟩, by repeat (first | exact Drawn0.refl _ | apply Drawn0.step)⟩
   ·rw [if_neg c3] at H
    have c3b0 : decide (x5_1 < (l0.length : Int)) = false := decide_eq_false c3
    clear c3
    obtain rfl := Option.some.inj H
    go_wp2
    go_ret
    exact ⟨by first | rfl | (simp; done) | (simp [*]; done), by repeat (first | exact Drawn0.refl _ | apply Drawn0.step)⟩

end Go.Proofs.Ytcbpbnkoolpibaa.P
namespace Go.Proofs.Ytcbpbnkoolpibaa.P
open Go.RowKit Go.Proofs.YtcbpbnkoolpibaaW.PrintWords Go.Proofs.YtcbpbnkoolpibaaW.PrintLast Go.Proofs.YtcbpbnkoolpibaaW.PrintMore
attribute [local go_sem] max2_int min2_int max_two min_two max_three min_three max_four min_four   -- for this text's walks alone
set_option linter.unusedVariables false
set_option linter.unusedSimpArgs false

/-! ### laws_eqIntS: function 23 -/
def laws_eqIntS.l0 : Nat → List Int → List Int → Int → Option (Bool)
  | 0, _, _, _ => none
  | k + 1, x0, x1, x5 => if x5 < (x0.length : Int) then (if 0 ≤ x5 then (if x5 < (x1.length : Int) then (if (rd x0 x5) = (rd x1 x5) then (laws_eqIntS.l0 k x0 x1 (wrap64 (x5 + 1))) else (some false)) else (none)) else (none)) else (some true)
def laws_eqIntS.f (k : Nat) (l0 : List Int) (l1 : List Int) : Option (Bool) := if (l0.length : Int) = (l1.length : Int) then (laws_eqIntS.l0 k l0 l1 0) else (some false)
theorem laws_eqIntS.mono_l : ∀ k, (∀ y0 y1 y2, LeO (laws_eqIntS.l0 k y0 y1 y2) (laws_eqIntS.l0 (k + 1) y0 y1 y2))
  | 0 => fun _ _ _ r h => by simp [laws_eqIntS.l0] at h
  | k + 1 => by
    have ih0 := laws_eqIntS.mono_l k
    · intro y0 y1 y2
      unfold laws_eqIntS.l0
      repeat' first
      | (with_reducible exact ih0 _ _ _)
      | (with_reducible exact LeO.refl _)
      | (with_reducible exact LeO.none _)
      | (with_reducible refine LeO.ite ?_ ?_)
      | (with_reducible refine LeO.bind ?_ (fun _ => ?_))
      | exact ih0 _ _ _
      | exact LeO.none _
      | refine LeO.ite ?_ ?_
      | refine LeO.bind ?_ (fun _ => ?_)
theorem laws_eqIntS.mono : ∀ a0 a1 k, LeO (laws_eqIntS.f k a0 a1) (laws_eqIntS.f (k + 1) a0 a1) := by
  intro a0 a1 k
  have ih0 := laws_eqIntS.mono_l k
  unfold laws_eqIntS.f
  repeat' first
      | (with_reducible exact ih0 _ _ _)
      | (with_reducible exact LeO.refl _)
      | (with_reducible exact LeO.none _)
      | (with_reducible refine LeO.ite ?_ ?_)
      | (with_reducible refine LeO.bind ?_ (fun _ => ?_))
      | exact ih0 _ _ _
      | exact LeO.none _
      | refine LeO.ite ?_ ?_
      | refine LeO.bind ?_ (fun _ => ?_)
set_option maxHeartbeats 8000000 in
set_option maxRecDepth 100000 in
theorem laws_eqIntS.calls (k : Nat) (A0 : Option Addr) (c0 : Nat) (l0 : List Int) (A1 : Option Addr) (c1 : Nat) (l1 : List Int) (r : Bool) (w : World) (hr0 : Kd.C (Kd.int .i64) w A0 l0.length l0) (hc0 : l0.length ≤ c0) (hr1 : Kd.C (Kd.int .i64) w A1 l1.length l1) (hc1 : l1.length ≤ c1) (h : laws_eqIntS.f k l0 l1 = some r) :
  Calls Try.prog 23 #[.slice A0 l0.length c0, .slice A1 l1.length c1] w fun e w' => e = .returned (.bool r) ∧ Drawn0 w w' := by
 have HR0 := Zs0.mk hr0
 have HC0 := Zs0.mk hc0
 clear hr0 hc0
 have HR1 := Zs0.mk hr1
 have HC1 := Zs0.mk hc1
 clear hr1 hc1
 have H : (if (l0.length : Int) = (l1.length : Int) then (laws_eqIntS.l0 k l0 l1 0) else (some false)) = some r := h
 clear h
 by_cases c3 : (l0.length : Int) = (l1.length : Int)
 ·rw [if_pos c3] at H
  have c3b0 : ((l0.length : Int) == (l1.length : Int)) = true := beq_iff_eq.mpr c3
  have c3b1 : ((l0.length : Int) != (l1.length : Int)) = false := bne_eq_false_iff_eq.mpr c3
  have c3b2 : (l0.length == l1.length) = true := by first | simpa using c3 | (simp at c3 ⊢; omega)
  clear c3
  have H' := Zs0.mk H
  clear H
  go_enter Try.func23, Try.ntmps23
  go_wp2
  repeat (go_quiet (fail); try go_wp2)
  go_loopg [5] k (fun kq v5 w' => ∃ (x5_1 : Int), v5 = .int .i64 x5_1 ∧ Zs0 (laws_eqIntS.l0 kq l0 l1 x5_1 = some r) ∧ Zs0 (kq ≤ k) ∧ Drawn0 w w')
  case atStart => exact ⟨(0), zq, H', ⟨Nat.le_refl _⟩, by repeat (first | exact Drawn0.refl _ | apply Drawn0.step)⟩
  case round =>
   clear H'
   try clear c1
   try clear c2
   try clear p2
   try clear c3
   try clear c3b0
   try clear c3b1
   try clear c3b2
   obtain ⟨x5_1, rfl, HA, HK1, ⟨m1, rfl⟩⟩ := hrel
   cases gk with
   | zero => exact absurd HA.out (by simp [laws_eqIntS.l0])
   | succ k1 =>
    have H := HA.out
    clear HA
    simp only [laws_eqIntS.l0] at H
    by_cases c4 : x5_1 < (l0.length : Int)
    ·rw [if_pos c4] at H
     have c4b0 : decide (x5_1 < (l0.length : Int)) = true := decide_eq_true c4
     clear c4
     have c5 := ipos H
     rw [if_pos c5] at H
     have c5b0 := decide_eq_true c5
     clear c5
     have c6 := ipos H
     rw [if_pos c6] at H
     have c6b0 := decide_eq_true c6
     clear c6
     by_cases c7 : (rd l0 x5_1) = (rd l1 x5_1)
     ·rw [if_pos c7] at H
      have c7b0 : ((rd l0 x5_1) == (rd l1 x5_1)) = true := beq_iff_eq.mpr c7
      have c7b1 : ((rd l0 x5_1) != (rd l1 x5_1)) = false := bne_eq_false_iff_eq.mpr c7
      clear c7
      have H' := Zs0.mk H
      clear H
      have p101 : 0 ≤ (x5_1 : Int) := zD
      have q101 : x5_1 < (l0.length : Int) := zD
      obtain ⟨ad101, e101, hx101_0⟩ := Kd.at_int HR0.out x5_1 p101 q101
      cases e101
      replace p101 := eq_true p101
      replace q101 := eq_true q101
      have p102 : 0 ≤ (x5_1 : Int) := zD
      have q102 : x5_1 < (l1.length : Int) := zD
      obtain ⟨ad102, e102, hx102_0⟩ := Kd.at_int HR1.out x5_1 p102 q102
      cases e102
      replace p102 := eq_true p102
      replace q102 := eq_true q102
      go_wp2
      repeat (go_quiet (fail); try go_wp2)
      go_roundg k1
      case measure => have := HK1.out; omega
      case rel => exact ⟨(wrap64 (x5_1 + 1)), zq, H', ⟨by have := HK1.out; omega⟩, by repeat (first | exact Drawn0.refl _ | apply Drawn0.step)⟩
     ·rw [if_neg c7] at H
      have c7b0 : ((rd l0 x5_1) == (rd l1 x5_1)) = false := beq_eq_false_iff_ne.mpr c7
      have c7b1 : ((rd l0 x5_1) != (rd l1 x5_1)) = true := bne_iff_ne.mpr c7
      obtain rfl := Option.some.inj H
      have p101 : 0 ≤ (x5_1 : Int) := zD
      have q101 : x5_1 < (l0.length : Int) := zD
      obtain ⟨ad101, e101, hx101_0⟩ := Kd.at_int HR0.out x5_1 p101 q101
      cases e101
      replace p101 := eq_true p101
      replace q101 := eq_true q101
      have p102 : 0 ≤ (x5_1 : Int) := zD
      have q102 : x5_1 < (l1.length : Int) := zD
      obtain ⟨ad102, e102, hx102_0⟩ := Kd.at_int HR1.out x5_1 p102 q102
      cases e102
      replace p102 := eq_true p102
      replace q102 := eq_true q102
      go_wp2
      repeat (go_quiet (fail); try go_wp2)
      go_ret
      exact ⟨by first | rfl | (simp; done) | (simp [*]; done), by repeat (first | exact Drawn0.refl _ | apply Drawn0.step)⟩
    ·rw [if_neg c4] at H
     have c4b0 : decide (x5_1 < (l0.length : Int)) = false := decide_eq_false c4
     clear c4
     obtain rfl := Option.some.inj H
     go_wp2
     repeat (go_quiet (fail); try go_wp2)
     go_ret
     exact ⟨by first | rfl | (simp; done) | (simp [*]; done), by repeat (first | exact Drawn0.refl _ | apply Drawn0.step)⟩
 ·rw [if_neg c3] at H
  have c3b0 : ((l0.length : Int) == (l1.length : Int)) = false := beq_eq_false_iff_ne.mpr c3
  have c3b1 : ((l0.length : Int) != (l1.length : Int)) = true := bne_iff_ne.mpr c3
  have c3b2 : (l0.length == l1.length) = false := by first | simpa using c3 | (simp at c3 ⊢; omega)
  obtain rfl := Option.some.inj H
  go_enter Try.func23, Try.ntmps23
  go_wp2
  repeat (go_quiet (fail); try go_wp2)
  go_ret
  exact ⟨by first | rfl | (simp; done) | (simp [*]; done), by repeat (first | exact Drawn0.refl _ | apply Drawn0.step)⟩

end Go.Proofs.Ytcbpbnkoolpibaa.P
namespace Go.Proofs.Ytcbpbnkoolpibaa.P
open Go.RowKit Go.Proofs.YtcbpbnkoolpibaaW.PrintWords Go.Proofs.YtcbpbnkoolpibaaW.PrintLast Go.Proofs.YtcbpbnkoolpibaaW.PrintMore
attribute [local go_sem] max2_int min2_int max_two min_two max_three min_three max_four min_four   -- for this text's walks alone
set_option linter.unusedVariables false
set_option linter.unusedSimpArgs false

/-! ### laws_eqIntSS: function 16 -/
def laws_eqIntSS.l0 : Nat → List (List Int) → List (List Int) → Int → Option (Bool)
  | 0, _, _, _ => none
  | k + 1, x0, x1, x5 => if x5 < (x0.length : Int) then (if 0 ≤ x5 then (if x5 < (x1.length : Int) then ((laws_eqIntS.f k (rd_L14 x0 x5) (rd_L14 x1 x5)).bind fun t103 => (if t103 = true then (laws_eqIntSS.l0 k x0 x1 (wrap64 (x5 + 1))) else (some false))) else (none)) else (none)) else (some true)
def laws_eqIntSS.f (k : Nat) (l0 : List (List Int)) (l1 : List (List Int)) : Option (Bool) := if (l0.length : Int) = (l1.length : Int) then (laws_eqIntSS.l0 k l0 l1 0) else (some false)
theorem laws_eqIntSS.mono_l : ∀ k, (∀ y0 y1 y2, LeO (laws_eqIntSS.l0 k y0 y1 y2) (laws_eqIntSS.l0 (k + 1) y0 y1 y2))
  | 0 => fun _ _ _ r h => by simp [laws_eqIntSS.l0] at h
  | k + 1 => by
    have ih0 := laws_eqIntSS.mono_l k
    · intro y0 y1 y2
      unfold laws_eqIntSS.l0
      repeat' first
      | (with_reducible exact ih0 _ _ _)
      | (with_reducible exact laws_eqIntS.mono _ _ _)
      | (with_reducible exact LeO.refl _)
      | (with_reducible exact LeO.none _)
      | (with_reducible refine LeO.ite ?_ ?_)
      | (with_reducible refine LeO.bind ?_ (fun _ => ?_))
      | exact ih0 _ _ _
      | exact laws_eqIntS.mono _ _ _
      | exact LeO.none _
      | refine LeO.ite ?_ ?_
      | refine LeO.bind ?_ (fun _ => ?_)
theorem laws_eqIntSS.mono : ∀ a0 a1 k, LeO (laws_eqIntSS.f k a0 a1) (laws_eqIntSS.f (k + 1) a0 a1) := by
  intro a0 a1 k
  have ih0 := laws_eqIntSS.mono_l k
  unfold laws_eqIntSS.f
  repeat' first
      | (with_reducible exact ih0 _ _ _)
      | (with_reducible exact laws_eqIntS.mono _ _ _)
      | (with_reducible exact LeO.refl _)
      | (with_reducible exact LeO.none _)
      | (with_reducible refine LeO.ite ?_ ?_)
      | (with_reducible refine LeO.bind ?_ (fun _ => ?_))
      | exact ih0 _ _ _
      | exact laws_eqIntS.mono _ _ _
      | exact LeO.none _
      | refine LeO.ite ?_ ?_
      | refine LeO.bind ?_ (fun _ => ?_)
set_option maxHeartbeats 8000000 in
set_option maxRecDepth 100000 in
theorem laws_eqIntSS.calls (k : Nat) (A0 : Option Addr) (c0 : Nat) (l0 : List (List Int)) (A1 : Option Addr) (c1 : Nat) (l1 : List (List Int)) (r : Bool) (w : World) (hr0 : Kd.C (Kd.slice 3 (Kd.int .i64)) w A0 l0.length l0) (hc0 : l0.length ≤ c0) (hr1 : Kd.C (Kd.slice 3 (Kd.int .i64)) w A1 l1.length l1) (hc1 : l1.length ≤ c1) (h : laws_eqIntSS.f k l0 l1 = some r) :
  Calls Try.prog 16 #[.slice A0 l0.length c0, .slice A1 l1.length c1] w fun e w' => e = .returned (.bool r) ∧ Drawn0 w w' := by
 have HR0 := Zs0.mk hr0
 have HC0 := Zs0.mk hc0
 clear hr0 hc0
 have HR1 := Zs0.mk hr1
 have HC1 := Zs0.mk hc1
 clear hr1 hc1
 have H : (if (l0.length : Int) = (l1.length : Int) then (laws_eqIntSS.l0 k l0 l1 0) else (some false)) = some r := h
 clear h
 by_cases c3 : (l0.length : Int) = (l1.length : Int)
 ·rw [if_pos c3] at H
  have c3b0 : ((l0.length : Int) == (l1.length : Int)) = true := beq_iff_eq.mpr c3
  have c3b1 : ((l0.length : Int) != (l1.length : Int)) = false := bne_eq_false_iff_eq.mpr c3
  have c3b2 : (l0.length == l1.length) = true := by first | simpa using c3 | (simp at c3 ⊢; omega)
  clear c3
  have H' := Zs0.mk H
  clear H
  go_enter Try.func16, Try.ntmps16
  go_wp2
  repeat (go_quiet (fail); try go_wp2)
  go_loopg [5] k (fun kq v5 w' => ∃ (x5_1 : Int), v5 = .int .i64 x5_1 ∧ Zs0 (laws_eqIntSS.l0 kq l0 l1 x5_1 = some r) ∧ Zs0 (kq ≤ k) ∧ Drawn0 w w')
  case atStart => exact ⟨(0), zq, H', ⟨Nat.le_refl _⟩, by repeat (first | exact Drawn0.refl _ | apply Drawn0.step)⟩
  case round =>
   clear H'
   try clear c1
   try clear p2
   try clear c3
   try clear c3b0
   try clear c3b1
   try clear c3b2
   obtain ⟨x5_1, rfl, HA, HK1, ⟨m1, rfl⟩⟩ := hrel
   cases gk with
   | zero => exact absurd HA.out (by simp [laws_eqIntSS.l0])
   | succ k1 =>
    have H := HA.out
    clear HA
    simp only [laws_eqIntSS.l0] at H
    by_cases c4 : x5_1 < (l0.length : Int)
    ·rw [if_pos c4] at H
     have c4b0 : decide (x5_1 < (l0.length : Int)) = true := decide_eq_true c4
     clear c4
     have c5 := ipos H
     rw [if_pos c5] at H
     have c5b0 := decide_eq_true c5
     clear c5
     have c6 := ipos H
     rw [if_pos c6] at H
     have c6b0 := decide_eq_true c6
     clear c6
     replace H := Option.bind_eq_some_iff.mp H
     obtain ⟨t103, A70, H⟩ := H
     replace H : (if t103 = true then (laws_eqIntSS.l0 k1 l0 l1 (wrap64 (x5_1 + 1))) else (some false)) = some r := H
     have A7 := Zs0.mk A70
     clear A70
     by_cases c8 : t103 = true
     ·subst c8
      have H1 : (laws_eqIntSS.l0 k1 l0 l1 (wrap64 (x5_1 + 1))) = some r := by rw [if_pos rfl] at H; exact H
      clear H
      have H := H1
      clear H1
      have H' := Zs0.mk H
      clear H
      have p101 : 0 ≤ (x5_1 : Int) := zD
      have q101 : x5_1 < (l0.length : Int) := zD
      obtain ⟨ad101, A101_0, c101_0, e101, hx101_0, hl101_0, hi101_0⟩ := at_L14 HR0.out x5_1 p101 q101
      cases e101
      have HR101_0 := Zs0.mk hi101_0
      have HC101_0 := Zs0.mk hl101_0
      clear hi101_0 hl101_0
      replace p101 := eq_true p101
      replace q101 := eq_true q101
      have p102 : 0 ≤ (x5_1 : Int) := zD
      have q102 : x5_1 < (l1.length : Int) := zD
      obtain ⟨ad102, A102_0, c102_0, e102, hx102_0, hl102_0, hi102_0⟩ := at_L14 HR1.out x5_1 p102 q102
      cases e102
      have HR102_0 := Zs0.mk hi102_0
      have HC102_0 := Zs0.mk hl102_0
      clear hi102_0 hl102_0
      replace p102 := eq_true p102
      replace q102 := eq_true q102
      go_wp2_with (first | (go_at_call 23; (with_reducible refine (laws_eqIntS.calls k1 _ _ (rd_L14 l0 x5_1) _ _ (rd_L14 l1 x5_1) true _ ?side1 ?side2 ?side3 ?side4 A7.out).mono ?_); (case side1 => repeat (first | exact HR101_0.out | (with_reducible refine Kd.cA1 ?_ _) | (with_reducible refine Kd.cD1 ?_ _) | (with_reducible refine Kd.cD2 ?_))); (case side2 => exact HC101_0.out); (case side3 => repeat (first | exact HR102_0.out | (with_reducible refine Kd.cA1 ?_ _) | (with_reducible refine Kd.cD1 ?_ _) | (with_reducible refine Kd.cD2 ?_))); (case side4 => exact HC102_0.out); rintro e w' ⟨rfl, ⟨nd, rfl⟩⟩; (try first | exact ⟨rfl, _, World.drewN_drewN _ _ _⟩ | exact ⟨rfl, _, Eq.trans (World.drewN_drewN _ _ _) (congrArg (World.drewN _) (Nat.add_assoc _ _ _))⟩)))
      repeat (go_quiet (first | (go_at_call 23; (with_reducible refine (laws_eqIntS.calls k1 _ _ (rd_L14 l0 x5_1) _ _ (rd_L14 l1 x5_1) true _ ?side1 ?side2 ?side3 ?side4 A7.out).mono ?_); (case side1 => repeat (first | exact HR101_0.out | (with_reducible refine Kd.cA1 ?_ _) | (with_reducible refine Kd.cD1 ?_ _) | (with_reducible refine Kd.cD2 ?_))); (case side2 => exact HC101_0.out); (case side3 => repeat (first | exact HR102_0.out | (with_reducible refine Kd.cA1 ?_ _) | (with_reducible refine Kd.cD1 ?_ _) | (with_reducible refine Kd.cD2 ?_))); (case side4 => exact HC102_0.out); rintro e w' ⟨rfl, ⟨nd, rfl⟩⟩; (try first | exact ⟨rfl, _, World.drewN_drewN _ _ _⟩ | exact ⟨rfl, _, Eq.trans (World.drewN_drewN _ _ _) (congrArg (World.drewN _) (Nat.add_assoc _ _ _))⟩))); try go_wp2_with (first | (go_at_call 23; (with_reducible refine (laws_eqIntS.calls k1 _ _ (rd_L14 l0 x5_1) _ _ (rd_L14 l1 x5_1) true _ ?side1 ?side2 ?side3 ?side4 A7.out).mono ?_); (case side1 => repeat (first | exact HR101_0.out | (with_reducible refine Kd.cA1 ?_ _) | (with_reducible refine Kd.cD1 ?_ _) | (with_reducible refine Kd.cD2 ?_))); (case side2 => exact HC101_0.out); (case side3 => repeat (first | exact HR102_0.out | (with_reducible refine Kd.cA1 ?_ _) | (with_reducible refine Kd.cD1 ?_ _) | (with_reducible refine Kd.cD2 ?_))); (case side4 => exact HC102_0.out); rintro e w' ⟨rfl, ⟨nd, rfl⟩⟩; (try first | exact ⟨rfl, _, World.drewN_drewN _ _ _⟩ | exact ⟨rfl, _, Eq.trans (World.drewN_drewN _ _ _) (congrArg (World.drewN _) (Nat.add_assoc _ _ _))⟩))))
      go_roundg k1
      case measure => have := HK1.out; omega
      case rel => exact ⟨(wrap64 (x5_1 + 1)), zq, H', ⟨by have := HK1.out; omega⟩, by repeat (first | exact Drawn0.refl _ | apply Drawn0.step)⟩
     ·replace c8 := Bool.eq_false_iff.mpr c8
      subst c8
      have H1 : (some false) = some r := by rw [if_neg (show ¬ (false = true) by decide)] at H; exact H
      clear H
      have H := H1
      clear H1
      obtain rfl := Option.some.inj H
      have p101 : 0 ≤ (x5_1 : Int) := zD
      have q101 : x5_1 < (l0.length : Int) := zD
      obtain ⟨ad101, A101_0, c101_0, e101, hx101_0, hl101_0, hi101_0⟩ := at_L14 HR0.out x5_1 p101 q101
      cases e101
      have HR101_0 := Zs0.mk hi101_0
      have HC101_0 := Zs0.mk hl101_0
      clear hi101_0 hl101_0
      replace p101 := eq_true p101
      replace q101 := eq_true q101
      have p102 : 0 ≤ (x5_1 : Int) := zD
      have q102 : x5_1 < (l1.length : Int) := zD
      obtain ⟨ad102, A102_0, c102_0, e102, hx102_0, hl102_0, hi102_0⟩ := at_L14 HR1.out x5_1 p102 q102
      cases e102
      have HR102_0 := Zs0.mk hi102_0
      have HC102_0 := Zs0.mk hl102_0
      clear hi102_0 hl102_0
      replace p102 := eq_true p102
      replace q102 := eq_true q102
      go_wp2_with (first | (go_at_call 23; (with_reducible refine (laws_eqIntS.calls k1 _ _ (rd_L14 l0 x5_1) _ _ (rd_L14 l1 x5_1) false _ ?side1 ?side2 ?side3 ?side4 A7.out).mono ?_); (case side1 => repeat (first | exact HR101_0.out | (with_reducible refine Kd.cA1 ?_ _) | (with_reducible refine Kd.cD1 ?_ _) | (with_reducible refine Kd.cD2 ?_))); (case side2 => exact HC101_0.out); (case side3 => repeat (first | exact HR102_0.out | (with_reducible refine Kd.cA1 ?_ _) | (with_reducible refine Kd.cD1 ?_ _) | (with_reducible refine Kd.cD2 ?_))); (case side4 => exact HC102_0.out); rintro e w' ⟨rfl, ⟨nd, rfl⟩⟩; (try first | exact ⟨rfl, _, World.drewN_drewN _ _ _⟩ | exact ⟨rfl, _, Eq.trans (World.drewN_drewN _ _ _) (congrArg (World.drewN _) (Nat.add_assoc _ _ _))⟩)))
      repeat (go_quiet (first | (go_at_call 23; (with_reducible refine (laws_eqIntS.calls k1 _ _ (rd_L14 l0 x5_1) _ _ (rd_L14 l1 x5_1) false _ ?side1 ?side2 ?side3 ?side4 A7.out).mono ?_); (case side1 => repeat (first | exact HR101_0.out | (with_reducible refine Kd.cA1 ?_ _) | (with_reducible refine Kd.cD1 ?_ _) | (with_reducible refine Kd.cD2 ?_))); (case side2 => exact HC101_0.out); (case side3 => repeat (first | exact HR102_0.out | (with_reducible refine Kd.cA1 ?_ _) | (with_reducible refine Kd.cD1 ?_ _) | (with_reducible refine Kd.cD2 ?_))); (case side4 => exact HC102_0.out); rintro e w' ⟨rfl, ⟨nd, rfl⟩⟩; (try first | exact ⟨rfl, _, World.drewN_drewN _ _ _⟩ | exact ⟨rfl, _, Eq.trans (World.drewN_drewN _ _ _) (congrArg (World.drewN _) (Nat.add_assoc _ _ _))⟩))); try go_wp2_with (first | (go_at_call 23; (with_reducible refine (laws_eqIntS.calls k1 _ _ (rd_L14 l0 x5_1) _ _ (rd_L14 l1 x5_1) false _ ?side1 ?side2 ?side3 ?side4 A7.out).mono ?_); (case side1 => repeat (first | exact HR101_0.out | (with_reducible refine Kd.cA1 ?_ _) | (with_reducible refine Kd.cD1 ?_ _) | (with_reducible refine Kd.cD2 ?_))); (case side2 => exact HC101_0.out); (case side3 => repeat (first | exact HR102_0.out | (with_reducible refine Kd.cA1 ?_ _) | (with_reducible refine Kd.cD1 ?_ _) | (with_reducible refine Kd.cD2 ?_))); (case side4 => exact HC102_0.out); rintro e w' ⟨rfl, ⟨nd, rfl⟩⟩; (try first | exact ⟨rfl, _, World.drewN_drewN _ _ _⟩ | exact ⟨rfl, _, Eq.trans (World.drewN_drewN _ _ _) (congrArg (World.drewN _) (Nat.add_assoc _ _ _))⟩))))
      go_ret
      exact ⟨by first | rfl | (simp; done) | (simp [*]; done), by repeat (first | exact Drawn0.refl _ | apply Drawn0.step)⟩
    ·rw [if_neg c4] at H
     have c4b0 : decide (x5_1 < (l0.length : Int)) = false := decide_eq_false c4
     clear c4
     obtain rfl := Option.some.inj H
     go_wp2
     repeat (go_quiet (fail); try go_wp2)
     go_ret
     exact ⟨by first | rfl | (simp; done) | (simp [*]; done), by repeat (first | exact Drawn0.refl _ | apply Drawn0.step)⟩
 ·rw [if_neg c3] at H
  have c3b0 : ((l0.length : Int) == (l1.length : Int)) = false := beq_eq_false_iff_ne.mpr c3
  have c3b1 : ((l0.length : Int) != (l1.length : Int)) = true := bne_iff_ne.mpr c3
  have c3b2 : (l0.length == l1.length) = false := by first | simpa using c3 | (simp at c3 ⊢; omega)
  obtain rfl := Option.some.inj H
  go_enter Try.func16, Try.ntmps16
  go_wp2
  repeat (go_quiet (fail); try go_wp2)
  go_ret
  exact ⟨by first | rfl | (simp; done) | (simp [*]; done), by repeat (first | exact Drawn0.refl _ | apply Drawn0.step)⟩

end Go.Proofs.Ytcbpbnkoolpibaa.P
namespace Go.Proofs.Ytcbpbnkoolpibaa.Gr
open Go.RowKit Go.Proofs.Ytcbpbnkoolpibaa.P Go.Proofs.YtcbpbnkoolpibaaW.PrintWords Go.Proofs.YtcbpbnkoolpibaaW.PrintLast Go.Proofs.YtcbpbnkoolpibaaW.PrintMore Go.Proofs.Ytcbpbnkoolpibaa.Aux
set_option linter.unusedVariables false
set_option linter.unusedSimpArgs false
abbrev dI : Kd (List Int) := Kd.slice 3 (Kd.int .i64)
/-- The number behind the marks of rows, and the rows. -/
def markSS (k : Nat) : List (List Int) → Int → Option (Int × List (List Int))
  | [], a => some (a, [])
  | x :: xs, a => (laws_markIntS.f k x a).bind fun p => (markSS k xs p.1).bind fun q => some (q.1, p.2 :: q.2)
def InvM (k : Nat) (n : Nat) (r : Int) (xs' : List (List Int)) (P : Nat → Prop) (g c : Nat) (w0 w : World) (x1 x5 : Int) (gg : Nat) (wr : World) : Prop :=
  ∃ (j : Nat) (ys rs : List (List Int)), (j : Int) = x5 ∧ j ≤ n ∧ n - j ≤ gg ∧ ys.length = n ∧ markSS k (ys.drop j) x1 = some (r, rs) ∧ xs' = ys.take j ++ rs ∧ Kd.S dI 22 wr w0.heap.size P (.slice (some ⟨g, 0, none⟩) n c) ys ∧ Below w0.heap.size w0 wr ∧ Kept w wr P
set_option maxRecDepth 100000 in
set_option maxHeartbeats 4000000 in
theorem markSS_some (k : Nat) (n : Nat) (a r : Int) (xs' : List (List Int)) (P : Nat → Prop) (g c : Nat) (w0 w : World) (hmax : n ≤ 9223372036854775807) (h : InvM k n r xs' P g c w0 w a 0 n w) :
    Calls Try.prog 17 #[.slice (some ⟨g, 0, none⟩) n c, .int .i64 a] w fun e w' => e = .returned (.int .i64 r) ∧ Kd.S dI 22 w' w0.heap.size P (.slice (some ⟨g, 0, none⟩) n c) xs' ∧ Below w0.heap.size w0 w' ∧ Kept w w' P := by
  have HH := Zs0.mk h
  have HM := Zs0.mk hmax
  clear h hmax
  go_enter Try.func17, Try.ntmps17
  go_wp2
  go_loopg [1, 5] n (fun gg s1 s5 wr => ∃ x1 x5 : Int, s1 = .int .i64 x1 ∧ s5 = .int .i64 x5 ∧ Zs0 (InvM k n r xs' P g c w0 w x1 x5 gg wr))
  case atStart => exact ⟨a, 0, rfl, rfl, HH⟩
  case round =>
    obtain ⟨x1, x5, rfl, rfl, HI⟩ := hrel
    by_cases hlt : x5 < (n : Int)
    · have c4b0 : decide (x5 < (n : Int)) = true := decide_eq_true hlt
      have p101 : 0 ≤ x5 := by obtain ⟨kk, _, _, h1, _⟩ := HI.out; omega
      obtain ⟨j, ys, rs, hjx, hj1, hj2, hyl, hm, hxs, hS, hB, hK⟩ := HI.out
      have hjl : j < ys.length := by omega
      have hjn : (j : Int) < (n : Int) := by omega
      obtain ⟨oki, cs, hcl, hMM, hcc, hfr, hoki, hH⟩ := Kd.S_elem hS [] (j : Int) (by omega) hjn
      have hgd : ys.getD (j : Int).toNat [] = ys[j] := by rw [Int.toNat_natCast, List.getD_eq_getElem?_getD, List.getElem?_eq_getElem hjl]; rfl
      obtain ⟨yj, hyj⟩ : ∃ y, y = ys[j] := ⟨_, rfl⟩
      rw [hgd, ← hyj] at hMM
      obtain ⟨v0, rfl, hR⟩ := hMM
      obtain ⟨Ac, cc, rfl⟩ := Kd.R_slice hR
      rw [List.drop_eq_getElem_cons hjl, ← hyj] at hm
      obtain ⟨⟨r1, r2⟩, hmi, hm2⟩ := Option.bind_eq_some_iff.mp hm
      obtain ⟨⟨q1, q2⟩, hm3, hm4⟩ := Option.bind_eq_some_iff.mp hm2
      have hm5 : q1 = r ∧ r2 :: q2 = rs := by
        have := Option.some.inj hm4
        exact ⟨congrArg Prod.fst this, congrArg Prod.snd this⟩
      obtain ⟨rfl, rfl⟩ := hm5
      have c0 := hcc 0 _ rfl
      rw [Nat.add_zero, show dI.sz = 1 from rfl, Nat.mul_one, show (j : Int).toNat = x5.toNat by omega] at c0
      have hcall := Zs0.mk (laws_markIntS.calls k oki (.slice Ac yj.length cc) yj x1 r1 r2 w0 wr hB hR hmi)
      have HS2 := Zs0.mk (fun (w1 : World) (hk1 : Kept wr w1 oki) (hr1 : Kd.R (Kd.int .i64) 3 w1 w0.heap.size (fun k_ => oki k_ ∨ wr.heap.size ≤ k_) (.slice Ac yj.length cc) r2) =>
        (Kd.S_seg0 (Kd.H_kept hH hk1 (fun q _ hn hs => hn hs)) (i := (j : Int)) (by omega) hjn (seg := []) (j := 0) (by show 0 + 0 ≤ 1; omega) (x' := r2) (okp := fun q => some q = (Value.slice Ac yj.length cc).ownBlock)
          (Kd.M_row (Kd.R_tight rfl hr1)) (fun q hq => hR.1 q hq.symm)).1)
      have HJX := Zs0.mk hjx
      have HJL := Zs0.mk hjl
      have HJ2 := Zs0.mk hj2
      have HYL := Zs0.mk hyl
      have HM3 := Zs0.mk hm3
      have HXS := Zs0.mk hxs
      have HK := Zs0.mk hK
      have HOKI := Zs0.mk hoki
      clear hcc hH hS hB hR hmi hm hm2 hm4 hfr hgd hcl hoki hjx hjn hj1 hj2 hyl hm3 hxs hK hjl hyj
      replace p101 := eq_true p101
      replace hlt := eq_true hlt
      go_wp2_with (go_at_call 24; refine hcall.out.mono ?_; rintro e w1 ⟨rfl, hr1, hb1, hk1⟩; have HSS := Zs0.mk (HS2.out w1 hk1 hr1); have HB1 := Zs0.mk hb1; have HK1 := Zs0.mk hk1; clear hb1 hk1 hr1)
      go_roundg (gk - 1)
      case measure => have h1 := HJ2.out; have h2 := HJL.out; have h3 := HYL.out; omega
      case rel =>
        refine ⟨_, _, rfl, rfl, ⟨?_⟩⟩
        have h1 := HJ2.out
        have h2 := HJL.out
        have h3 := HM.out
        have h4 := HYL.out
        have h5 := HJX.out
        refine ⟨j + 1, ys.set j r2, q2, ?_, by omega, by omega, by rw [List.length_set]; exact h4, ?_, ?_, ?_, HB1.out, HK.out.then_ HK1.out fun q hq => .inl (HOKI.out q hq).1⟩
        · rw [wrap_ok (by omega) (by omega)]
          omega
        · rw [List.drop_set_of_lt (by omega)]
          exact HM3.out
        · rw [List.take_set, List.take_succ_eq_append_getElem h2]
          have : ((ys.take j ++ [ys[j]]).set j r2) = ys.take j ++ [r2] := by
            rw [List.set_append_right _ _ (by rw [List.length_take]; omega)]
            rw [List.length_take, Nat.min_eq_left (by omega), Nat.sub_self]
            rfl
          rw [this, List.append_assoc, List.singleton_append]
          exact HXS.out
        · have h6 := HSS.out
          rw [Int.toNat_natCast] at h6
          exact h6
    · have c4b0 : decide (x5 < (n : Int)) = false := decide_eq_false hlt
      have HL := Zs0.mk hlt
      clear hlt
      go_wp2
      go_ret
      obtain ⟨j, ys, rs, hjx, hj1, hj2, hyl, hm, hxs, hS, hB, hK⟩ := HI.out
      have h4 := HL.out
      rw [List.drop_eq_nil_of_le (by omega)] at hm
      have hm5 : x1 = r ∧ [] = rs := by
        have := Option.some.inj hm
        exact ⟨congrArg Prod.fst this, congrArg Prod.snd this⟩
      obtain ⟨rfl, rfl⟩ := hm5
      rw [List.append_nil, List.take_of_length_le (by omega)] at hxs
      subst hxs
      exact ⟨rfl, hS, hB, hK⟩
set_option maxRecDepth 100000 in
set_option maxHeartbeats 4000000 in
theorem markSS_nil (a : Int) (w0 w : World) (P : Nat → Prop) (A : Option Addr) (c : Nat) (hB : Below w0.heap.size w0 w) :
    Calls Try.prog 17 #[.slice A 0 c, .int .i64 a] w fun e w' => e = .returned (.int .i64 a) ∧ Below w0.heap.size w0 w' ∧ Kept w w' P := by
  have HB := Zs0.mk hB
  clear hB
  go_enter Try.func17, Try.ntmps17
  go_wp2
  go_loopg [1, 5] 1 (fun gg s1 s5 wr => s1 = .int .i64 a ∧ s5 = .int .i64 0 ∧ Zs0 (wr = w))
  case atStart => exact ⟨rfl, rfl, ⟨rfl⟩⟩
  case round =>
    obtain ⟨rfl, rfl, HW⟩ := hrel
    go_wp2
    go_ret
    obtain rfl := HW.out
    exact ⟨rfl, HB.out, Kept.refl _ _⟩
theorem markSS_calls (k : Nat) (P : Nat → Prop) (v : Value) (xs xs' : List (List Int)) (a r : Int) (w0 w : World) (hB : Below w0.heap.size w0 w) (ho : Kd.S dI 22 w w0.heap.size P v xs) (h : markSS k xs a = some (r, xs')) :
    Calls Try.prog 17 #[v, .int .i64 a] w fun e w' => e = .returned (.int .i64 r) ∧ Kd.S dI 22 w' w0.heap.size P v xs' ∧ Below w0.heap.size w0 w' ∧ Kept w w' P := by
  by_cases hne : 0 < xs.length
  · obtain ⟨g, c, rfl, _⟩ := Kd.R_form (Kd.S_R ho) hne
    exact markSS_some k xs.length a r xs' P g c w0 w (Kd.C_max (Kd.S_reads' ho).2.2) ⟨0, xs, xs', rfl, Nat.zero_le _, by omega, rfl, by rw [List.drop_zero]; exact h, by rw [List.take_zero, List.nil_append], ho, hB, Kept.refl _ _⟩
  · have hx : xs = [] := List.length_eq_zero_iff.1 (by omega)
    subst hx
    have h5 : a = r ∧ [] = xs' := by
      have := Option.some.inj h
      exact ⟨congrArg Prod.fst this, congrArg Prod.snd this⟩
    obtain ⟨rfl, rfl⟩ := h5
    obtain ⟨A, c, rfl⟩ := Kd.S_slice ho
    refine (markSS_nil a w0 w (fun _ => False) A c hB).mono ?_
    rintro e w' ⟨rfl, hb, hk⟩
    exact ⟨rfl, Kd.S_kept ho hk (fun _ _ h => h), hb, hk.mono fun _ h => h.elim⟩
/-- Rows that are marked are held. -/
theorem markSS_ev : ∀ (xs : List (List Int)) (a : Int), 0 ≤ a → xs.length ≤ 4294967296 → (∀ x ∈ xs, x.length ≤ 4294967296) → a + (xs.map List.length).sum ≤ 1099511627776 →
    ∃ r xs', Ev (fun k => markSS k xs a) (r, xs') ∧ 0 ≤ r ∧ xs'.length = xs.length ∧ ∀ pre : List (List Int), pre.length + xs.length ≤ 4294967296 → Ev (fun k => laws_heldIntSS.l0 k (pre ++ xs') a (pre.length : Int)) r := by
  intro xs
  induction xs with
  | nil =>
    intro a h0 _ _ _
    refine ⟨a, [], Ev.now (a, []), h0, rfl, fun pre hp => ?_⟩
    exact Ev.step (f := fun _ => some a) (fun k => by rw [laws_heldIntSS.l0, if_neg (by simp)]) (Ev.now _)
  | cons x xs ih =>
    intro a h0 hl hx h1
    simp only [List.map_cons, List.sum_cons, List.length_cons] at h1 hl
    have hx0 := hx x (List.mem_cons_self ..)
    obtain ⟨r, xs', g1, g2, g3, g4⟩ := ih (a + (x.length : Int)) (by omega) (by omega) (fun y hy => hx y (List.mem_cons_of_mem _ hy)) (by omega)
    have mk : Ev (fun k => laws_markIntS.f k x a) (a + (x.length : Int), seqFrom a x.length) := markInts_ev laws_markIntS.f laws_markIntS.l0 (fun _ _ _ => rfl) (fun _ _ _ _ => by rw [laws_markIntS.l0]) x a h0 (by omega)
    have hd : Ev (fun k => laws_heldIntS.f k (seqFrom a x.length) a) (a + (x.length : Int)) := heldInts_ev laws_heldIntS.f laws_heldIntS.l0 (fun _ _ _ => rfl) (fun _ _ _ _ => by rw [laws_heldIntS.l0]) a x.length h0 (by omega)
    refine ⟨r, seqFrom a x.length :: xs', Ev.congr (fun k => by rw [markSS]) (Ev.bind mk (Ev.bind (f := fun _ q => some (q.1, seqFrom a x.length :: q.2)) g1 (Ev.now _))), g2, by rw [List.length_cons, List.length_cons, g3], fun pre hpre => ?_⟩
    rw [List.length_cons] at hpre
    have g5 := g4 (pre ++ [seqFrom a x.length]) (by rw [List.length_append, List.length_singleton]; omega)
    rw [List.append_assoc, List.length_append, List.length_singleton] at g5
    have hlt : pre.length < (pre ++ seqFrom a x.length :: xs').length := by rw [List.length_append, List.length_cons]; omega
    have hp1 : (pre.length : Int) < ((pre ++ seqFrom a x.length :: xs').length : Int) := by omega
    have hp2 : 0 ≤ (pre.length : Int) := by omega
    have hp3 : ¬ (a + (x.length : Int)) < 0 := by omega
    have hrd : rd_L14 (pre ++ seqFrom a x.length :: xs') (pre.length : Int) = seqFrom a x.length := by
      unfold rd_L14
      rw [Int.toNat_natCast, List.getD_eq_getElem?_getD, List.getElem?_append_right (Nat.le_refl _), Nat.sub_self]
      rfl
    have e8 : wrap64 ((pre.length : Int) + 1) = ((pre.length + 1 : Nat) : Int) := by rw [wrap_ok (by omega) (by omega)]; omega
    refine Ev.step (fun k => by rw [laws_heldIntSS.l0, if_pos hp1, if_pos hp2, hrd, e8]) ?_
    exact Ev.bind hd (Ev.ite_neg (f := fun _ => some (-1)) hp3 g5)
/-- Rows of rows are alike to themselves. -/
theorem eqSS_l0 (xs : List (List Int)) (hl : xs.length ≤ 4294967296) (hx : ∀ x ∈ xs, x.length ≤ 4294967296) (d : Nat) : ∀ i : Nat, i + d = xs.length → Ev (fun k => laws_eqIntSS.l0 k xs xs (i : Int)) true := by
  induction d with
  | zero =>
    intro i hi
    exact Ev.step (f := fun _ => some true) (fun k => by rw [laws_eqIntSS.l0, if_neg (by omega)]) (Ev.now _)
  | succ d ih =>
    intro i hi
    have hlt : i < xs.length := by omega
    have e8 : wrap64 ((i : Int) + 1) = ((i + 1 : Nat) : Int) := by rw [wrap_ok (by omega) (by omega)]; omega
    have hrd : rd_L14 xs (i : Int) = xs[i] := by
      unfold rd_L14
      rw [Int.toNat_natCast, List.getD_eq_getElem?_getD, List.getElem?_eq_getElem hlt]
      rfl
    have heq : Ev (fun k => laws_eqIntS.f k xs[i] xs[i]) (decide (xs[i] = xs[i])) := eqInts_ev laws_eqIntS.f laws_eqIntS.l0 (fun _ _ _ => rfl) (fun _ _ _ _ => rfl) xs[i] xs[i] (by have := hx xs[i] (List.getElem_mem hlt); omega)
    exact Ev.step (fun k => by rw [laws_eqIntSS.l0, if_pos (by omega), if_pos (by omega), if_pos (by omega), hrd, e8]) (Ev.bind heq (Ev.ite_pos (g := fun _ => some false) (decide_eq_true rfl) (ih (i + 1) (by omega))))
theorem eqSS_ev (xs : List (List Int)) (hl : xs.length ≤ 4294967296) (hx : ∀ x ∈ xs, x.length ≤ 4294967296) : Ev (fun k => laws_eqIntSS.f k xs xs) true :=
  Ev.congr (fun k => by rw [laws_eqIntSS.f, if_pos rfl]; rfl) (eqSS_l0 xs hl hx xs.length 0 (by omega))
end Go.Proofs.Ytcbpbnkoolpibaa.Gr
namespace Go.Proofs.Ytcbpbnkoolpibaa.P
open Go.RowKit Go.Proofs.YtcbpbnkoolpibaaW.PrintWords Go.Proofs.YtcbpbnkoolpibaaW.PrintLast Go.Proofs.YtcbpbnkoolpibaaW.PrintMore
attribute [local go_sem] max2_int min2_int max_two min_two max_three min_three max_four min_four   -- for this text's walks alone
set_option linter.unusedVariables false
set_option linter.unusedSimpArgs false

/-! ### laws_szIntS: function 26 -/
def laws_szIntS.f (l0 : List Int) (a1 : Int) : Option (Int) := if (wrap64 (a1 - (l0.length : Int))) < 0 then (some (-1)) else (some (wrap64 (a1 - (l0.length : Int))))
set_option maxHeartbeats 8000000 in
set_option maxRecDepth 100000 in
theorem laws_szIntS.calls (A0 : Option Addr) (c0 : Nat) (l0 : List Int) (a1 : Int) (r : Int) (w : World) (hr0 : Kd.C (Kd.int .i64) w A0 l0.length l0) (hc0 : l0.length ≤ c0) (h : laws_szIntS.f l0 a1 = some r) :
  Calls Try.prog 26 #[.slice A0 l0.length c0, .int .i64 a1] w fun e w' => e = .returned (.int .i64 r) ∧ Drawn0 w w' := by
 have HR0 := Zs0.mk hr0
 have HC0 := Zs0.mk hc0
 clear hr0 hc0
 have H : (if (wrap64 (a1 - (l0.length : Int))) < 0 then (some (-1)) else (some (wrap64 (a1 - (l0.length : Int))))) = some r := h
 clear h
 by_cases c3 : (wrap64 (a1 - (l0.length : Int))) < 0
 ·rw [if_pos c3] at H
  have c3b0 : decide ((wrap64 (a1 - (l0.length : Int))) < 0) = true := decide_eq_true c3
  clear c3
  obtain rfl := Option.some.inj H
  go_enter Try.func26, Try.ntmps26
  go_wp2
  go_ret
  exact ⟨by first | rfl | (simp; done) | (simp [*]; done), by repeat (first | exact Drawn0.refl _ | apply Drawn0.step)⟩
 ·rw [if_neg c3] at H
  have c3b0 : decide ((wrap64 (a1 - (l0.length : Int))) < 0) = false := decide_eq_false c3
  clear c3
  obtain rfl := Option.some.inj H
  go_enter Try.func26, Try.ntmps26
  go_wp2
  go_ret
  exact ⟨by first | rfl | (simp; done) | (simp [*]; done), by repeat (first | exact Drawn0.refl _ | apply Drawn0.step)⟩

end Go.Proofs.Ytcbpbnkoolpibaa.P
namespace Go.Proofs.Ytcbpbnkoolpibaa.P
open Go.RowKit Go.Proofs.YtcbpbnkoolpibaaW.PrintWords Go.Proofs.YtcbpbnkoolpibaaW.PrintLast Go.Proofs.YtcbpbnkoolpibaaW.PrintMore
attribute [local go_sem] max2_int min2_int max_two min_two max_three min_three max_four min_four   -- for this text's walks alone
set_option linter.unusedVariables false
set_option linter.unusedSimpArgs false

/-! ### laws_szInstr: function 81 -/
def laws_szInstr.f (a0_0 : Int) (a0_1 : Int) (a0_2 : Int) (a0_3 : Int) (a0_4 : Int) (a0_5 : Int) (a0_6 : ByteArray) (a1 : Int) : Option (Int) := if (wrap64 (a1 - (a0_6.size : Int))) < 0 then (some (-1)) else (some (wrap64 (a1 - (a0_6.size : Int))))
set_option maxHeartbeats 8000000 in
set_option maxRecDepth 100000 in
theorem laws_szInstr.calls (a0_0 : Int) (a0_1 : Int) (a0_2 : Int) (a0_3 : Int) (a0_4 : Int) (a0_5 : Int) (a0_6 : ByteArray) (a1 : Int) (r : Int) (w : World) (h : laws_szInstr.f a0_0 a0_1 a0_2 a0_3 a0_4 a0_5 a0_6 a1 = some r) :
  Calls Try.prog 81 #[.agg #[.int .i64 a0_0, .int .i64 a0_1, .int .i64 a0_2, .int .i64 a0_3, .int .i64 a0_4, .int .i64 a0_5, .string a0_6], .int .i64 a1] w fun e w' => e = .returned (.int .i64 r) ∧ Below w.heap.size w w' := by
 have hu94 := Try.underlying94
 have HB := Zs0.mk (Below.refl w.heap.size w)
 have H : (if (wrap64 (a1 - (a0_6.size : Int))) < 0 then (some (-1)) else (some (wrap64 (a1 - (a0_6.size : Int))))) = some r := h
 clear h
 by_cases c3 : (wrap64 (a1 - (a0_6.size : Int))) < 0
 ·rw [if_pos c3] at H
  have c3b0 : decide ((wrap64 (a1 - (a0_6.size : Int))) < 0) = true := decide_eq_true c3
  clear c3
  obtain rfl := Option.some.inj H
  go_enter Try.func81, Try.ntmps81
  go_wp2_with (first | ((with_reducible refine gtD (N := 2) rfl ?_); refine bxE ?hg (N := 2) ?hd (cs := #[.int .i64 a0_0, .int .i64 a0_1, .int .i64 a0_2, .int .i64 a0_3, .int .i64 a0_4, .int .i64 a0_5, .string a0_6]) (t := 94) ?hr ?_; (case hd => rfl); (case hg => rfl); (case hr => first | (go_simp; done) | (go_simp; rfl)); intro gb101 hg w4 hbox hb; have n0_ := Zs0.mk (blT zB hb); have n1_ := Zs0.mk (hbox); have n2_ := Zs0.mk (zs hg : w.heap.size ≤ gb101); have n3_ := Zs0.mk (zs hg : w.heap.size ≤ gb101); revert n0_ n1_ n2_ n3_; clear HB; intro HB BK101 GW101 GE101; clear hb hbox hg; obtain ⟨hcz5_0, hcz5_1, hcz5_2, hcz5_3, hcz5_4, hcz5_5, hcz5_6, hfz5_0, hfz5_1, hfz5_2, hfz5_3, hfz5_4, hfz5_5, hfz5_6⟩ := bx7 BK101.out))
  go_ret
  exact ⟨zr, zB⟩
 ·rw [if_neg c3] at H
  have c3b0 : decide ((wrap64 (a1 - (a0_6.size : Int))) < 0) = false := decide_eq_false c3
  clear c3
  obtain rfl := Option.some.inj H
  go_enter Try.func81, Try.ntmps81
  go_wp2_with (first | ((with_reducible refine gtD (N := 2) rfl ?_); refine bxE ?hg (N := 2) ?hd (cs := #[.int .i64 a0_0, .int .i64 a0_1, .int .i64 a0_2, .int .i64 a0_3, .int .i64 a0_4, .int .i64 a0_5, .string a0_6]) (t := 94) ?hr ?_; (case hd => rfl); (case hg => rfl); (case hr => first | (go_simp; done) | (go_simp; rfl)); intro gb101 hg w6 hbox hb; have n0_ := Zs0.mk (blT zB hb); have n1_ := Zs0.mk (hbox); have n2_ := Zs0.mk (zs hg : w.heap.size ≤ gb101); have n3_ := Zs0.mk (zs hg : w.heap.size ≤ gb101); revert n0_ n1_ n2_ n3_; clear HB; intro HB BK101 GW101 GE101; clear hb hbox hg; obtain ⟨hcz7_0, hcz7_1, hcz7_2, hcz7_3, hcz7_4, hcz7_5, hcz7_6, hfz7_0, hfz7_1, hfz7_2, hfz7_3, hfz7_4, hfz7_5, hfz7_6⟩ := bx7 BK101.out))
  go_ret
  exact ⟨zr, zB⟩

end Go.Proofs.Ytcbpbnkoolpibaa.P
namespace Go.Proofs.Ytcbpbnkoolpibaa.P
open Go.RowKit Go.Proofs.YtcbpbnkoolpibaaW.PrintWords Go.Proofs.YtcbpbnkoolpibaaW.PrintLast Go.Proofs.YtcbpbnkoolpibaaW.PrintMore
attribute [local go_sem] max2_int min2_int max_two min_two max_three min_three max_four min_four   -- for this text's walks alone
set_option linter.unusedVariables false
set_option linter.unusedSimpArgs false

/-! ### laws_szInstrS: function 68 -/
def laws_szInstrS.l0 : Nat → List (S94) → Int → Int → Option (Int)
  | 0, _, _, _ => none
  | k + 1, x0, x1, x5 => if x5 < (x0.length : Int) then (if 0 ≤ x5 then ((laws_szInstr.f ((rd_T94 x0 x5).f0) ((rd_T94 x0 x5).f1) ((rd_T94 x0 x5).f2) ((rd_T94 x0 x5).f3) ((rd_T94 x0 x5).f4) ((rd_T94 x0 x5).f5) ((rd_T94 x0 x5).f6) x1).bind fun t102 => (if t102 < 0 then (some (-1)) else (laws_szInstrS.l0 k x0 t102 (wrap64 (x5 + 1))))) else (none)) else (some x1)
def laws_szInstrS.f (k : Nat) (l0 : List (S94)) (a1 : Int) : Option (Int) := if (wrap64 (a1 - (l0.length : Int))) < 0 then (some (-1)) else (laws_szInstrS.l0 k l0 (wrap64 (a1 - (l0.length : Int))) 0)
theorem laws_szInstrS.mono_l : ∀ k, (∀ y0 y1 y2, LeO (laws_szInstrS.l0 k y0 y1 y2) (laws_szInstrS.l0 (k + 1) y0 y1 y2))
  | 0 => fun _ _ _ r h => by simp [laws_szInstrS.l0] at h
  | k + 1 => by
    have ih0 := laws_szInstrS.mono_l k
    · intro y0 y1 y2
      unfold laws_szInstrS.l0
      repeat' first
      | (with_reducible exact ih0 _ _ _)
      | (with_reducible exact LeO.refl _)
      | (with_reducible exact LeO.none _)
      | (with_reducible refine LeO.ite ?_ ?_)
      | (with_reducible refine LeO.bind ?_ (fun _ => ?_))
      | exact ih0 _ _ _
      | exact LeO.none _
      | refine LeO.ite ?_ ?_
      | refine LeO.bind ?_ (fun _ => ?_)
theorem laws_szInstrS.mono : ∀ a0 a1 k, LeO (laws_szInstrS.f k a0 a1) (laws_szInstrS.f (k + 1) a0 a1) := by
  intro a0 a1 k
  have ih0 := laws_szInstrS.mono_l k
  unfold laws_szInstrS.f
  repeat' first
      | (with_reducible exact ih0 _ _ _)
      | (with_reducible exact LeO.refl _)
      | (with_reducible exact LeO.none _)
      | (with_reducible refine LeO.ite ?_ ?_)
      | (with_reducible refine LeO.bind ?_ (fun _ => ?_))
      | exact ih0 _ _ _
      | exact LeO.none _
      | refine LeO.ite ?_ ?_
      | refine LeO.bind ?_ (fun _ => ?_)
set_option maxHeartbeats 8000000 in
set_option maxRecDepth 100000 in
theorem laws_szInstrS.calls (k : Nat) (A0 : Option Addr) (c0 : Nat) (l0 : List (S94)) (a1 : Int) (r : Int) (w : World) (hr0 : Kd.C k94 w A0 l0.length l0) (hc0 : l0.length ≤ c0) (h : laws_szInstrS.f k l0 a1 = some r) :
  Calls Try.prog 68 #[.slice A0 l0.length c0, .int .i64 a1] w fun e w' => e = .returned (.int .i64 r) ∧ Below w.heap.size w w' := by
 have hu94 := Try.underlying94
 have HR0 := Zs0.mk hr0
 have HC0 := Zs0.mk hc0
 clear hr0 hc0
 have HB := Zs0.mk (Below.refl w.heap.size w)
 have H : (if (wrap64 (a1 - (l0.length : Int))) < 0 then (some (-1)) else (laws_szInstrS.l0 k l0 (wrap64 (a1 - (l0.length : Int))) 0)) = some r := h
 clear h
 by_cases c3 : (wrap64 (a1 - (l0.length : Int))) < 0
 ·rw [if_pos c3] at H
  have c3b0 : decide ((wrap64 (a1 - (l0.length : Int))) < 0) = true := decide_eq_true c3
  clear c3
  obtain rfl := Option.some.inj H
  go_enter Try.func68, Try.ntmps68
  go_wp2
  go_ret
  exact ⟨zr, zB⟩
 ·rw [if_neg c3] at H
  have c3b0 : decide ((wrap64 (a1 - (l0.length : Int))) < 0) = false := decide_eq_false c3
  clear c3
  have H' := Zs0.mk H
  clear H
  go_enter Try.func68, Try.ntmps68
  go_wp2
  go_loopg [1, 5] k (fun kq v1 v5 w' => ∃ (x1_1 : Int) (x5_1 : Int), v1 = .int .i64 x1_1 ∧ v5 = .int .i64 x5_1 ∧ Zs0 (laws_szInstrS.l0 kq l0 x1_1 x5_1 = some r) ∧ Zs0 (kq ≤ k) ∧ Zs0 (Below w.heap.size w w'))
  case atStart => exact ⟨(wrap64 (a1 - (l0.length : Int))), (0), zq, zq, H', ⟨Nat.le_refl _⟩, ⟨zB⟩⟩
  case round =>
   clear H'
   try clear p2
   try clear c3
   try clear c3b0
   obtain ⟨x1_1, x5_1, rfl, rfl, HA, HK1, HB⟩ := hrel
   cases gk with
   | zero => exact absurd HA.out (by simp [laws_szInstrS.l0])
   | succ k1 =>
    have H := HA.out
    clear HA
    simp only [laws_szInstrS.l0] at H
    by_cases c4 : x5_1 < (l0.length : Int)
    ·rw [if_pos c4] at H
     have c4b0 : decide (x5_1 < (l0.length : Int)) = true := decide_eq_true c4
     clear c4
     have c5 := ipos H
     rw [if_pos c5] at H
     have c5b0 := decide_eq_true c5
     clear c5
     replace H := Option.bind_eq_some_iff.mp H
     obtain ⟨t102, A60, H⟩ := H
     replace H : (if t102 < 0 then (some (-1)) else (laws_szInstrS.l0 k1 l0 t102 (wrap64 (x5_1 + 1)))) = some r := H
     have A6 := Zs0.mk A60
     clear A60
     by_cases c7 : t102 < 0
     ·rw [if_pos c7] at H
      have c7b0 : decide (t102 < 0) = true := decide_eq_true c7
      clear c7
      obtain rfl := Option.some.inj H
      have p101 : 0 ≤ (x5_1 : Int) := zD
      have q101 : x5_1 < (l0.length : Int) := zD
      obtain ⟨ad101, e101, hx101_0, hx101_1, hx101_2, hx101_3, hx101_4, hx101_5, hx101_6⟩ := at_T94 HR0.out x5_1 p101 q101
      cases e101
      replace hx101_0 := zx HB.out hx101_0
      replace hx101_1 := zx HB.out hx101_1
      replace hx101_2 := zx HB.out hx101_2
      replace hx101_3 := zx HB.out hx101_3
      replace hx101_4 := zx HB.out hx101_4
      replace hx101_5 := zx HB.out hx101_5
      replace hx101_6 := zx HB.out hx101_6
      replace p101 := eq_true p101
      replace q101 := eq_true q101
      go_wp2_with (first | ((with_reducible refine gtC (f := 81) rfl ?_); refine goesL_ (some 23) rfl rfl Try.func81 (by kernel_rfl) rfl #[.agg #[.int .i64 ((rd_T94 l0 x5_1).f0), .int .i64 ((rd_T94 l0 x5_1).f1), .int .i64 ((rd_T94 l0 x5_1).f2), .int .i64 ((rd_T94 l0 x5_1).f3), .int .i64 ((rd_T94 l0 x5_1).f4), .int .i64 ((rd_T94 l0 x5_1).f5), .string ((rd_T94 l0 x5_1).f6)], .int .i64 x1_1] rfl zM ?_; (with_reducible refine (laws_szInstr.calls ((rd_T94 l0 x5_1).f0) ((rd_T94 l0 x5_1).f1) ((rd_T94 l0 x5_1).f2) ((rd_T94 l0 x5_1).f3) ((rd_T94 l0 x5_1).f4) ((rd_T94 l0 x5_1).f5) ((rd_T94 l0 x5_1).f6) x1_1 t102 _ A6.out).mono ?_); rintro e w8 ⟨rfl, hb⟩; refine ⟨_, rfl, ?_⟩; have n0_ := Zs0.mk (blT zB hb); revert n0_; clear HB; intro HB; (try clear hb); (try clear hb2); (try clear hk); (try clear hi)))
      go_ret
      exact ⟨zr, zB⟩
     ·rw [if_neg c7] at H
      have c7b0 : decide (t102 < 0) = false := decide_eq_false c7
      clear c7
      have H' := Zs0.mk H
      clear H
      have p101 : 0 ≤ (x5_1 : Int) := zD
      have q101 : x5_1 < (l0.length : Int) := zD
      obtain ⟨ad101, e101, hx101_0, hx101_1, hx101_2, hx101_3, hx101_4, hx101_5, hx101_6⟩ := at_T94 HR0.out x5_1 p101 q101
      cases e101
      replace hx101_0 := zx HB.out hx101_0
      replace hx101_1 := zx HB.out hx101_1
      replace hx101_2 := zx HB.out hx101_2
      replace hx101_3 := zx HB.out hx101_3
      replace hx101_4 := zx HB.out hx101_4
      replace hx101_5 := zx HB.out hx101_5
      replace hx101_6 := zx HB.out hx101_6
      replace p101 := eq_true p101
      replace q101 := eq_true q101
      go_wp2_with (first | ((with_reducible refine gtC (f := 81) rfl ?_); refine goesL_ (some 23) rfl rfl Try.func81 (by kernel_rfl) rfl #[.agg #[.int .i64 ((rd_T94 l0 x5_1).f0), .int .i64 ((rd_T94 l0 x5_1).f1), .int .i64 ((rd_T94 l0 x5_1).f2), .int .i64 ((rd_T94 l0 x5_1).f3), .int .i64 ((rd_T94 l0 x5_1).f4), .int .i64 ((rd_T94 l0 x5_1).f5), .string ((rd_T94 l0 x5_1).f6)], .int .i64 x1_1] rfl zM ?_; (with_reducible refine (laws_szInstr.calls ((rd_T94 l0 x5_1).f0) ((rd_T94 l0 x5_1).f1) ((rd_T94 l0 x5_1).f2) ((rd_T94 l0 x5_1).f3) ((rd_T94 l0 x5_1).f4) ((rd_T94 l0 x5_1).f5) ((rd_T94 l0 x5_1).f6) x1_1 t102 _ A6.out).mono ?_); rintro e w9 ⟨rfl, hb⟩; refine ⟨_, rfl, ?_⟩; have n0_ := Zs0.mk (blT zB hb); revert n0_; clear HB; intro HB; (try clear hb); (try clear hb2); (try clear hk); (try clear hi)))
      go_roundg k1
      case measure => have := HK1.out; omega
      case rel => exact ⟨(t102), (wrap64 (x5_1 + 1)), zq, zq, H', ⟨by have := HK1.out; omega⟩, ⟨zB⟩⟩
    ·rw [if_neg c4] at H
     have c4b0 : decide (x5_1 < (l0.length : Int)) = false := decide_eq_false c4
     clear c4
     obtain rfl := Option.some.inj H
     go_wp2
     go_ret
     exact ⟨zr, zB⟩

end Go.Proofs.Ytcbpbnkoolpibaa.P
namespace Go.Proofs.Ytcbpbnkoolpibaa.P
open Go.RowKit Go.Proofs.YtcbpbnkoolpibaaW.PrintWords Go.Proofs.YtcbpbnkoolpibaaW.PrintLast Go.Proofs.YtcbpbnkoolpibaaW.PrintMore
attribute [local go_sem] max2_int min2_int max_two min_two max_three min_three max_four min_four   -- for this text's walks alone
set_option linter.unusedVariables false
set_option linter.unusedSimpArgs false

/-! ### laws_szBlock: function 49 -/
def laws_szBlock.f (k : Nat) (l0_0 : List (S94)) (a0_1 : Int) (a0_2 : Int) (a0_3 : Int) (a0_4 : Int) (a1 : Int) : Option (Int) := (laws_szInstrS.f k l0_0 a1).bind fun t102 => (if t102 < 0 then (some (-1)) else (some t102))
theorem laws_szBlock.mono : ∀ a0 a1 a2 a3 a4 a5 k, LeO (laws_szBlock.f k a0 a1 a2 a3 a4 a5) (laws_szBlock.f (k + 1) a0 a1 a2 a3 a4 a5) := by
  intro a0 a1 a2 a3 a4 a5 k
  unfold laws_szBlock.f
  repeat' first
      | (with_reducible exact laws_szInstrS.mono _ _ _)
      | (with_reducible exact LeO.refl _)
      | (with_reducible exact LeO.none _)
      | (with_reducible refine LeO.ite ?_ ?_)
      | (with_reducible refine LeO.bind ?_ (fun _ => ?_))
      | exact laws_szInstrS.mono _ _ _
      | exact LeO.none _
      | refine LeO.ite ?_ ?_
      | refine LeO.bind ?_ (fun _ => ?_)
set_option maxHeartbeats 8000000 in
set_option maxRecDepth 100000 in
theorem laws_szBlock.calls (k : Nat) (A0_0 : Option Addr) (c0_0 : Nat) (l0_0 : List (S94)) (a0_1 : Int) (a0_2 : Int) (a0_3 : Int) (a0_4 : Int) (a1 : Int) (r : Int) (w : World) (hr0_0 : Kd.C k94 w A0_0 l0_0.length l0_0) (hc0_0 : l0_0.length ≤ c0_0) (h : laws_szBlock.f k l0_0 a0_1 a0_2 a0_3 a0_4 a1 = some r) :
  Calls Try.prog 49 #[.agg #[.slice A0_0 l0_0.length c0_0, .int .i64 a0_1, .int .i64 a0_2, .int .i64 a0_3, .int .i64 a0_4], .int .i64 a1] w fun e w' => e = .returned (.int .i64 r) ∧ Below w.heap.size w w' := by
 have hu67 := Try.underlying67
 have HR0_0 := Zs0.mk hr0_0
 have HC0_0 := Zs0.mk hc0_0
 clear hr0_0 hc0_0
 have HB := Zs0.mk (Below.refl w.heap.size w)
 have H : ((laws_szInstrS.f k l0_0 a1).bind fun t102 => (if t102 < 0 then (some (-1)) else (some t102))) = some r := h
 clear h
 replace H := Option.bind_eq_some_iff.mp H
 obtain ⟨t102, A30, H⟩ := H
 replace H : (if t102 < 0 then (some (-1)) else (some t102)) = some r := H
 have A3 := Zs0.mk A30
 clear A30
 by_cases c4 : t102 < 0
 ·rw [if_pos c4] at H
  have c4b0 : decide (t102 < 0) = true := decide_eq_true c4
  clear c4
  obtain rfl := Option.some.inj H
  go_enter Try.func49, Try.ntmps49
  go_wp2_with (first | ((with_reducible refine gtD (N := 2) rfl ?_); refine bxE ?hg (N := 2) ?hd (cs := #[.slice A0_0 l0_0.length c0_0, .int .i64 a0_1, .int .i64 a0_2, .int .i64 a0_3, .int .i64 a0_4]) (t := 67) ?hr ?_; (case hd => rfl); (case hg => rfl); (case hr => first | (go_simp; done) | (go_simp; rfl)); intro gb101 hg w5 hbox hb; have n0_ := Zs0.mk (blT zB hb); have n1_ := Zs0.mk (hbox); have n2_ := Zs0.mk (zs hg : w.heap.size ≤ gb101); have n3_ := Zs0.mk (zs hg : w.heap.size ≤ gb101); revert n0_ n1_ n2_ n3_; clear HB; intro HB BK101 GW101 GE101; clear hb hbox hg; obtain ⟨hcz6_0, hcz6_1, hcz6_2, hcz6_3, hcz6_4, hfz6_0, hfz6_1, hfz6_2, hfz6_3, hfz6_4⟩ := bx5 BK101.out) | ((with_reducible refine gtC (f := 68) rfl ?_); refine goesL_ (some 8) rfl rfl Try.func68 (by kernel_rfl) rfl #[.slice A0_0 l0_0.length c0_0, .int .i64 a1] rfl zM ?_; (with_reducible refine (laws_szInstrS.calls k _ _ l0_0 a1 t102 _ ?side1 ?side2 A3.out).mono ?_); (case side1 => exact zC HR0_0.out); (case side2 => exact HC0_0.out); rintro e w7 ⟨rfl, hb⟩; refine ⟨_, rfl, ?_⟩; have n0_ := Zs0.mk (bkB (zG BK101.out) hb); have n1_ := Zs0.mk (blT zB hb); revert n0_ n1_; clear BK101 HB; intro BK101 HB; (try clear hb); (try clear hb2); (try clear hk); (try clear hi)))
  go_ret
  exact ⟨zr, zB⟩
 ·rw [if_neg c4] at H
  have c4b0 : decide (t102 < 0) = false := decide_eq_false c4
  clear c4
  obtain rfl := Option.some.inj H
  go_enter Try.func49, Try.ntmps49
  go_wp2_with (first | ((with_reducible refine gtD (N := 2) rfl ?_); refine bxE ?hg (N := 2) ?hd (cs := #[.slice A0_0 l0_0.length c0_0, .int .i64 a0_1, .int .i64 a0_2, .int .i64 a0_3, .int .i64 a0_4]) (t := 67) ?hr ?_; (case hd => rfl); (case hg => rfl); (case hr => first | (go_simp; done) | (go_simp; rfl)); intro gb101 hg w8 hbox hb; have n0_ := Zs0.mk (blT zB hb); have n1_ := Zs0.mk (hbox); have n2_ := Zs0.mk (zs hg : w.heap.size ≤ gb101); have n3_ := Zs0.mk (zs hg : w.heap.size ≤ gb101); revert n0_ n1_ n2_ n3_; clear HB; intro HB BK101 GW101 GE101; clear hb hbox hg; obtain ⟨hcz9_0, hcz9_1, hcz9_2, hcz9_3, hcz9_4, hfz9_0, hfz9_1, hfz9_2, hfz9_3, hfz9_4⟩ := bx5 BK101.out) | ((with_reducible refine gtC (f := 68) rfl ?_); refine goesL_ (some 8) rfl rfl Try.func68 (by kernel_rfl) rfl #[.slice A0_0 l0_0.length c0_0, .int .i64 a1] rfl zM ?_; (with_reducible refine (laws_szInstrS.calls k _ _ l0_0 a1 t102 _ ?side1 ?side2 A3.out).mono ?_); (case side1 => exact zC HR0_0.out); (case side2 => exact HC0_0.out); rintro e w10 ⟨rfl, hb⟩; refine ⟨_, rfl, ?_⟩; have n0_ := Zs0.mk (bkB (zG BK101.out) hb); have n1_ := Zs0.mk (blT zB hb); revert n0_ n1_; clear BK101 HB; intro BK101 HB; (try clear hb); (try clear hb2); (try clear hk); (try clear hi)))
  go_ret
  exact ⟨zr, zB⟩

end Go.Proofs.Ytcbpbnkoolpibaa.P
namespace Go.Proofs.Ytcbpbnkoolpibaa.P
open Go.RowKit Go.Proofs.YtcbpbnkoolpibaaW.PrintWords Go.Proofs.YtcbpbnkoolpibaaW.PrintLast Go.Proofs.YtcbpbnkoolpibaaW.PrintMore
attribute [local go_sem] max2_int min2_int max_two min_two max_three min_three max_four min_four   -- for this text's walks alone
set_option linter.unusedVariables false
set_option linter.unusedSimpArgs false

/-! ### laws_szBlockS: function 27 -/
def laws_szBlockS.l0 : Nat → List (S67) → Int → Int → Option (Int)
  | 0, _, _, _ => none
  | k + 1, x0, x1, x5 => if x5 < (x0.length : Int) then (if 0 ≤ x5 then ((laws_szBlock.f k ((rd_T67 x0 x5).f0) ((rd_T67 x0 x5).f1) ((rd_T67 x0 x5).f2) ((rd_T67 x0 x5).f3) ((rd_T67 x0 x5).f4) x1).bind fun t102 => (if t102 < 0 then (some (-1)) else (laws_szBlockS.l0 k x0 t102 (wrap64 (x5 + 1))))) else (none)) else (some x1)
def laws_szBlockS.f (k : Nat) (l0 : List (S67)) (a1 : Int) : Option (Int) := if (wrap64 (a1 - (l0.length : Int))) < 0 then (some (-1)) else (laws_szBlockS.l0 k l0 (wrap64 (a1 - (l0.length : Int))) 0)
theorem laws_szBlockS.mono_l : ∀ k, (∀ y0 y1 y2, LeO (laws_szBlockS.l0 k y0 y1 y2) (laws_szBlockS.l0 (k + 1) y0 y1 y2))
  | 0 => fun _ _ _ r h => by simp [laws_szBlockS.l0] at h
  | k + 1 => by
    have ih0 := laws_szBlockS.mono_l k
    · intro y0 y1 y2
      unfold laws_szBlockS.l0
      repeat' first
      | (with_reducible exact ih0 _ _ _)
      | (with_reducible exact laws_szBlock.mono _ _ _ _ _ _ _)
      | (with_reducible exact LeO.refl _)
      | (with_reducible exact LeO.none _)
      | (with_reducible refine LeO.ite ?_ ?_)
      | (with_reducible refine LeO.bind ?_ (fun _ => ?_))
      | exact ih0 _ _ _
      | exact laws_szBlock.mono _ _ _ _ _ _ _
      | exact LeO.none _
      | refine LeO.ite ?_ ?_
      | refine LeO.bind ?_ (fun _ => ?_)
theorem laws_szBlockS.mono : ∀ a0 a1 k, LeO (laws_szBlockS.f k a0 a1) (laws_szBlockS.f (k + 1) a0 a1) := by
  intro a0 a1 k
  have ih0 := laws_szBlockS.mono_l k
  unfold laws_szBlockS.f
  repeat' first
      | (with_reducible exact ih0 _ _ _)
      | (with_reducible exact laws_szBlock.mono _ _ _ _ _ _ _)
      | (with_reducible exact LeO.refl _)
      | (with_reducible exact LeO.none _)
      | (with_reducible refine LeO.ite ?_ ?_)
      | (with_reducible refine LeO.bind ?_ (fun _ => ?_))
      | exact ih0 _ _ _
      | exact laws_szBlock.mono _ _ _ _ _ _ _
      | exact LeO.none _
      | refine LeO.ite ?_ ?_
      | refine LeO.bind ?_ (fun _ => ?_)
set_option maxHeartbeats 8000000 in
set_option maxRecDepth 100000 in
theorem laws_szBlockS.calls (k : Nat) (A0 : Option Addr) (c0 : Nat) (l0 : List (S67)) (a1 : Int) (r : Int) (w : World) (hr0 : Kd.C k67 w A0 l0.length l0) (hc0 : l0.length ≤ c0) (h : laws_szBlockS.f k l0 a1 = some r) :
  Calls Try.prog 27 #[.slice A0 l0.length c0, .int .i64 a1] w fun e w' => e = .returned (.int .i64 r) ∧ Below w.heap.size w w' := by
 have hu67 := Try.underlying67
 have HR0 := Zs0.mk hr0
 have HC0 := Zs0.mk hc0
 clear hr0 hc0
 have HB := Zs0.mk (Below.refl w.heap.size w)
 have H : (if (wrap64 (a1 - (l0.length : Int))) < 0 then (some (-1)) else (laws_szBlockS.l0 k l0 (wrap64 (a1 - (l0.length : Int))) 0)) = some r := h
 clear h
 by_cases c3 : (wrap64 (a1 - (l0.length : Int))) < 0
 ·rw [if_pos c3] at H
  have c3b0 : decide ((wrap64 (a1 - (l0.length : Int))) < 0) = true := decide_eq_true c3
  clear c3
  obtain rfl := Option.some.inj H
  go_enter Try.func27, Try.ntmps27
  go_wp2
  go_ret
  exact ⟨zr, zB⟩
 ·rw [if_neg c3] at H
  have c3b0 : decide ((wrap64 (a1 - (l0.length : Int))) < 0) = false := decide_eq_false c3
  clear c3
  have H' := Zs0.mk H
  clear H
  go_enter Try.func27, Try.ntmps27
  go_wp2
  go_loopg [1, 5] k (fun kq v1 v5 w' => ∃ (x1_1 : Int) (x5_1 : Int), v1 = .int .i64 x1_1 ∧ v5 = .int .i64 x5_1 ∧ Zs0 (laws_szBlockS.l0 kq l0 x1_1 x5_1 = some r) ∧ Zs0 (kq ≤ k) ∧ Zs0 (Below w.heap.size w w'))
  case atStart => exact ⟨(wrap64 (a1 - (l0.length : Int))), (0), zq, zq, H', ⟨Nat.le_refl _⟩, ⟨zB⟩⟩
  case round =>
   clear H'
   try clear c2
   try clear p2
   try clear c3
   try clear c3b0
   obtain ⟨x1_1, x5_1, rfl, rfl, HA, HK1, HB⟩ := hrel
   cases gk with
   | zero => exact absurd HA.out (by simp [laws_szBlockS.l0])
   | succ k1 =>
    have H := HA.out
    clear HA
    simp only [laws_szBlockS.l0] at H
    by_cases c4 : x5_1 < (l0.length : Int)
    ·rw [if_pos c4] at H
     have c4b0 : decide (x5_1 < (l0.length : Int)) = true := decide_eq_true c4
     clear c4
     have c5 := ipos H
     rw [if_pos c5] at H
     have c5b0 := decide_eq_true c5
     clear c5
     replace H := Option.bind_eq_some_iff.mp H
     obtain ⟨t102, A60, H⟩ := H
     replace H : (if t102 < 0 then (some (-1)) else (laws_szBlockS.l0 k1 l0 t102 (wrap64 (x5_1 + 1)))) = some r := H
     have A6 := Zs0.mk A60
     clear A60
     by_cases c7 : t102 < 0
     ·rw [if_pos c7] at H
      have c7b0 : decide (t102 < 0) = true := decide_eq_true c7
      clear c7
      obtain rfl := Option.some.inj H
      have p101 : 0 ≤ (x5_1 : Int) := zD
      have q101 : x5_1 < (l0.length : Int) := zD
      obtain ⟨ad101, A101_0, c101_0, e101, hx101_0, hx101_1, hx101_2, hx101_3, hx101_4, hl101_0, hi101_0⟩ := at_T67 HR0.out x5_1 p101 q101
      cases e101
      replace hx101_0 := zx HB.out hx101_0
      replace hx101_1 := zx HB.out hx101_1
      replace hx101_2 := zx HB.out hx101_2
      replace hx101_3 := zx HB.out hx101_3
      replace hx101_4 := zx HB.out hx101_4
      have HR101_0 := Zs0.mk hi101_0
      have HC101_0 := Zs0.mk hl101_0
      clear hi101_0 hl101_0
      replace p101 := eq_true p101
      replace q101 := eq_true q101
      go_wp2_with (first | ((with_reducible refine gtC (f := 49) rfl ?_); refine goesL_ (some 23) rfl rfl Try.func49 (by kernel_rfl) rfl #[.agg #[.slice A101_0 ((rd_T67 l0 x5_1).f0).length c101_0, .int .i64 ((rd_T67 l0 x5_1).f1), .int .i64 ((rd_T67 l0 x5_1).f2), .int .i64 ((rd_T67 l0 x5_1).f3), .int .i64 ((rd_T67 l0 x5_1).f4)], .int .i64 x1_1] rfl zM ?_; (with_reducible refine (laws_szBlock.calls k1 _ _ ((rd_T67 l0 x5_1).f0) ((rd_T67 l0 x5_1).f1) ((rd_T67 l0 x5_1).f2) ((rd_T67 l0 x5_1).f3) ((rd_T67 l0 x5_1).f4) x1_1 t102 _ ?side1 ?side2 A6.out).mono ?_); (case side1 => exact zC HR101_0.out); (case side2 => exact HC101_0.out); rintro e w8 ⟨rfl, hb⟩; refine ⟨_, rfl, ?_⟩; have n0_ := Zs0.mk (blT zB hb); revert n0_; clear HB; intro HB; (try clear hb); (try clear hb2); (try clear hk); (try clear hi)))
      go_ret
      exact ⟨zr, zB⟩
     ·rw [if_neg c7] at H
      have c7b0 : decide (t102 < 0) = false := decide_eq_false c7
      clear c7
      have H' := Zs0.mk H
      clear H
      have p101 : 0 ≤ (x5_1 : Int) := zD
      have q101 : x5_1 < (l0.length : Int) := zD
      obtain ⟨ad101, A101_0, c101_0, e101, hx101_0, hx101_1, hx101_2, hx101_3, hx101_4, hl101_0, hi101_0⟩ := at_T67 HR0.out x5_1 p101 q101
      cases e101
      replace hx101_0 := zx HB.out hx101_0
      replace hx101_1 := zx HB.out hx101_1
      replace hx101_2 := zx HB.out hx101_2
      replace hx101_3 := zx HB.out hx101_3
      replace hx101_4 := zx HB.out hx101_4
      have HR101_0 := Zs0.mk hi101_0
      have HC101_0 := Zs0.mk hl101_0
      clear hi101_0 hl101_0
      replace p101 := eq_true p101
      replace q101 := eq_true q101
      go_wp2_with (first | ((with_reducible refine gtC (f := 49) rfl ?_); refine goesL_ (some 23) rfl rfl Try.func49 (by kernel_rfl) rfl #[.agg #[.slice A101_0 ((rd_T67 l0 x5_1).f0).length c101_0, .int .i64 ((rd_T67 l0 x5_1).f1), .int .i64 ((rd_T67 l0 x5_1).f2), .int .i64 ((rd_T67 l0 x5_1).f3), .int .i64 ((rd_T67 l0 x5_1).f4)], .int .i64 x1_1] rfl zM ?_; (with_reducible refine (laws_szBlock.calls k1 _ _ ((rd_T67 l0 x5_1).f0) ((rd_T67 l0 x5_1).f1) ((rd_T67 l0 x5_1).f2) ((rd_T67 l0 x5_1).f3) ((rd_T67 l0 x5_1).f4) x1_1 t102 _ ?side1 ?side2 A6.out).mono ?_); (case side1 => exact zC HR101_0.out); (case side2 => exact HC101_0.out); rintro e w9 ⟨rfl, hb⟩; refine ⟨_, rfl, ?_⟩; have n0_ := Zs0.mk (blT zB hb); revert n0_; clear HB; intro HB; (try clear hb); (try clear hb2); (try clear hk); (try clear hi)))
      go_roundg k1
      case measure => have := HK1.out; omega
      case rel => exact ⟨(t102), (wrap64 (x5_1 + 1)), zq, zq, H', ⟨by have := HK1.out; omega⟩, ⟨zB⟩⟩
    ·rw [if_neg c4] at H
     have c4b0 : decide (x5_1 < (l0.length : Int)) = false := decide_eq_false c4
     clear c4
     obtain rfl := Option.some.inj H
     go_wp2
     go_ret
     exact ⟨zr, zB⟩

end Go.Proofs.Ytcbpbnkoolpibaa.P
namespace Go.Proofs.Ytcbpbnkoolpibaa.P
open Go.RowKit Go.Proofs.YtcbpbnkoolpibaaW.PrintWords Go.Proofs.YtcbpbnkoolpibaaW.PrintLast Go.Proofs.YtcbpbnkoolpibaaW.PrintMore
attribute [local go_sem] max2_int min2_int max_two min_two max_three min_three max_four min_four   -- for this text's walks alone
set_option linter.unusedVariables false
set_option linter.unusedSimpArgs false

/-! ### laws_szGraph: function 7 -/
def laws_szGraph.f (k : Nat) (l0_0 : List Int) (a0_1 : Int) (a0_2 : Int) (a0_3 : Int) (l0_4 : List (S67)) (a1 : Int) : Option (Int) := (laws_szIntS.f l0_0 a1).bind fun t102 => (if t102 < 0 then (some (-1)) else ((laws_szBlockS.f k l0_4 t102).bind fun t103 => (if t103 < 0 then (some (-1)) else (some t103))))
theorem laws_szGraph.mono : ∀ a0 a1 a2 a3 a4 a5 k, LeO (laws_szGraph.f k a0 a1 a2 a3 a4 a5) (laws_szGraph.f (k + 1) a0 a1 a2 a3 a4 a5) := by
  intro a0 a1 a2 a3 a4 a5 k
  unfold laws_szGraph.f
  repeat' first
      | (with_reducible exact laws_szBlockS.mono _ _ _)
      | (with_reducible exact LeO.refl _)
      | (with_reducible exact LeO.none _)
      | (with_reducible refine LeO.ite ?_ ?_)
      | (with_reducible refine LeO.bind ?_ (fun _ => ?_))
      | exact laws_szBlockS.mono _ _ _
      | exact LeO.none _
      | refine LeO.ite ?_ ?_
      | refine LeO.bind ?_ (fun _ => ?_)
set_option maxHeartbeats 8000000 in
set_option maxRecDepth 100000 in
theorem laws_szGraph.calls (k : Nat) (A0_0 : Option Addr) (c0_0 : Nat) (l0_0 : List Int) (a0_1 : Int) (a0_2 : Int) (a0_3 : Int) (A0_4 : Option Addr) (c0_4 : Nat) (l0_4 : List (S67)) (a1 : Int) (r : Int) (w : World) (hr0_0 : Kd.C (Kd.int .i64) w A0_0 l0_0.length l0_0) (hc0_0 : l0_0.length ≤ c0_0) (hr0_4 : Kd.C k67 w A0_4 l0_4.length l0_4) (hc0_4 : l0_4.length ≤ c0_4) (h : laws_szGraph.f k l0_0 a0_1 a0_2 a0_3 l0_4 a1 = some r) :
  Calls Try.prog 7 #[.agg #[.slice A0_0 l0_0.length c0_0, .int .i64 a0_1, .int .i64 a0_2, .int .i64 a0_3, .slice A0_4 l0_4.length c0_4], .int .i64 a1] w fun e w' => e = .returned (.int .i64 r) ∧ Below w.heap.size w w' := by
 have hu25 := Try.underlying25
 have HR0_0 := Zs0.mk hr0_0
 have HC0_0 := Zs0.mk hc0_0
 clear hr0_0 hc0_0
 have HR0_4 := Zs0.mk hr0_4
 have HC0_4 := Zs0.mk hc0_4
 clear hr0_4 hc0_4
 have HB := Zs0.mk (Below.refl w.heap.size w)
 have H : ((laws_szIntS.f l0_0 a1).bind fun t102 => (if t102 < 0 then (some (-1)) else ((laws_szBlockS.f k l0_4 t102).bind fun t103 => (if t103 < 0 then (some (-1)) else (some t103))))) = some r := h
 clear h
 replace H := Option.bind_eq_some_iff.mp H
 obtain ⟨t102, A30, H⟩ := H
 replace H : (if t102 < 0 then (some (-1)) else ((laws_szBlockS.f k l0_4 t102).bind fun t103 => (if t103 < 0 then (some (-1)) else (some t103)))) = some r := H
 have A3 := Zs0.mk A30
 clear A30
 by_cases c4 : t102 < 0
 ·rw [if_pos c4] at H
  have c4b0 : decide (t102 < 0) = true := decide_eq_true c4
  clear c4
  obtain rfl := Option.some.inj H
  go_enter Try.func7, Try.ntmps7
  go_wp2_with (first | ((with_reducible refine gtD (N := 2) rfl ?_); refine bxE ?hg (N := 2) ?hd (cs := #[.slice A0_0 l0_0.length c0_0, .int .i64 a0_1, .int .i64 a0_2, .int .i64 a0_3, .slice A0_4 l0_4.length c0_4]) (t := 25) ?hr ?_; (case hd => rfl); (case hg => rfl); (case hr => first | (go_simp; done) | (go_simp; rfl)); intro gb101 hg w5 hbox hb; have n0_ := Zs0.mk (blT zB hb); have n1_ := Zs0.mk (hbox); have n2_ := Zs0.mk (zs hg : w.heap.size ≤ gb101); have n3_ := Zs0.mk (zs hg : w.heap.size ≤ gb101); revert n0_ n1_ n2_ n3_; clear HB; intro HB BK101 GW101 GE101; clear hb hbox hg; obtain ⟨hcz6_0, hcz6_1, hcz6_2, hcz6_3, hcz6_4, hfz6_0, hfz6_1, hfz6_2, hfz6_3, hfz6_4⟩ := bx5 BK101.out) | ((with_reducible refine gtC (f := 26) rfl ?_); refine goesL_ (some 8) rfl rfl Try.func26 (by kernel_rfl) rfl #[.slice A0_0 l0_0.length c0_0, .int .i64 a1] rfl zM ?_; (with_reducible refine (laws_szIntS.calls _ _ l0_0 a1 t102 _ ?side1 ?side2 A3.out).mono ?_); (case side1 => exact zC HR0_0.out); (case side2 => exact HC0_0.out); rintro e w' ⟨rfl, ⟨nd, rfl⟩⟩; refine ⟨_, rfl, ?_⟩))
  go_ret
  exact ⟨zr, zB⟩
 ·rw [if_neg c4] at H
  have c4b0 : decide (t102 < 0) = false := decide_eq_false c4
  clear c4
  replace H := Option.bind_eq_some_iff.mp H
  obtain ⟨t103, A70, H⟩ := H
  replace H : (if t103 < 0 then (some (-1)) else (some t103)) = some r := H
  have A7 := Zs0.mk A70
  clear A70
  by_cases c8 : t103 < 0
  ·rw [if_pos c8] at H
   have c8b0 : decide (t103 < 0) = true := decide_eq_true c8
   clear c8
   obtain rfl := Option.some.inj H
   go_enter Try.func7, Try.ntmps7
   go_wp2_with (first | ((with_reducible refine gtD (N := 2) rfl ?_); refine bxE ?hg (N := 2) ?hd (cs := #[.slice A0_0 l0_0.length c0_0, .int .i64 a0_1, .int .i64 a0_2, .int .i64 a0_3, .slice A0_4 l0_4.length c0_4]) (t := 25) ?hr ?_; (case hd => rfl); (case hg => rfl); (case hr => first | (go_simp; done) | (go_simp; rfl)); intro gb101 hg w9 hbox hb; have n0_ := Zs0.mk (blT zB hb); have n1_ := Zs0.mk (hbox); have n2_ := Zs0.mk (zs hg : w.heap.size ≤ gb101); have n3_ := Zs0.mk (zs hg : w.heap.size ≤ gb101); revert n0_ n1_ n2_ n3_; clear HB; intro HB BK101 GW101 GE101; clear hb hbox hg; obtain ⟨hcz10_0, hcz10_1, hcz10_2, hcz10_3, hcz10_4, hfz10_0, hfz10_1, hfz10_2, hfz10_3, hfz10_4⟩ := bx5 BK101.out) | ((with_reducible refine gtC (f := 26) rfl ?_); refine goesL_ (some 8) rfl rfl Try.func26 (by kernel_rfl) rfl #[.slice A0_0 l0_0.length c0_0, .int .i64 a1] rfl zM ?_; (with_reducible refine (laws_szIntS.calls _ _ l0_0 a1 t102 _ ?side1 ?side2 A3.out).mono ?_); (case side1 => exact zC HR0_0.out); (case side2 => exact HC0_0.out); rintro e w' ⟨rfl, ⟨nd, rfl⟩⟩; refine ⟨_, rfl, ?_⟩) | ((with_reducible refine gtC (f := 27) rfl ?_); refine goesL_ (some 14) rfl rfl Try.func27 (by kernel_rfl) rfl #[.slice A0_4 l0_4.length c0_4, .int .i64 t102] rfl zM ?_; (with_reducible refine (laws_szBlockS.calls k _ _ l0_4 t102 t103 _ ?side1 ?side2 A7.out).mono ?_); (case side1 => repeat (first | exact (Kd.cB1 HR0_4.out zB) | (with_reducible refine Kd.cA1 ?_ _) | (with_reducible refine Kd.cD1 ?_ _) | (with_reducible refine Kd.cD2 ?_))); (case side2 => exact HC0_4.out); rintro e w11 ⟨rfl, hb⟩; refine ⟨_, rfl, ?_⟩; have n0_ := Zs0.mk (bkB (zG BK101.out) hb); have n1_ := Zs0.mk (blT zB hb); revert n0_ n1_; clear BK101 HB; intro BK101 HB; (try clear hb); (try clear hb2); (try clear hk); (try clear hi)))
   go_ret
   exact ⟨zr, zB⟩
  ·rw [if_neg c8] at H
   have c8b0 : decide (t103 < 0) = false := decide_eq_false c8
   clear c8
   obtain rfl := Option.some.inj H
   go_enter Try.func7, Try.ntmps7
   go_wp2_with (first | ((with_reducible refine gtD (N := 2) rfl ?_); refine bxE ?hg (N := 2) ?hd (cs := #[.slice A0_0 l0_0.length c0_0, .int .i64 a0_1, .int .i64 a0_2, .int .i64 a0_3, .slice A0_4 l0_4.length c0_4]) (t := 25) ?hr ?_; (case hd => rfl); (case hg => rfl); (case hr => first | (go_simp; done) | (go_simp; rfl)); intro gb101 hg w12 hbox hb; have n0_ := Zs0.mk (blT zB hb); have n1_ := Zs0.mk (hbox); have n2_ := Zs0.mk (zs hg : w.heap.size ≤ gb101); have n3_ := Zs0.mk (zs hg : w.heap.size ≤ gb101); revert n0_ n1_ n2_ n3_; clear HB; intro HB BK101 GW101 GE101; clear hb hbox hg; obtain ⟨hcz13_0, hcz13_1, hcz13_2, hcz13_3, hcz13_4, hfz13_0, hfz13_1, hfz13_2, hfz13_3, hfz13_4⟩ := bx5 BK101.out) | ((with_reducible refine gtC (f := 26) rfl ?_); refine goesL_ (some 8) rfl rfl Try.func26 (by kernel_rfl) rfl #[.slice A0_0 l0_0.length c0_0, .int .i64 a1] rfl zM ?_; (with_reducible refine (laws_szIntS.calls _ _ l0_0 a1 t102 _ ?side1 ?side2 A3.out).mono ?_); (case side1 => exact zC HR0_0.out); (case side2 => exact HC0_0.out); rintro e w' ⟨rfl, ⟨nd, rfl⟩⟩; refine ⟨_, rfl, ?_⟩) | ((with_reducible refine gtC (f := 27) rfl ?_); refine goesL_ (some 14) rfl rfl Try.func27 (by kernel_rfl) rfl #[.slice A0_4 l0_4.length c0_4, .int .i64 t102] rfl zM ?_; (with_reducible refine (laws_szBlockS.calls k _ _ l0_4 t102 t103 _ ?side1 ?side2 A7.out).mono ?_); (case side1 => repeat (first | exact (Kd.cB1 HR0_4.out zB) | (with_reducible refine Kd.cA1 ?_ _) | (with_reducible refine Kd.cD1 ?_ _) | (with_reducible refine Kd.cD2 ?_))); (case side2 => exact HC0_4.out); rintro e w14 ⟨rfl, hb⟩; refine ⟨_, rfl, ?_⟩; have n0_ := Zs0.mk (bkB (zG BK101.out) hb); have n1_ := Zs0.mk (blT zB hb); revert n0_ n1_; clear BK101 HB; intro BK101 HB; (try clear hb); (try clear hb2); (try clear hk); (try clear hi)))
   go_ret
   exact ⟨zr, zB⟩

end Go.Proofs.Ytcbpbnkoolpibaa.P
namespace Go.Proofs.Ytcbpbnkoolpibaa.P
open Go.RowKit Go.Proofs.YtcbpbnkoolpibaaW.PrintWords Go.Proofs.YtcbpbnkoolpibaaW.PrintLast Go.Proofs.YtcbpbnkoolpibaaW.PrintMore
attribute [local go_sem] max2_int min2_int max_two min_two max_three min_three max_four min_four   -- for this text's walks alone
set_option linter.unusedVariables false
set_option linter.unusedSimpArgs false

/-! ### spec_l01In: function 44 -/
def spec_l01In.f (a0 : Int) (a1 : Int) (a2 : Int) : Option (Bool) := if a0 ≥ a1 then (some (decide (a0 ≤ a2))) else (some false)
set_option maxHeartbeats 8000000 in
set_option maxRecDepth 100000 in
theorem spec_l01In.calls (a0 : Int) (a1 : Int) (a2 : Int) (r : Bool) (w : World) (h : spec_l01In.f a0 a1 a2 = some r) :
  Calls Try.prog 44 #[.int .i64 a0, .int .i64 a1, .int .i64 a2] w fun e w' => e = .returned (.bool r) ∧ Drawn0 w w' := by
 have H : (if a0 ≥ a1 then (some (decide (a0 ≤ a2))) else (some false)) = some r := h
 clear h
 by_cases c4 : a0 ≥ a1
 ·rw [if_pos c4] at H
  have c4b0 : decide (a1 ≤ a0) = true := decide_eq_true c4
  clear c4
  obtain rfl := Option.some.inj H
  go_enter Try.func44, Try.ntmps44
  go_wp2
  go_ret
  exact ⟨by first | rfl | (simp; done) | (simp [*]; done), by repeat (first | exact Drawn0.refl _ | apply Drawn0.step)⟩
 ·rw [if_neg c4] at H
  have c4b0 : decide (a1 ≤ a0) = false := decide_eq_false c4
  clear c4
  obtain rfl := Option.some.inj H
  go_enter Try.func44, Try.ntmps44
  go_wp2
  go_ret
  exact ⟨by first | rfl | (simp; done) | (simp [*]; done), by repeat (first | exact Drawn0.refl _ | apply Drawn0.step)⟩

end Go.Proofs.Ytcbpbnkoolpibaa.P
namespace Go.Proofs.Ytcbpbnkoolpibaa.P
open Go.RowKit Go.Proofs.YtcbpbnkoolpibaaW.PrintWords Go.Proofs.YtcbpbnkoolpibaaW.PrintLast Go.Proofs.YtcbpbnkoolpibaaW.PrintMore
attribute [local go_sem] max2_int min2_int max_two min_two max_three min_three max_four min_four   -- for this text's walks alone
set_option linter.unusedVariables false
set_option linter.unusedSimpArgs false

/-! ### spec_l01Has: function 82 -/
def spec_l01Has.l0 : Nat → List ByteArray → ByteArray → Int → Option (Bool)
  | 0, _, _, _ => none
  | k + 1, x0, x1, x5 => if x5 < (x0.length : Int) then (if 0 ≤ x5 then (if (rdOf ByteArray.empty x0 x5).toList = x1.toList then (some true) else (spec_l01Has.l0 k x0 x1 (wrap64 (x5 + 1)))) else (none)) else (some false)
def spec_l01Has.f (k : Nat) (l0 : List ByteArray) (a1 : ByteArray) : Option (Bool) := spec_l01Has.l0 k l0 a1 0
theorem spec_l01Has.mono_l : ∀ k, (∀ y0 y1 y2, LeO (spec_l01Has.l0 k y0 y1 y2) (spec_l01Has.l0 (k + 1) y0 y1 y2))
  | 0 => fun _ _ _ r h => by simp [spec_l01Has.l0] at h
  | k + 1 => by
    have ih0 := spec_l01Has.mono_l k
    · intro y0 y1 y2
      unfold spec_l01Has.l0
      repeat' first
      | (with_reducible exact ih0 _ _ _)
      | (with_reducible exact LeO.refl _)
      | (with_reducible exact LeO.none _)
      | (with_reducible refine LeO.ite ?_ ?_)
      | (with_reducible refine LeO.bind ?_ (fun _ => ?_))
      | exact ih0 _ _ _
      | exact LeO.none _
      | refine LeO.ite ?_ ?_
      | refine LeO.bind ?_ (fun _ => ?_)
theorem spec_l01Has.mono : ∀ a0 a1 k, LeO (spec_l01Has.f k a0 a1) (spec_l01Has.f (k + 1) a0 a1) := by
  intro a0 a1 k
  have ih0 := spec_l01Has.mono_l k
  unfold spec_l01Has.f
  repeat' first
      | (with_reducible exact ih0 _ _ _)
      | (with_reducible exact LeO.refl _)
      | (with_reducible exact LeO.none _)
      | (with_reducible refine LeO.ite ?_ ?_)
      | (with_reducible refine LeO.bind ?_ (fun _ => ?_))
      | exact ih0 _ _ _
      | exact LeO.none _
      | refine LeO.ite ?_ ?_
      | refine LeO.bind ?_ (fun _ => ?_)
set_option maxHeartbeats 8000000 in
set_option maxRecDepth 100000 in
theorem spec_l01Has.calls (k : Nat) (A0 : Option Addr) (c0 : Nat) (l0 : List ByteArray) (a1 : ByteArray) (r : Bool) (w : World) (hr0 : Kd.C Kd.string w A0 l0.length l0) (hc0 : l0.length ≤ c0) (h : spec_l01Has.f k l0 a1 = some r) :
  Calls Try.prog 82 #[.slice A0 l0.length c0, .string a1] w fun e w' => e = .returned (.bool r) ∧ Drawn0 w w' := by
 have HR0 := Zs0.mk hr0
 have HC0 := Zs0.mk hc0
 clear hr0 hc0
 have H : (spec_l01Has.l0 k l0 a1 0) = some r := h
 clear h
 have H' := Zs0.mk H
 clear H
 go_enter Try.func82, Try.ntmps82
 go_wp2
 go_loopg [5] k (fun kq v5 w' => ∃ (x5_1 : Int), v5 = .int .i64 x5_1 ∧ Zs0 (spec_l01Has.l0 kq l0 a1 x5_1 = some r) ∧ Zs0 (kq ≤ k) ∧ Drawn0 w w')
 case atStart => exact ⟨(0), zq, H', ⟨Nat.le_refl _⟩, by repeat (first | exact Drawn0.refl _ | apply Drawn0.step)⟩
 case round =>
  clear H'
  try clear p2
  obtain ⟨x5_1, rfl, HA, HK1, ⟨m1, rfl⟩⟩ := hrel
  cases gk with
  | zero => exact absurd HA.out (by simp [spec_l01Has.l0])
  | succ k1 =>
   have H := HA.out
   clear HA
   simp only [spec_l01Has.l0] at H
   by_cases c3 : x5_1 < (l0.length : Int)
   ·rw [if_pos c3] at H
    have c3b0 : decide (x5_1 < (l0.length : Int)) = true := decide_eq_true c3
    clear c3
    have c4 := ipos H
    rw [if_pos c4] at H
    have c4b0 := decide_eq_true c4
    clear c4
    by_cases c5 : (rdOf ByteArray.empty l0 x5_1).toList = a1.toList
    ·rw [if_pos c5] at H
     have c5b0 : ((rdOf ByteArray.empty l0 x5_1).toList == a1.toList) = true := beq_iff_eq.mpr c5
     have c5b1 : ((rdOf ByteArray.empty l0 x5_1).toList != a1.toList) = false := bne_eq_false_iff_eq.mpr c5
     clear c5
     obtain rfl := Option.some.inj H
     have p101 : 0 ≤ (x5_1 : Int) := zD
     have q101 : x5_1 < (l0.length : Int) := zD
     obtain ⟨ad101, e101, hx101_0⟩ := Kd.at_string HR0.out x5_1 p101 q101
     cases e101
     replace p101 := eq_true p101
     replace q101 := eq_true q101
     go_wp2
     go_ret
     exact ⟨by first | rfl | (simp; done) | (simp [*]; done), by repeat (first | exact Drawn0.refl _ | apply Drawn0.step)⟩
    ·rw [if_neg c5] at H
     have c5b0 : ((rdOf ByteArray.empty l0 x5_1).toList == a1.toList) = false := beq_eq_false_iff_ne.mpr c5
     have c5b1 : ((rdOf ByteArray.empty l0 x5_1).toList != a1.toList) = true := bne_iff_ne.mpr c5
     have H' := Zs0.mk H
     clear H
     have p101 : 0 ≤ (x5_1 : Int) := zD
     have q101 : x5_1 < (l0.length : Int) := zD
     obtain ⟨ad101, e101, hx101_0⟩ := Kd.at_string HR0.out x5_1 p101 q101
     cases e101
     replace p101 := eq_true p101
     replace q101 := eq_true q101
     go_wp2
     go_roundg k1
     case measure => have := HK1.out; omega
     case rel => exact ⟨(wrap64 (x5_1 + 1)), zq, H', ⟨by have := HK1.out; omega⟩, by repeat (first | exact Drawn0.refl _ | apply Drawn0.step)⟩
   ·rw [if_neg c3] at H
    have c3b0 : decide (x5_1 < (l0.length : Int)) = false := decide_eq_false c3
    clear c3
    obtain rfl := Option.some.inj H
    go_wp2
    go_ret
    exact ⟨by first | rfl | (simp; done) | (simp [*]; done), by repeat (first | exact Drawn0.refl _ | apply Drawn0.step)⟩

end Go.Proofs.Ytcbpbnkoolpibaa.P
namespace Go.Proofs.Ytcbpbnkoolpibaa.P
open Go.RowKit Go.Proofs.YtcbpbnkoolpibaaW.PrintWords Go.Proofs.YtcbpbnkoolpibaaW.PrintLast Go.Proofs.YtcbpbnkoolpibaaW.PrintMore
attribute [local go_sem] max2_int min2_int max_two min_two max_three min_three max_four min_four   -- for this text's walks alone
set_option linter.unusedVariables false
set_option linter.unusedSimpArgs false

/-! ### spec_l05Next: function 48 -/
def spec_l05Next.f (l0_0 : List (S57)) (a0_1 : Int) (a0_2 : Int) (a0_3 : Int) (a0_4 : Int) : Option (List Int) := if a0_1 = 0 then (some (([a0_3] : List Int))) else (if a0_1 = 1 then (some (([a0_3, a0_4] : List Int))) else (some (([] : List Int))))
set_option maxHeartbeats 8000000 in
set_option maxRecDepth 100000 in
theorem spec_l05Next.calls (A0_0 : Option Addr) (c0_0 : Nat) (l0_0 : List (S57)) (a0_1 : Int) (a0_2 : Int) (a0_3 : Int) (a0_4 : Int) (r : List Int) (w : World) (hr0_0 : Kd.C k57 w A0_0 l0_0.length l0_0) (hc0_0 : l0_0.length ≤ c0_0) (h : spec_l05Next.f l0_0 a0_1 a0_2 a0_3 a0_4 = some r) :
  Calls Try.prog 48 #[.agg #[.slice A0_0 l0_0.length c0_0, .int .i64 a0_1, .int .i64 a0_2, .int .i64 a0_3, .int .i64 a0_4]] w fun e w' => ∃ v0_ : Value, e = .returned (v0_) ∧ Kd.R (Kd.int .i64) 3 w' w.heap.size (fun _ => True) v0_ r ∧ Below w.heap.size w w' := by
 have hu47 := Try.underlying47
 have HR0_0 := Zs0.mk hr0_0
 have HC0_0 := Zs0.mk hc0_0
 clear hr0_0 hc0_0
 have HB := Zs0.mk (Below.refl w.heap.size w)
 have H : (if a0_1 = 0 then (some (([a0_3] : List Int))) else (if a0_1 = 1 then (some (([a0_3, a0_4] : List Int))) else (some (([] : List Int))))) = some r := h
 clear h
 by_cases c2 : a0_1 = 0
 ·rw [if_pos c2] at H
  have c2b0 : (a0_1 == 0) = true := beq_iff_eq.mpr c2
  have c2b1 : (a0_1 != 0) = false := bne_eq_false_iff_eq.mpr c2
  clear c2
  obtain ⟨y102, hy102⟩ : ∃ y_ : List Int, y_ = (([a0_3] : List Int)) := ⟨_, rfl⟩
  replace H : (some y102) = some r := by first | (rw [hy102]; with_reducible exact H) | (have H2_ := (Option.bind_some _ _).symm.trans H; rw [hy102]; with_reducible exact H2_) | (have H2_ := (Option.bind_some _ _).symm.trans H; with_reducible exact H2_) | with_reducible exact H | (rw [hy102]; exact H) | exact H
  have Ny102 := Zs0.mk hy102
  clear hy102
  obtain rfl := Option.some.inj H
  go_enter Try.func48, Try.ntmps48
  go_wp2_with (first | ((with_reducible refine gtD (N := 1) rfl ?_); refine bxE ?hg (N := 1) ?hd (cs := #[.slice A0_0 l0_0.length c0_0, .int .i64 a0_1, .int .i64 a0_2, .int .i64 a0_3, .int .i64 a0_4]) (t := 47) ?hr ?_; (case hd => rfl); (case hg => rfl); (case hr => first | (go_simp; done) | (go_simp; rfl)); intro gb101 hg w3 hbox hb; have n0_ := Zs0.mk (blT zB hb); have n1_ := Zs0.mk (hbox); have n2_ := Zs0.mk (zs hg : w.heap.size ≤ gb101); have n3_ := Zs0.mk (zs hg : w.heap.size ≤ gb101); revert n0_ n1_ n2_ n3_; clear HB; intro HB BK101 GW101 GE101; clear hb hbox hg; obtain ⟨hcz4_0, hcz4_1, hcz4_2, hcz4_3, hcz4_4, hfz4_0, hfz4_1, hfz4_2, hfz4_3, hfz4_4⟩ := bx5 BK101.out) | ((with_reducible refine gtD (N := 9) rfl ?_); refine Kd.R_lit (Kd.int .i64) _ 3 ?hg (N := 9) ?hd (xs := ([a0_3] : List Int)) (inner := [.int .i64 a0_3]) (ok := fun _ => True) (okp := fun _ => True) ?hr ?hp (fun _ hk => hk) trivial (Below.refl _ _) (Nat.le_refl _) (by simp) ?_; (case hd => rfl); (case hg => rfl); (case hr => first | (go_simp; done) | (go_simp; rfl)); (case hp => exact (Reps.one (show Kd.M (Kd.int .i64) _ _ _ a0_3 [.int .i64 a0_3] from rfl) (Reps.none _ _))); intro v103 w5 ho6 hb hg_ hnew_; clear hg_ hnew_; (first | rw [← Ny102.out] at ho6 | (simp only [Int.reduceToNat] at ho6; rw [← Ny102.out] at ho6)); have n0_ := Zs0.mk (Kd.R_lower ho6 (blZ zB)); have n1_ := Zs0.mk (bkB (zG BK101.out) hb); have n2_ := Zs0.mk (blT zB hb); revert n0_ n1_ n2_; clear BK101 HB; intro HO104 BK101 HB; clear hb ho6))
  go_ret
  exact ⟨_, zr, by (with_reducible repeat (first | apply Kd.rA1 | apply Kd.rD1 | apply Kd.rD2)); exact HO104.out, zB⟩
 ·rw [if_neg c2] at H
  have c2b0 : (a0_1 == 0) = false := beq_eq_false_iff_ne.mpr c2
  have c2b1 : (a0_1 != 0) = true := bne_iff_ne.mpr c2
  by_cases c7 : a0_1 = 1
  ·rw [if_pos c7] at H
   have c7b0 : (a0_1 == 1) = true := beq_iff_eq.mpr c7
   have c7b1 : (a0_1 != 1) = false := bne_eq_false_iff_eq.mpr c7
   clear c7
   obtain ⟨y105, hy105⟩ : ∃ y_ : List Int, y_ = (([a0_3, a0_4] : List Int)) := ⟨_, rfl⟩
   replace H : (some y105) = some r := by first | (rw [hy105]; with_reducible exact H) | (have H2_ := (Option.bind_some _ _).symm.trans H; rw [hy105]; with_reducible exact H2_) | (have H2_ := (Option.bind_some _ _).symm.trans H; with_reducible exact H2_) | with_reducible exact H | (rw [hy105]; exact H) | exact H
   have Ny105 := Zs0.mk hy105
   clear hy105
   obtain rfl := Option.some.inj H
   go_enter Try.func48, Try.ntmps48
   go_wp2_with (first | ((with_reducible refine gtD (N := 1) rfl ?_); refine bxE ?hg (N := 1) ?hd (cs := #[.slice A0_0 l0_0.length c0_0, .int .i64 a0_1, .int .i64 a0_2, .int .i64 a0_3, .int .i64 a0_4]) (t := 47) ?hr ?_; (case hd => rfl); (case hg => rfl); (case hr => first | (go_simp; done) | (go_simp; rfl)); intro gb101 hg w8 hbox hb; have n0_ := Zs0.mk (blT zB hb); have n1_ := Zs0.mk (hbox); have n2_ := Zs0.mk (zs hg : w.heap.size ≤ gb101); have n3_ := Zs0.mk (zs hg : w.heap.size ≤ gb101); revert n0_ n1_ n2_ n3_; clear HB; intro HB BK101 GW101 GE101; clear hb hbox hg; obtain ⟨hcz9_0, hcz9_1, hcz9_2, hcz9_3, hcz9_4, hfz9_0, hfz9_1, hfz9_2, hfz9_3, hfz9_4⟩ := bx5 BK101.out) | ((with_reducible refine gtD (N := 16) rfl ?_); refine Kd.R_lit (Kd.int .i64) _ 3 ?hg (N := 16) ?hd (xs := ([a0_3, a0_4] : List Int)) (inner := [.int .i64 a0_3, .int .i64 a0_4]) (ok := fun _ => True) (okp := fun _ => True) ?hr ?hp (fun _ hk => hk) trivial (Below.refl _ _) (Nat.le_refl _) (by simp) ?_; (case hd => rfl); (case hg => rfl); (case hr => first | (go_simp; done) | (go_simp; rfl)); (case hp => exact (Reps.one (show Kd.M (Kd.int .i64) _ _ _ a0_3 [.int .i64 a0_3] from rfl) (Reps.one (show Kd.M (Kd.int .i64) _ _ _ a0_4 [.int .i64 a0_4] from rfl) (Reps.none _ _)))); intro v106 w10 ho11 hb hg_ hnew_; clear hg_ hnew_; (first | rw [← Ny105.out] at ho11 | (simp only [Int.reduceToNat] at ho11; rw [← Ny105.out] at ho11)); have n0_ := Zs0.mk (Kd.R_lower ho11 (blZ zB)); have n1_ := Zs0.mk (bkB (zG BK101.out) hb); have n2_ := Zs0.mk (blT zB hb); revert n0_ n1_ n2_; clear BK101 HB; intro HO107 BK101 HB; clear hb ho11))
   go_ret
   exact ⟨_, zr, by (with_reducible repeat (first | apply Kd.rA1 | apply Kd.rD1 | apply Kd.rD2)); exact HO107.out, zB⟩
  ·rw [if_neg c7] at H
   have c7b0 : (a0_1 == 1) = false := beq_eq_false_iff_ne.mpr c7
   have c7b1 : (a0_1 != 1) = true := bne_iff_ne.mpr c7
   obtain ⟨y108, hy108⟩ : ∃ y_ : List Int, y_ = (([] : List Int)) := ⟨_, rfl⟩
   replace H : (some y108) = some r := by first | (rw [hy108]; with_reducible exact H) | (have H2_ := (Option.bind_some _ _).symm.trans H; rw [hy108]; with_reducible exact H2_) | (have H2_ := (Option.bind_some _ _).symm.trans H; with_reducible exact H2_) | with_reducible exact H | (rw [hy108]; exact H) | exact H
   have Ny108 := Zs0.mk hy108
   clear hy108
   obtain rfl := Option.some.inj H
   go_enter Try.func48, Try.ntmps48
   go_wp2_with (first | ((with_reducible refine gtD (N := 1) rfl ?_); refine bxE ?hg (N := 1) ?hd (cs := #[.slice A0_0 l0_0.length c0_0, .int .i64 a0_1, .int .i64 a0_2, .int .i64 a0_3, .int .i64 a0_4]) (t := 47) ?hr ?_; (case hd => rfl); (case hg => rfl); (case hr => first | (go_simp; done) | (go_simp; rfl)); intro gb101 hg w12 hbox hb; have n0_ := Zs0.mk (blT zB hb); have n1_ := Zs0.mk (hbox); have n2_ := Zs0.mk (zs hg : w.heap.size ≤ gb101); have n3_ := Zs0.mk (zs hg : w.heap.size ≤ gb101); revert n0_ n1_ n2_ n3_; clear HB; intro HB BK101 GW101 GE101; clear hb hbox hg; obtain ⟨hcz13_0, hcz13_1, hcz13_2, hcz13_3, hcz13_4, hfz13_0, hfz13_1, hfz13_2, hfz13_3, hfz13_4⟩ := bx5 BK101.out) | ((with_reducible refine gtD (N := 17) rfl ?_); refine Kd.R_lit (Kd.int .i64) _ 3 ?hg (N := 17) ?hd (xs := ([] : List Int)) (inner := []) (ok := fun _ => True) (okp := fun _ => True) ?hr ?hp (fun _ hk => hk) trivial (Below.refl _ _) (Nat.le_refl _) (by simp) ?_; (case hd => rfl); (case hg => rfl); (case hr => first | (go_simp; done) | (go_simp; rfl)); (case hp => exact (Reps.none _ _)); intro v109 w14 ho15 hb hg_ hnew_; clear hg_ hnew_; (first | rw [← Ny108.out] at ho15 | (simp only [Int.reduceToNat] at ho15; rw [← Ny108.out] at ho15)); have n0_ := Zs0.mk (Kd.R_lower ho15 (blZ zB)); have n1_ := Zs0.mk (bkB (zG BK101.out) hb); have n2_ := Zs0.mk (blT zB hb); revert n0_ n1_ n2_; clear BK101 HB; intro HO110 BK101 HB; clear hb ho15))
   go_ret
   exact ⟨_, zr, by (with_reducible repeat (first | apply Kd.rA1 | apply Kd.rD1 | apply Kd.rD2)); exact HO110.out, zB⟩

end Go.Proofs.Ytcbpbnkoolpibaa.P
namespace Go.Proofs.Ytcbpbnkoolpibaa.P
open Go.RowKit Go.Proofs.YtcbpbnkoolpibaaW.PrintWords Go.Proofs.YtcbpbnkoolpibaaW.PrintLast Go.Proofs.YtcbpbnkoolpibaaW.PrintMore
attribute [local go_sem] max2_int min2_int max_two min_two max_three min_three max_four min_four   -- for this text's walks alone
set_option linter.unusedVariables false
set_option linter.unusedSimpArgs false

/-! ### spec_l08Behind: function 43 -/
def spec_l08Behind.f (l0_0 : List (S57)) (a0_1 : Int) (a0_2 : Int) (a0_3 : Int) (a0_4 : Int) (l1 : List Bool) : Option (List Bool) := (some (([] : List Bool) : List Bool)).bind fun y102 => (if y102.length + l1.length < 140737488355328 then ((some (y102 ++ l1 : List Bool)).bind fun y105 => (if a0_1 = 0 then (some y105) else (if 0 ≤ a0_2 then (if a0_2 < (y105.length : Int) then (some (y105.set (a0_2 : Int).toNat true)) else (none)) else (none)))) else (none))
set_option maxHeartbeats 8000000 in
set_option maxRecDepth 100000 in
theorem spec_l08Behind.calls (A0_0 : Option Addr) (c0_0 : Nat) (l0_0 : List (S57)) (a0_1 : Int) (a0_2 : Int) (a0_3 : Int) (a0_4 : Int) (A1 : Option Addr) (c1 : Nat) (l1 : List Bool) (r : List Bool) (w : World) (hr0_0 : Kd.C k57 w A0_0 l0_0.length l0_0) (hc0_0 : l0_0.length ≤ c0_0) (hr1 : Kd.C Kd.bool w A1 l1.length l1) (hc1 : l1.length ≤ c1) (h : spec_l08Behind.f l0_0 a0_1 a0_2 a0_3 a0_4 l1 = some r) :
  Calls Try.prog 43 #[.agg #[.slice A0_0 l0_0.length c0_0, .int .i64 a0_1, .int .i64 a0_2, .int .i64 a0_3, .int .i64 a0_4], .slice A1 l1.length c1] w fun e w' => ∃ v0_ : Value, e = .returned (v0_) ∧ Kd.R Kd.bool 4 w' w.heap.size (fun _ => True) v0_ r ∧ Below w.heap.size w w' := by
 have hu47 := Try.underlying47
 have HR0_0 := Zs0.mk hr0_0
 have HC0_0 := Zs0.mk hc0_0
 clear hr0_0 hc0_0
 have HR1 := Zs0.mk hr1
 have HC1 := Zs0.mk hc1
 clear hr1 hc1
 have HB := Zs0.mk (Below.refl w.heap.size w)
 have H : ((some (([] : List Bool) : List Bool)).bind fun y102 => (if y102.length + l1.length < 140737488355328 then ((some (y102 ++ l1 : List Bool)).bind fun y105 => (if a0_1 = 0 then (some y105) else (if 0 ≤ a0_2 then (if a0_2 < (y105.length : Int) then (some (y105.set (a0_2 : Int).toNat true)) else (none)) else (none)))) else (none))) = some r := h
 clear h
 obtain ⟨y102, hy102⟩ : ∃ y_ : List Bool, y_ = (([] : List Bool)) := ⟨_, rfl⟩
 replace H : (if y102.length + l1.length < 140737488355328 then ((some (y102 ++ l1 : List Bool)).bind fun y105 => (if a0_1 = 0 then (some y105) else (if 0 ≤ a0_2 then (if a0_2 < (y105.length : Int) then (some (y105.set (a0_2 : Int).toNat true)) else (none)) else (none)))) else (none)) = some r := by first | (rw [hy102]; with_reducible exact H) | (have H2_ := (Option.bind_some _ _).symm.trans H; rw [hy102]; with_reducible exact H2_) | (have H2_ := (Option.bind_some _ _).symm.trans H; with_reducible exact H2_) | with_reducible exact H | (rw [hy102]; exact H) | exact H
 have Ny102 := Zs0.mk hy102
 clear hy102
 have c3 := ipos H
 rw [if_pos c3] at H
 have LMc3 := Zs0.mk c3
 clear c3
 obtain ⟨y105, hy105⟩ : ∃ y_ : List Bool, y_ = (y102 ++ l1) := ⟨_, rfl⟩
 replace H : (if a0_1 = 0 then (some y105) else (if 0 ≤ a0_2 then (if a0_2 < (y105.length : Int) then (some (y105.set (a0_2 : Int).toNat true)) else (none)) else (none))) = some r := by first | (rw [hy105]; with_reducible exact H) | (have H2_ := (Option.bind_some _ _).symm.trans H; rw [hy105]; with_reducible exact H2_) | (have H2_ := (Option.bind_some _ _).symm.trans H; with_reducible exact H2_) | with_reducible exact H | (rw [hy105]; exact H) | exact H
 have Ny105 := Zs0.mk hy105
 clear hy105
 by_cases c4 : a0_1 = 0
 ·rw [if_pos c4] at H
  have c4b0 : (a0_1 == 0) = true := beq_iff_eq.mpr c4
  have c4b1 : (a0_1 != 0) = false := bne_eq_false_iff_eq.mpr c4
  clear c4
  obtain rfl := Option.some.inj H
  go_enter Try.func43, Try.ntmps43
  go_wp2_with (first | ((with_reducible refine gtD (N := 2) rfl ?_); refine bxE ?hg (N := 2) ?hd (cs := #[.slice A0_0 l0_0.length c0_0, .int .i64 a0_1, .int .i64 a0_2, .int .i64 a0_3, .int .i64 a0_4]) (t := 47) ?hr ?_; (case hd => rfl); (case hg => rfl); (case hr => first | (go_simp; done) | (go_simp; rfl)); intro gb101 hg w5 hbox hb; have n0_ := Zs0.mk (blT zB hb); have n1_ := Zs0.mk (hbox); have n2_ := Zs0.mk (zs hg : w.heap.size ≤ gb101); have n3_ := Zs0.mk (zs hg : w.heap.size ≤ gb101); revert n0_ n1_ n2_ n3_; clear HB; intro HB BK101 GW101 GE101; clear hb hbox hg) | ((with_reducible refine gtD (N := 6) rfl ?_); refine Kd.R_lit Kd.bool _ 4 ?hg (N := 6) ?hd (xs := ([] : List Bool)) (inner := []) (ok := fun _ => True) (okp := fun _ => True) ?hr ?hp (fun _ hk => hk) trivial (Below.refl _ _) (Nat.le_refl _) (by simp) ?_; (case hd => rfl); (case hg => rfl); (case hr => first | (go_simp; done) | (go_simp; rfl)); (case hp => exact (Reps.none _ _)); intro v103 w6 ho7 hb hg_ hnew_; clear hg_ hnew_; (first | rw [← Ny102.out] at ho7 | (simp only [Int.reduceToNat] at ho7; rw [← Ny102.out] at ho7)); have n0_ := Zs0.mk (Kd.R_lower ho7 (blZ zB)); have n1_ := Zs0.mk (bkB (zG BK101.out) hb); have n2_ := Zs0.mk (blT zB hb); revert n0_ n1_ n2_; clear BK101 HB; intro HO104 BK101 HB; clear hb ho7) | ((with_reducible refine gate_builtin (b := .append) (xs := #[.tmp 6, .tmp 7]) rfl ?_); at_builtin; refine Kd.R_append_rows Kd.bool (w0 := w) w.heap.size rfl (.tmp 6) (.tmp 7) 54 4 (.bool false) 1 rfl Try.underlying54 info4 rfl (by decide) (by omega) v103 y102 l1 _ _ _ (fun _ => True) (fun _ => False) rfl rfl ?aO ?aR (fun _ _ h => h) (fun _ h => h.elim) ?aF ?aB ?aS ?aL ?_; (case aR => exact zC HR1.out); (case aB => exact zB); (case aF => exact (fun _ _ => trivial)); (case aO => exact (zR HO104.out)); (case aS => exact (blZ zB)); (case aL => have := LMc3.out; omega); intro v106 w8 ho hb hg hat; rw [← Ny105.out] at ho; have n0_ := Zs0.mk (blk_grown (zG BK101.out) hg (Kd.R_ne HO104.out BK101.out (by decide))); have n1_ := Zs0.mk (hb); have n2_ := Zs0.mk (ho); revert n0_ n1_ n2_; clear BK101 HB HO104; intro BK101 HB HO107; clear ho hb hg hat; obtain ⟨hcz9_0, hcz9_1, hcz9_2, hcz9_3, hcz9_4, hfz9_0, hfz9_1, hfz9_2, hfz9_3, hfz9_4⟩ := bx5 BK101.out))
  go_ret
  exact ⟨_, zr, by (with_reducible repeat (first | apply Kd.rA1 | apply Kd.rD1 | apply Kd.rD2)); exact HO107.out, zB⟩
 ·rw [if_neg c4] at H
  have c4b0 : (a0_1 == 0) = false := beq_eq_false_iff_ne.mpr c4
  have c4b1 : (a0_1 != 0) = true := bne_iff_ne.mpr c4
  have c10 := ipos H
  rw [if_pos c10] at H
  have c10b0 := decide_eq_true c10
  clear c10
  have c11 := ipos H
  rw [if_pos c11] at H
  have c11b0 := decide_eq_true c11
  clear c11
  obtain ⟨y108, hy108⟩ : ∃ y_ : List Bool, y_ = (y105.set (a0_2 : Int).toNat true) := ⟨_, rfl⟩
  replace H : (some y108) = some r := by first | (rw [hy108]; with_reducible exact H) | (have H2_ := (Option.bind_some _ _).symm.trans H; rw [hy108]; with_reducible exact H2_) | (have H2_ := (Option.bind_some _ _).symm.trans H; with_reducible exact H2_) | with_reducible exact H | (rw [hy108]; exact H) | exact H
  have Ny108 := Zs0.mk hy108
  clear hy108
  obtain rfl := Option.some.inj H
  go_enter Try.func43, Try.ntmps43
  go_wp2_with (first | ((with_reducible refine gtD (N := 2) rfl ?_); refine bxE ?hg (N := 2) ?hd (cs := #[.slice A0_0 l0_0.length c0_0, .int .i64 a0_1, .int .i64 a0_2, .int .i64 a0_3, .int .i64 a0_4]) (t := 47) ?hr ?_; (case hd => rfl); (case hg => rfl); (case hr => first | (go_simp; done) | (go_simp; rfl)); intro gb101 hg w13 hbox hb; have n0_ := Zs0.mk (blT zB hb); have n1_ := Zs0.mk (hbox); have n2_ := Zs0.mk (zs hg : w.heap.size ≤ gb101); have n3_ := Zs0.mk (zs hg : w.heap.size ≤ gb101); revert n0_ n1_ n2_ n3_; clear HB; intro HB BK101 GW101 GE101; clear hb hbox hg) | ((with_reducible refine gtD (N := 6) rfl ?_); refine Kd.R_lit Kd.bool _ 4 ?hg (N := 6) ?hd (xs := ([] : List Bool)) (inner := []) (ok := fun _ => True) (okp := fun _ => True) ?hr ?hp (fun _ hk => hk) trivial (Below.refl _ _) (Nat.le_refl _) (by simp) ?_; (case hd => rfl); (case hg => rfl); (case hr => first | (go_simp; done) | (go_simp; rfl)); (case hp => exact (Reps.none _ _)); intro v103 w14 ho15 hb hg_ hnew_; clear hg_ hnew_; (first | rw [← Ny102.out] at ho15 | (simp only [Int.reduceToNat] at ho15; rw [← Ny102.out] at ho15)); have n0_ := Zs0.mk (Kd.R_lower ho15 (blZ zB)); have n1_ := Zs0.mk (bkB (zG BK101.out) hb); have n2_ := Zs0.mk (blT zB hb); revert n0_ n1_ n2_; clear BK101 HB; intro HO104 BK101 HB; clear hb ho15) | ((with_reducible refine gate_builtin (b := .append) (xs := #[.tmp 6, .tmp 7]) rfl ?_); at_builtin; refine Kd.R_append_rows Kd.bool (w0 := w) w.heap.size rfl (.tmp 6) (.tmp 7) 54 4 (.bool false) 1 rfl Try.underlying54 info4 rfl (by decide) (by omega) v103 y102 l1 _ _ _ (fun _ => True) (fun _ => False) rfl rfl ?aO ?aR (fun _ _ h => h) (fun _ h => h.elim) ?aF ?aB ?aS ?aL ?_; (case aR => exact zC HR1.out); (case aB => exact zB); (case aF => exact (fun _ _ => trivial)); (case aO => exact (zR HO104.out)); (case aS => exact (blZ zB)); (case aL => have := LMc3.out; omega); intro v106 w16 ho hb hg hat; rw [← Ny105.out] at ho; have n0_ := Zs0.mk (blk_grown (zG BK101.out) hg (Kd.R_ne HO104.out BK101.out (by decide))); have n1_ := Zs0.mk (hb); have n2_ := Zs0.mk (ho); revert n0_ n1_ n2_; clear BK101 HB HO104; intro BK101 HB HO107; clear ho hb hg hat; obtain ⟨hcz17_0, hcz17_1, hcz17_2, hcz17_3, hcz17_4, hfz17_0, hfz17_1, hfz17_2, hfz17_3, hfz17_4⟩ := bx5 BK101.out; have p12 : 0 ≤ (a0_2 : Int) := zD; have q12 : (a0_2 : Int) < ((y105.length : Int) : Int) := zD; obtain ⟨go12, co12, eo12, gb12, gl12, cl12, HG12⟩ := Kd.R_form HO107.out (by omega); (first | cases eo12 | (injection eo12 with ea_ en_ ec_; (first | subst ea_ | (injection ea_ with ea_; subst ea_)); subst ec_; clear en_)); have GB12 := Zs0.mk gb12; have GG12 := Zs0.mk HG12; clear gb12 gl12 HG12; obtain ⟨hx12_0, hf12_0⟩ := Kd.R_celln false HO107.out (a0_2 : Int) p12 q12; replace p12 := eq_true p12; replace q12 := eq_true q12; obtain ⟨hy18_, hz18_⟩ := Kd.R_celln false HO107.out (a0_2 : Int) zD zD; have HP18 := Kd.R_putg HO107.out (a0_2 : Int) true) | ((with_reducible refine gate_store (t := 4) (p := 15) rfl ?_); refine store_event (t := 4) (p := 15) (v := ?vo_w19) (w1 := (w16.setCell ⟨go12, (a0_2 : Int).toNat, none⟩ (.bool true))) ?hg ?ho ?hn ?hr ?_; (case ho => rfl); (case hg => rfl); (case hn => rfl); (case hr => first | (go_simp; done) | (go_simp; rfl)); intro w19 hw; have hg : w16.grownBy w19 (some go12) := (by rw [hw]; exact HP18.2); have hp_ : Kd.R Kd.bool 4 w19 w.heap.size (fun _ => True) (.slice (some ⟨go12, 0, none⟩) y105.length co12) y108 := (by rw [hw, Ny108.out]; exact HP18.1); clear HP18; have n0_ := Zs0.mk (blk_grown (zG BK101.out) hg (Kd.R_ne HO107.out BK101.out (by decide))); have n1_ := Zs0.mk (hp_); have n2_ := Zs0.mk ((by rw [hw]; exact blS (HB.out) GB12.out : Below w.heap.size w w19)); revert n0_ n1_ n2_; clear BK101 HO107 HB; intro BK101 HO107 HB; clear hg hw hp_))
  go_ret
  exact ⟨_, zr, by (with_reducible repeat (first | apply Kd.rA1 | apply Kd.rD1 | apply Kd.rD2)); exact HO107.out, zB⟩

end Go.Proofs.Ytcbpbnkoolpibaa.P
namespace Go.Proofs.Ytcbpbnkoolpibaa.P
open Go.RowKit Go.Proofs.YtcbpbnkoolpibaaW.PrintWords Go.Proofs.YtcbpbnkoolpibaaW.PrintLast Go.Proofs.YtcbpbnkoolpibaaW.PrintMore
attribute [local go_sem] max2_int min2_int max_two min_two max_three min_three max_four min_four   -- for this text's walks alone
set_option linter.unusedVariables false
set_option linter.unusedSimpArgs false

/-! ### spec_l07Def: function 64 -/
def spec_l07Def.f (a0_0 : Int) (a0_1 : Int) (a0_2 : Int) (a0_3 : Int) (a0_4 : Int) (a0_5 : Int) (a0_6 : ByteArray) : Option (Bool) := if a0_0 = 4 then (some false) else (some (a0_0 != 6))
set_option maxHeartbeats 8000000 in
set_option maxRecDepth 100000 in
theorem spec_l07Def.calls (a0_0 : Int) (a0_1 : Int) (a0_2 : Int) (a0_3 : Int) (a0_4 : Int) (a0_5 : Int) (a0_6 : ByteArray) (r : Bool) (w : World) (h : spec_l07Def.f a0_0 a0_1 a0_2 a0_3 a0_4 a0_5 a0_6 = some r) :
  Calls Try.prog 64 #[.agg #[.int .i64 a0_0, .int .i64 a0_1, .int .i64 a0_2, .int .i64 a0_3, .int .i64 a0_4, .int .i64 a0_5, .string a0_6]] w fun e w' => e = .returned (.bool r) ∧ Below w.heap.size w w' := by
 have hu57 := Try.underlying57
 have HB := Zs0.mk (Below.refl w.heap.size w)
 have H : (if a0_0 = 4 then (some false) else (some (a0_0 != 6))) = some r := h
 clear h
 by_cases c2 : a0_0 = 4
 ·rw [if_pos c2] at H
  have c2b0 : (a0_0 == 4) = true := beq_iff_eq.mpr c2
  have c2b1 : (a0_0 != 4) = false := bne_eq_false_iff_eq.mpr c2
  clear c2
  obtain rfl := Option.some.inj H
  go_enter Try.func64, Try.ntmps64
  go_wp2_with (first | ((with_reducible refine gtD (N := 1) rfl ?_); refine bxE ?hg (N := 1) ?hd (cs := #[.int .i64 a0_0, .int .i64 a0_1, .int .i64 a0_2, .int .i64 a0_3, .int .i64 a0_4, .int .i64 a0_5, .string a0_6]) (t := 57) ?hr ?_; (case hd => rfl); (case hg => rfl); (case hr => first | (go_simp; done) | (go_simp; rfl)); intro gb101 hg w3 hbox hb; have n0_ := Zs0.mk (blT zB hb); have n1_ := Zs0.mk (hbox); have n2_ := Zs0.mk (zs hg : w.heap.size ≤ gb101); have n3_ := Zs0.mk (zs hg : w.heap.size ≤ gb101); revert n0_ n1_ n2_ n3_; clear HB; intro HB BK101 GW101 GE101; clear hb hbox hg; obtain ⟨hcz4_0, hcz4_1, hcz4_2, hcz4_3, hcz4_4, hcz4_5, hcz4_6, hfz4_0, hfz4_1, hfz4_2, hfz4_3, hfz4_4, hfz4_5, hfz4_6⟩ := bx7 BK101.out))
  go_ret
  exact ⟨zr, zB⟩
 ·rw [if_neg c2] at H
  have c2b0 : (a0_0 == 4) = false := beq_eq_false_iff_ne.mpr c2
  have c2b1 : (a0_0 != 4) = true := bne_iff_ne.mpr c2
  obtain rfl := Option.some.inj H
  go_enter Try.func64, Try.ntmps64
  go_wp2_with (first | ((with_reducible refine gtD (N := 1) rfl ?_); refine bxE ?hg (N := 1) ?hd (cs := #[.int .i64 a0_0, .int .i64 a0_1, .int .i64 a0_2, .int .i64 a0_3, .int .i64 a0_4, .int .i64 a0_5, .string a0_6]) (t := 57) ?hr ?_; (case hd => rfl); (case hg => rfl); (case hr => first | (go_simp; done) | (go_simp; rfl)); intro gb101 hg w5 hbox hb; have n0_ := Zs0.mk (blT zB hb); have n1_ := Zs0.mk (hbox); have n2_ := Zs0.mk (zs hg : w.heap.size ≤ gb101); have n3_ := Zs0.mk (zs hg : w.heap.size ≤ gb101); revert n0_ n1_ n2_ n3_; clear HB; intro HB BK101 GW101 GE101; clear hb hbox hg; obtain ⟨hcz6_0, hcz6_1, hcz6_2, hcz6_3, hcz6_4, hcz6_5, hcz6_6, hfz6_0, hfz6_1, hfz6_2, hfz6_3, hfz6_4, hfz6_5, hfz6_6⟩ := bx7 BK101.out))
  go_ret
  exact ⟨zr, zB⟩

end Go.Proofs.Ytcbpbnkoolpibaa.P
namespace Go.Proofs.Ytcbpbnkoolpibaa.P
open Go.RowKit Go.Proofs.YtcbpbnkoolpibaaW.PrintWords Go.Proofs.YtcbpbnkoolpibaaW.PrintLast Go.Proofs.YtcbpbnkoolpibaaW.PrintMore
attribute [local go_sem] max2_int min2_int max_two min_two max_three min_three max_four min_four   -- for this text's walks alone
set_option linter.unusedVariables false
set_option linter.unusedSimpArgs false

/-! ### spec_Uses: function 65 -/
mutual
def spec_Uses.j0 : Nat → Int → Bool → Int → Int → Int → Int → Int → Int → ByteArray → Option (List Int)
  | 0, _, _, _, _, _, _, _, _, _ => none
  | k + 1, x5, x6, x102000, x102001, x102002, x102003, x102004, x102005, x102006 => if x6 = true then (some (([x102002] : List Int))) else (if x5 = 2 then (some (([x102002, x102003] : List Int))) else (if x5 = 3 then (spec_Uses.j1 k (x5 == 3) x102000 x102001 x102002 x102003 x102004 x102005 x102006) else (spec_Uses.j1 k (x5 == 4) x102000 x102001 x102002 x102003 x102004 x102005 x102006)))
def spec_Uses.j1 : Nat → Bool → Int → Int → Int → Int → Int → Int → ByteArray → Option (List Int)
  | 0, _, _, _, _, _, _, _, _ => none
  | k + 1, x19, x102000, x102001, x102002, x102003, x102004, x102005, x102006 => if x19 = true then ((some (([x102003] : List Int) : List Int)).bind fun y108 => (if x102002 ≥ 0 then (if y108.length < 17592186044416 then ((some (y108 ++ [x102002] : List Int)).bind fun y111 => (if x102000 = 4 then (if y111.length < 17592186044416 then (some (y111 ++ [x102004])) else (none)) else (some y111))) else (none)) else (if x102000 = 4 then (if y108.length < 17592186044416 then (some (y108 ++ [x102004])) else (none)) else (some y108)))) else (some (([] : List Int)))
end
def spec_Uses.f (k : Nat) (a0_0 : Int) (a0_1 : Int) (a0_2 : Int) (a0_3 : Int) (a0_4 : Int) (a0_5 : Int) (a0_6 : ByteArray) : Option (List Int) := if a0_0 = 1 then (spec_Uses.j0 k a0_0 (a0_0 == 1) a0_0 a0_1 a0_2 a0_3 a0_4 a0_5 a0_6) else (spec_Uses.j0 k a0_0 (a0_0 == 6) a0_0 a0_1 a0_2 a0_3 a0_4 a0_5 a0_6)
theorem spec_Uses.mono_l : ∀ k, (∀ y0 y1 y2 y3 y4 y5 y6 y7 y8, LeO (spec_Uses.j0 k y0 y1 y2 y3 y4 y5 y6 y7 y8) (spec_Uses.j0 (k + 1) y0 y1 y2 y3 y4 y5 y6 y7 y8)) ∧ (∀ y0 y1 y2 y3 y4 y5 y6 y7, LeO (spec_Uses.j1 k y0 y1 y2 y3 y4 y5 y6 y7) (spec_Uses.j1 (k + 1) y0 y1 y2 y3 y4 y5 y6 y7))
  | 0 => ⟨fun _ _ _ _ _ _ _ _ _ r h => by simp [spec_Uses.j0] at h, fun _ _ _ _ _ _ _ _ r h => by simp [spec_Uses.j1] at h⟩
  | k + 1 => by
    obtain ⟨ih0, ih1⟩ := spec_Uses.mono_l k
    refine ⟨?_, ?_⟩
    · intro y0 y1 y2 y3 y4 y5 y6 y7 y8
      unfold spec_Uses.j0
      repeat' first
      | (with_reducible exact ih0 _ _ _ _ _ _ _ _ _)
      | (with_reducible exact ih1 _ _ _ _ _ _ _ _)
      | (with_reducible exact LeO.refl _)
      | (with_reducible exact LeO.none _)
      | (with_reducible refine LeO.ite ?_ ?_)
      | (with_reducible refine LeO.bind ?_ (fun _ => ?_))
      | exact ih0 _ _ _ _ _ _ _ _ _
      | exact ih1 _ _ _ _ _ _ _ _
      | exact LeO.none _
      | refine LeO.ite ?_ ?_
      | refine LeO.bind ?_ (fun _ => ?_)
    · intro y0 y1 y2 y3 y4 y5 y6 y7
      unfold spec_Uses.j1
      repeat' first
      | (with_reducible exact ih0 _ _ _ _ _ _ _ _ _)
      | (with_reducible exact ih1 _ _ _ _ _ _ _ _)
      | (with_reducible exact LeO.refl _)
      | (with_reducible exact LeO.none _)
      | (with_reducible refine LeO.ite ?_ ?_)
      | (with_reducible refine LeO.bind ?_ (fun _ => ?_))
      | exact ih0 _ _ _ _ _ _ _ _ _
      | exact ih1 _ _ _ _ _ _ _ _
      | exact LeO.none _
      | refine LeO.ite ?_ ?_
      | refine LeO.bind ?_ (fun _ => ?_)
theorem spec_Uses.mono : ∀ a0 a1 a2 a3 a4 a5 a6 k, LeO (spec_Uses.f k a0 a1 a2 a3 a4 a5 a6) (spec_Uses.f (k + 1) a0 a1 a2 a3 a4 a5 a6) := by
  intro a0 a1 a2 a3 a4 a5 a6 k
  obtain ⟨ih0, ih1⟩ := spec_Uses.mono_l k
  unfold spec_Uses.f
  repeat' first
      | (with_reducible exact ih0 _ _ _ _ _ _ _ _ _)
      | (with_reducible exact ih1 _ _ _ _ _ _ _ _)
      | (with_reducible exact LeO.refl _)
      | (with_reducible exact LeO.none _)
      | (with_reducible refine LeO.ite ?_ ?_)
      | (with_reducible refine LeO.bind ?_ (fun _ => ?_))
      | exact ih0 _ _ _ _ _ _ _ _ _
      | exact ih1 _ _ _ _ _ _ _ _
      | exact LeO.none _
      | refine LeO.ite ?_ ?_
      | refine LeO.bind ?_ (fun _ => ?_)
set_option maxHeartbeats 8000000 in
set_option maxRecDepth 100000 in
theorem spec_Uses.calls (k : Nat) (a0_0 : Int) (a0_1 : Int) (a0_2 : Int) (a0_3 : Int) (a0_4 : Int) (a0_5 : Int) (a0_6 : ByteArray) (r : List Int) (w : World) (h : spec_Uses.f k a0_0 a0_1 a0_2 a0_3 a0_4 a0_5 a0_6 = some r) :
  Calls Try.prog 65 #[.agg #[.int .i64 a0_0, .int .i64 a0_1, .int .i64 a0_2, .int .i64 a0_3, .int .i64 a0_4, .int .i64 a0_5, .string a0_6]] w fun e w' => ∃ v0_ : Value, e = .returned (v0_) ∧ Kd.R (Kd.int .i64) 3 w' w.heap.size (fun _ => True) v0_ r ∧ Below w.heap.size w w' := by
 have hu57 := Try.underlying57
 have HB := Zs0.mk (Below.refl w.heap.size w)
 have H : (if a0_0 = 1 then (spec_Uses.j0 k a0_0 (a0_0 == 1) a0_0 a0_1 a0_2 a0_3 a0_4 a0_5 a0_6) else (spec_Uses.j0 k a0_0 (a0_0 == 6) a0_0 a0_1 a0_2 a0_3 a0_4 a0_5 a0_6)) = some r := h
 clear h
 have HC2 := Zs0.mk H
 clear H
 go_enter Try.func65, Try.ntmps65
 go_upto_if 6 with (first | ((with_reducible refine gtD (N := 1) rfl ?_); refine bxE ?hg (N := 1) ?hd (cs := #[.int .i64 a0_0, .int .i64 a0_1, .int .i64 a0_2, .int .i64 a0_3, .int .i64 a0_4, .int .i64 a0_5, .string a0_6]) (t := 57) ?hr ?_; (case hd => rfl); (case hg => rfl); (case hr => first | (go_simp; done) | (go_simp; rfl)); intro gb101 hg w3 hbox hb; have n0_ := Zs0.mk (blT zB hb); have n1_ := Zs0.mk (hbox); have n2_ := Zs0.mk (zs hg : w.heap.size ≤ gb101); have n3_ := Zs0.mk (zs hg : w.heap.size ≤ gb101); revert n0_ n1_ n2_ n3_; clear HB; intro HB BK101 GW101 GE101; clear hb hbox hg; obtain ⟨hcz4_0, hcz4_1, hcz4_2, hcz4_3, hcz4_4, hcz4_5, hcz4_6, hfz4_0, hfz4_1, hfz4_2, hfz4_3, hfz4_4, hfz4_5, hfz4_6⟩ := bx7 BK101.out))
 (try simp only [Act.put, List.setIfInBounds_toArray, List.set_cons_zero, List.set_cons_succ])
 go_cut [6] (fun v6 wc => ∃ (kq : Nat) (x6_1 : Bool), v6 = .bool x6_1 ∧ Zs0 (spec_Uses.j0 kq a0_0 x6_1 a0_0 a0_1 a0_2 a0_3 a0_4 a0_5 a0_6 = some r) ∧ Zs0 (kq ≤ k) ∧ Zs0 (wc.heap[gb101]? = some (.cells #[.int .i64 a0_0, .int .i64 a0_1, .int .i64 a0_2, .int .i64 a0_3, .int .i64 a0_4, .int .i64 a0_5, .string a0_6] 57 (0, 0))) ∧ Zs0 (Below w.heap.size w wc))
 case first =>
  have H := HC2.out
  clear HC2
  by_cases c5 : a0_0 = 1
  ·rw [if_pos c5] at H
   have c5b0 : (a0_0 == 1) = true := beq_iff_eq.mpr c5
   have c5b1 : (a0_0 != 1) = false := bne_eq_false_iff_eq.mpr c5
   clear c5
   (first | rw [c5b0] | (simp only [i64_w, i32_w]; rw [c5b0]) | skip)
   have H' := Zs0.mk H
   clear H
   go_wp2
   go_meet
   case rel => exact ⟨_, ((a0_0 == 1)), zq, H', ⟨by first | omega | exact Nat.le_refl _⟩, ⟨zG BK101.out⟩, ⟨zB⟩⟩
  ·rw [if_neg c5] at H
   have c5b0 : (a0_0 == 1) = false := beq_eq_false_iff_ne.mpr c5
   have c5b1 : (a0_0 != 1) = true := bne_iff_ne.mpr c5
   (first | rw [c5b0] | (simp only [i64_w, i32_w]; rw [c5b0]) | skip)
   have H' := Zs0.mk H
   clear H
   go_wp2
   go_meet
   case rel => exact ⟨_, ((a0_0 == 6)), zq, H', ⟨by first | omega | exact Nat.le_refl _⟩, ⟨zG BK101.out⟩, ⟨zB⟩⟩
 case rest =>
  clear HC2
  try clear p2
  try clear c5
  try clear c5b0
  try clear c5b1
  try clear hcz4_0 hcz4_1 hcz4_2 hcz4_3 hcz4_4 hcz4_5 hcz4_6 hfz4_0 hfz4_1 hfz4_2 hfz4_3 hfz4_4 hfz4_5 hfz4_6
  obtain ⟨kq, x6_1, rfl, HA, HJ1, BK101, HB⟩ := hcut
  cases kq with
  | zero => exact absurd HA.out (by simp [spec_Uses.j0])
  | succ kj1 =>
   have H := HA.out
   clear HA
   simp only [spec_Uses.j0] at H
   by_cases c6 : x6_1 = true
   ·subst c6
    have H1 : (some (([a0_2] : List Int))) = some r := by rw [if_pos rfl] at H; exact H
    clear H
    have H := H1
    clear H1
    obtain ⟨y102, hy102⟩ : ∃ y_ : List Int, y_ = (([a0_2] : List Int)) := ⟨_, rfl⟩
    replace H : (some y102) = some r := by first | (rw [hy102]; with_reducible exact H) | (have H2_ := (Option.bind_some _ _).symm.trans H; rw [hy102]; with_reducible exact H2_) | (have H2_ := (Option.bind_some _ _).symm.trans H; with_reducible exact H2_) | with_reducible exact H | (rw [hy102]; exact H) | exact H
    have Ny102 := Zs0.mk hy102
    clear hy102
    obtain rfl := Option.some.inj H
    obtain ⟨hcz7_0, hcz7_1, hcz7_2, hcz7_3, hcz7_4, hcz7_5, hcz7_6, hfz7_0, hfz7_1, hfz7_2, hfz7_3, hfz7_4, hfz7_5, hfz7_6⟩ := bx7 BK101.out
    go_wp2_with (first | ((with_reducible refine gtD (N := 11) rfl ?_); refine Kd.R_lit (Kd.int .i64) _ 3 ?hg (N := 11) ?hd (xs := ([a0_2] : List Int)) (inner := [.int .i64 a0_2]) (ok := fun _ => True) (okp := fun _ => True) ?hr ?hp (fun _ hk => hk) trivial (Below.refl _ _) (Nat.le_refl _) (by simp) ?_; (case hd => rfl); (case hg => rfl); (case hr => first | (go_simp; done) | (go_simp; rfl)); (case hp => exact (Reps.one (show Kd.M (Kd.int .i64) _ _ _ a0_2 [.int .i64 a0_2] from rfl) (Reps.none _ _))); intro v103 w8 ho9 hb hg_ hnew_; clear hg_ hnew_; (first | rw [← Ny102.out] at ho9 | (simp only [Int.reduceToNat] at ho9; rw [← Ny102.out] at ho9)); have n0_ := Zs0.mk (Kd.R_lower ho9 (blZ zB)); have n1_ := Zs0.mk (bkB (zG BK101.out) hb); have n2_ := Zs0.mk (blT zB hb); revert n0_ n1_ n2_; clear BK101 HB; intro HO104 BK101 HB; clear hb ho9))
    go_ret
    exact ⟨_, zr, by (with_reducible repeat (first | apply Kd.rA1 | apply Kd.rD1 | apply Kd.rD2)); exact HO104.out, zB⟩
   ·replace c6 := Bool.eq_false_iff.mpr c6
    subst c6
    have H1 : (if a0_0 = 2 then (some (([a0_2, a0_3] : List Int))) else (if a0_0 = 3 then (spec_Uses.j1 kj1 (a0_0 == 3) a0_0 a0_1 a0_2 a0_3 a0_4 a0_5 a0_6) else (spec_Uses.j1 kj1 (a0_0 == 4) a0_0 a0_1 a0_2 a0_3 a0_4 a0_5 a0_6))) = some r := by rw [if_neg (show ¬ (false = true) by decide)] at H; exact H
    clear H
    have H := H1
    clear H1
    by_cases c10 : a0_0 = 2
    ·rw [if_pos c10] at H
     have c10b0 : (a0_0 == 2) = true := beq_iff_eq.mpr c10
     have c10b1 : (a0_0 != 2) = false := bne_eq_false_iff_eq.mpr c10
     clear c10
     obtain ⟨y105, hy105⟩ : ∃ y_ : List Int, y_ = (([a0_2, a0_3] : List Int)) := ⟨_, rfl⟩
     replace H : (some y105) = some r := by first | (rw [hy105]; with_reducible exact H) | (have H2_ := (Option.bind_some _ _).symm.trans H; rw [hy105]; with_reducible exact H2_) | (have H2_ := (Option.bind_some _ _).symm.trans H; with_reducible exact H2_) | with_reducible exact H | (rw [hy105]; exact H) | exact H
     have Ny105 := Zs0.mk hy105
     clear hy105
     obtain rfl := Option.some.inj H
     obtain ⟨hcz11_0, hcz11_1, hcz11_2, hcz11_3, hcz11_4, hcz11_5, hcz11_6, hfz11_0, hfz11_1, hfz11_2, hfz11_3, hfz11_4, hfz11_5, hfz11_6⟩ := bx7 BK101.out
     go_wp2_with (first | ((with_reducible refine gtD (N := 18) rfl ?_); refine Kd.R_lit (Kd.int .i64) _ 3 ?hg (N := 18) ?hd (xs := ([a0_2, a0_3] : List Int)) (inner := [.int .i64 a0_2, .int .i64 a0_3]) (ok := fun _ => True) (okp := fun _ => True) ?hr ?hp (fun _ hk => hk) trivial (Below.refl _ _) (Nat.le_refl _) (by simp) ?_; (case hd => rfl); (case hg => rfl); (case hr => first | (go_simp; done) | (go_simp; rfl)); (case hp => exact (Reps.one (show Kd.M (Kd.int .i64) _ _ _ a0_2 [.int .i64 a0_2] from rfl) (Reps.one (show Kd.M (Kd.int .i64) _ _ _ a0_3 [.int .i64 a0_3] from rfl) (Reps.none _ _)))); intro v106 w12 ho13 hb hg_ hnew_; clear hg_ hnew_; (first | rw [← Ny105.out] at ho13 | (simp only [Int.reduceToNat] at ho13; rw [← Ny105.out] at ho13)); have n0_ := Zs0.mk (Kd.R_lower ho13 (blZ zB)); have n1_ := Zs0.mk (bkB (zG BK101.out) hb); have n2_ := Zs0.mk (blT zB hb); revert n0_ n1_ n2_; clear BK101 HB; intro HO107 BK101 HB; clear hb ho13))
     go_ret
     exact ⟨_, zr, by (with_reducible repeat (first | apply Kd.rA1 | apply Kd.rD1 | apply Kd.rD2)); exact HO107.out, zB⟩
    ·rw [if_neg c10] at H
     have c10b0 : (a0_0 == 2) = false := beq_eq_false_iff_ne.mpr c10
     have c10b1 : (a0_0 != 2) = true := bne_iff_ne.mpr c10
     have HC14 := Zs0.mk H
     clear H
     go_upto_if 19 with (fail)
     go_cut [19] (fun v19 wc => ∃ (kq : Nat) (x19_13 : Bool), v19 = .bool x19_13 ∧ Zs0 (spec_Uses.j1 kq x19_13 a0_0 a0_1 a0_2 a0_3 a0_4 a0_5 a0_6 = some r) ∧ Zs0 (kq ≤ kj1) ∧ Zs0 (wc.heap[gb101]? = some (.cells #[.int .i64 a0_0, .int .i64 a0_1, .int .i64 a0_2, .int .i64 a0_3, .int .i64 a0_4, .int .i64 a0_5, .string a0_6] 57 (0, 0))) ∧ Zs0 (Below w.heap.size w wc))
     case first =>
      have H := HC14.out
      clear HC14
      by_cases c15 : a0_0 = 3
      ·rw [if_pos c15] at H
       have c15b0 : (a0_0 == 3) = true := beq_iff_eq.mpr c15
       have c15b1 : (a0_0 != 3) = false := bne_eq_false_iff_eq.mpr c15
       clear c15
       (first | rw [c15b0] | (simp only [i64_w, i32_w]; rw [c15b0]) | skip)
       have H' := Zs0.mk H
       clear H
       go_wp2
       go_meet
       case rel => exact ⟨_, ((a0_0 == 3)), zq, H', ⟨by have := HJ1.out; first | omega | exact Nat.le_refl _⟩, ⟨zG BK101.out⟩, ⟨zB⟩⟩
      ·rw [if_neg c15] at H
       have c15b0 : (a0_0 == 3) = false := beq_eq_false_iff_ne.mpr c15
       have c15b1 : (a0_0 != 3) = true := bne_iff_ne.mpr c15
       (first | rw [c15b0] | (simp only [i64_w, i32_w]; rw [c15b0]) | skip)
       have H' := Zs0.mk H
       clear H
       go_wp2
       go_meet
       case rel => exact ⟨_, ((a0_0 == 4)), zq, H', ⟨by have := HJ1.out; first | omega | exact Nat.le_refl _⟩, ⟨zG BK101.out⟩, ⟨zB⟩⟩
     case rest =>
      clear HC14
      try clear c1
      try clear p2
      try clear c5
      try clear c5b0
      try clear c5b1
      try clear c6
      try clear c10
      try clear c10b0
      try clear c10b1
      try clear c15
      try clear c15b0
      try clear c15b1
      try clear hcz11_0 hcz11_1 hcz11_2 hcz11_3 hcz11_4 hcz11_5 hcz11_6
      try clear hcz4_0 hcz4_1 hcz4_2 hcz4_3 hcz4_4 hcz4_5 hcz4_6
      try clear hcz7_0 hcz7_1 hcz7_2 hcz7_3 hcz7_4 hcz7_5 hcz7_6
      try clear hfz11_0 hfz11_1 hfz11_2 hfz11_3 hfz11_4 hfz11_5 hfz11_6
      try clear hfz4_0 hfz4_1 hfz4_2 hfz4_3 hfz4_4 hfz4_5 hfz4_6
      try clear hfz7_0 hfz7_1 hfz7_2 hfz7_3 hfz7_4 hfz7_5 hfz7_6
      try clear p2
      obtain ⟨kq, x19_13, rfl, HA, HJ13, BK101, HB⟩ := hcut
      cases kq with
      | zero => exact absurd HA.out (by simp [spec_Uses.j1])
      | succ kj13 =>
       have H := HA.out
       clear HA
       simp only [spec_Uses.j1] at H
       by_cases c16 : x19_13 = true
       ·subst c16
        have H1 : ((some (([a0_3] : List Int) : List Int)).bind fun y108 => (if a0_2 ≥ 0 then (if y108.length < 17592186044416 then ((some (y108 ++ [a0_2] : List Int)).bind fun y111 => (if a0_0 = 4 then (if y111.length < 17592186044416 then (some (y111 ++ [a0_4])) else (none)) else (some y111))) else (none)) else (if a0_0 = 4 then (if y108.length < 17592186044416 then (some (y108 ++ [a0_4])) else (none)) else (some y108)))) = some r := by rw [if_pos rfl] at H; exact H
        clear H
        have H := H1
        clear H1
        obtain ⟨y108, hy108⟩ : ∃ y_ : List Int, y_ = (([a0_3] : List Int)) := ⟨_, rfl⟩
        replace H : (if a0_2 ≥ 0 then (if y108.length < 17592186044416 then ((some (y108 ++ [a0_2] : List Int)).bind fun y111 => (if a0_0 = 4 then (if y111.length < 17592186044416 then (some (y111 ++ [a0_4])) else (none)) else (some y111))) else (none)) else (if a0_0 = 4 then (if y108.length < 17592186044416 then (some (y108 ++ [a0_4])) else (none)) else (some y108))) = some r := by first | (rw [hy108]; with_reducible exact H) | (have H2_ := (Option.bind_some _ _).symm.trans H; rw [hy108]; with_reducible exact H2_) | (have H2_ := (Option.bind_some _ _).symm.trans H; with_reducible exact H2_) | with_reducible exact H | (rw [hy108]; exact H) | exact H
        have Ny108 := Zs0.mk hy108
        clear hy108
        by_cases c17 : a0_2 ≥ 0
        ·rw [if_pos c17] at H
         have c17b0 : decide (0 ≤ a0_2) = true := decide_eq_true c17
         clear c17
         have c18 := ipos H
         rw [if_pos c18] at H
         have LMc18 := Zs0.mk c18
         clear c18
         obtain ⟨y111, hy111⟩ : ∃ y_ : List Int, y_ = (y108 ++ [a0_2]) := ⟨_, rfl⟩
         replace H : (if a0_0 = 4 then (if y111.length < 17592186044416 then (some (y111 ++ [a0_4])) else (none)) else (some y111)) = some r := by first | (rw [hy111]; with_reducible exact H) | (have H2_ := (Option.bind_some _ _).symm.trans H; rw [hy111]; with_reducible exact H2_) | (have H2_ := (Option.bind_some _ _).symm.trans H; with_reducible exact H2_) | with_reducible exact H | (rw [hy111]; exact H) | exact H
         have Ny111 := Zs0.mk hy111
         clear hy111
         by_cases c19 : a0_0 = 4
         ·rw [if_pos c19] at H
          have c19b0 : (a0_0 == 4) = true := beq_iff_eq.mpr c19
          have c19b1 : (a0_0 != 4) = false := bne_eq_false_iff_eq.mpr c19
          clear c19
          have c20 := ipos H
          rw [if_pos c20] at H
          have LMc20 := Zs0.mk c20
          clear c20
          obtain ⟨y114, hy114⟩ : ∃ y_ : List Int, y_ = (y111 ++ [a0_4]) := ⟨_, rfl⟩
          replace H : (some y114) = some r := by first | (rw [hy114]; with_reducible exact H) | (have H2_ := (Option.bind_some _ _).symm.trans H; rw [hy114]; with_reducible exact H2_) | (have H2_ := (Option.bind_some _ _).symm.trans H; with_reducible exact H2_) | with_reducible exact H | (rw [hy114]; exact H) | exact H
          have Ny114 := Zs0.mk hy114
          clear hy114
          obtain rfl := Option.some.inj H
          obtain ⟨hcz21_0, hcz21_1, hcz21_2, hcz21_3, hcz21_4, hcz21_5, hcz21_6, hfz21_0, hfz21_1, hfz21_2, hfz21_3, hfz21_4, hfz21_5, hfz21_6⟩ := bx7 BK101.out
          go_wp2_with (first | ((with_reducible refine gtD (N := 24) rfl ?_); refine Kd.R_lit (Kd.int .i64) _ 3 ?hg (N := 24) ?hd (xs := ([a0_3] : List Int)) (inner := [.int .i64 a0_3]) (ok := fun _ => True) (okp := fun _ => True) ?hr ?hp (fun _ hk => hk) trivial (Below.refl _ _) (Nat.le_refl _) (by simp) ?_; (case hd => rfl); (case hg => rfl); (case hr => first | (go_simp; done) | (go_simp; rfl)); (case hp => exact (Reps.one (show Kd.M (Kd.int .i64) _ _ _ a0_3 [.int .i64 a0_3] from rfl) (Reps.none _ _))); intro v109 w22 ho23 hb hg_ hnew_; clear hg_ hnew_; (first | rw [← Ny108.out] at ho23 | (simp only [Int.reduceToNat] at ho23; rw [← Ny108.out] at ho23)); have n0_ := Zs0.mk (Kd.R_lower ho23 (blZ zB)); have n1_ := Zs0.mk (bkB (zG BK101.out) hb); have n2_ := Zs0.mk (blT zB hb); revert n0_ n1_ n2_; clear BK101 HB; intro HO110 BK101 HB; clear hb ho23; obtain ⟨hcz24_0, hcz24_1, hcz24_2, hcz24_3, hcz24_4, hcz24_5, hcz24_6, hfz24_0, hfz24_1, hfz24_2, hfz24_3, hfz24_4, hfz24_5, hfz24_6⟩ := bx7 BK101.out) | ((with_reducible refine gate_builtin (b := .append) (xs := #[.tmp 28, .tmp 31]) rfl ?_); at_builtin; refine Kd.R_append (Kd.int .i64) (w0 := w) w.heap.size rfl (.tmp 28) (.tmp 31) 22 3 (.int .i64 0) 8 rfl Try.underlying22 info3 rfl (by decide) (by omega) v109 y108 a0_2 [.int .i64 a0_2] (fun _ => True) (fun _ => False) rfl rfl ?aP (fun _ hk => hk.elim) ?aF ?aO ?aB ?aS ?aL ?_; (case aP => exact rfl); (case aB => exact zB); (case aF => exact (fun _ _ => trivial)); (case aO => exact (zR HO110.out)); (case aS => exact (blZ zB)); (case aL => have := LMc18.out; omega); intro v112 w25 ho hb hg hat; rw [← Ny111.out] at ho; have n0_ := Zs0.mk (blk_grown (zG BK101.out) hg (Kd.R_ne HO110.out BK101.out (by decide))); have n1_ := Zs0.mk (hb); have n2_ := Zs0.mk (ho); revert n0_ n1_ n2_; clear BK101 HB HO110; intro BK101 HB HO113; clear ho hb hg hat; obtain ⟨hcz26_0, hcz26_1, hcz26_2, hcz26_3, hcz26_4, hcz26_5, hcz26_6, hfz26_0, hfz26_1, hfz26_2, hfz26_3, hfz26_4, hfz26_5, hfz26_6⟩ := bx7 BK101.out) | ((with_reducible refine gate_builtin (b := .append) (xs := #[.tmp 36, .tmp 39]) rfl ?_); at_builtin; refine Kd.R_append (Kd.int .i64) (w0 := w) w.heap.size rfl (.tmp 36) (.tmp 39) 22 3 (.int .i64 0) 8 rfl Try.underlying22 info3 rfl (by decide) (by omega) v112 y111 a0_4 [.int .i64 a0_4] (fun _ => True) (fun _ => False) rfl rfl ?aP (fun _ hk => hk.elim) ?aF ?aO ?aB ?aS ?aL ?_; (case aP => exact rfl); (case aB => exact zB); (case aF => exact (fun _ _ => trivial)); (case aO => exact (zR HO113.out)); (case aS => exact (blZ zB)); (case aL => have := LMc20.out; omega); intro v115 w27 ho hb hg hat; rw [← Ny114.out] at ho; have n0_ := Zs0.mk (blk_grown (zG BK101.out) hg (Kd.R_ne HO113.out BK101.out (by decide))); have n1_ := Zs0.mk (hb); have n2_ := Zs0.mk (ho); revert n0_ n1_ n2_; clear BK101 HB HO113; intro BK101 HB HO116; clear ho hb hg hat))
          go_ret
          exact ⟨_, zr, by (with_reducible repeat (first | apply Kd.rA1 | apply Kd.rD1 | apply Kd.rD2)); exact HO116.out, zB⟩
         ·rw [if_neg c19] at H
          have c19b0 : (a0_0 == 4) = false := beq_eq_false_iff_ne.mpr c19
          have c19b1 : (a0_0 != 4) = true := bne_iff_ne.mpr c19
          obtain rfl := Option.some.inj H
          obtain ⟨hcz28_0, hcz28_1, hcz28_2, hcz28_3, hcz28_4, hcz28_5, hcz28_6, hfz28_0, hfz28_1, hfz28_2, hfz28_3, hfz28_4, hfz28_5, hfz28_6⟩ := bx7 BK101.out
          go_wp2_with (first | ((with_reducible refine gtD (N := 24) rfl ?_); refine Kd.R_lit (Kd.int .i64) _ 3 ?hg (N := 24) ?hd (xs := ([a0_3] : List Int)) (inner := [.int .i64 a0_3]) (ok := fun _ => True) (okp := fun _ => True) ?hr ?hp (fun _ hk => hk) trivial (Below.refl _ _) (Nat.le_refl _) (by simp) ?_; (case hd => rfl); (case hg => rfl); (case hr => first | (go_simp; done) | (go_simp; rfl)); (case hp => exact (Reps.one (show Kd.M (Kd.int .i64) _ _ _ a0_3 [.int .i64 a0_3] from rfl) (Reps.none _ _))); intro v109 w29 ho30 hb hg_ hnew_; clear hg_ hnew_; (first | rw [← Ny108.out] at ho30 | (simp only [Int.reduceToNat] at ho30; rw [← Ny108.out] at ho30)); have n0_ := Zs0.mk (Kd.R_lower ho30 (blZ zB)); have n1_ := Zs0.mk (bkB (zG BK101.out) hb); have n2_ := Zs0.mk (blT zB hb); revert n0_ n1_ n2_; clear BK101 HB; intro HO110 BK101 HB; clear hb ho30; obtain ⟨hcz31_0, hcz31_1, hcz31_2, hcz31_3, hcz31_4, hcz31_5, hcz31_6, hfz31_0, hfz31_1, hfz31_2, hfz31_3, hfz31_4, hfz31_5, hfz31_6⟩ := bx7 BK101.out) | ((with_reducible refine gate_builtin (b := .append) (xs := #[.tmp 28, .tmp 31]) rfl ?_); at_builtin; refine Kd.R_append (Kd.int .i64) (w0 := w) w.heap.size rfl (.tmp 28) (.tmp 31) 22 3 (.int .i64 0) 8 rfl Try.underlying22 info3 rfl (by decide) (by omega) v109 y108 a0_2 [.int .i64 a0_2] (fun _ => True) (fun _ => False) rfl rfl ?aP (fun _ hk => hk.elim) ?aF ?aO ?aB ?aS ?aL ?_; (case aP => exact rfl); (case aB => exact zB); (case aF => exact (fun _ _ => trivial)); (case aO => exact (zR HO110.out)); (case aS => exact (blZ zB)); (case aL => have := LMc18.out; omega); intro v112 w32 ho hb hg hat; rw [← Ny111.out] at ho; have n0_ := Zs0.mk (blk_grown (zG BK101.out) hg (Kd.R_ne HO110.out BK101.out (by decide))); have n1_ := Zs0.mk (hb); have n2_ := Zs0.mk (ho); revert n0_ n1_ n2_; clear BK101 HB HO110; intro BK101 HB HO113; clear ho hb hg hat; obtain ⟨hcz33_0, hcz33_1, hcz33_2, hcz33_3, hcz33_4, hcz33_5, hcz33_6, hfz33_0, hfz33_1, hfz33_2, hfz33_3, hfz33_4, hfz33_5, hfz33_6⟩ := bx7 BK101.out))
          go_ret
          exact ⟨_, zr, by (with_reducible repeat (first | apply Kd.rA1 | apply Kd.rD1 | apply Kd.rD2)); exact HO113.out, zB⟩
        ·rw [if_neg c17] at H
         have c17b0 : decide (0 ≤ a0_2) = false := decide_eq_false c17
         clear c17
         by_cases c34 : a0_0 = 4
         ·rw [if_pos c34] at H
          have c34b0 : (a0_0 == 4) = true := beq_iff_eq.mpr c34
          have c34b1 : (a0_0 != 4) = false := bne_eq_false_iff_eq.mpr c34
          clear c34
          have c35 := ipos H
          rw [if_pos c35] at H
          have LMc35 := Zs0.mk c35
          clear c35
          obtain ⟨y117, hy117⟩ : ∃ y_ : List Int, y_ = (y108 ++ [a0_4]) := ⟨_, rfl⟩
          replace H : (some y117) = some r := by first | (rw [hy117]; with_reducible exact H) | (have H2_ := (Option.bind_some _ _).symm.trans H; rw [hy117]; with_reducible exact H2_) | (have H2_ := (Option.bind_some _ _).symm.trans H; with_reducible exact H2_) | with_reducible exact H | (rw [hy117]; exact H) | exact H
          have Ny117 := Zs0.mk hy117
          clear hy117
          obtain rfl := Option.some.inj H
          obtain ⟨hcz36_0, hcz36_1, hcz36_2, hcz36_3, hcz36_4, hcz36_5, hcz36_6, hfz36_0, hfz36_1, hfz36_2, hfz36_3, hfz36_4, hfz36_5, hfz36_6⟩ := bx7 BK101.out
          go_wp2_with (first | ((with_reducible refine gtD (N := 24) rfl ?_); refine Kd.R_lit (Kd.int .i64) _ 3 ?hg (N := 24) ?hd (xs := ([a0_3] : List Int)) (inner := [.int .i64 a0_3]) (ok := fun _ => True) (okp := fun _ => True) ?hr ?hp (fun _ hk => hk) trivial (Below.refl _ _) (Nat.le_refl _) (by simp) ?_; (case hd => rfl); (case hg => rfl); (case hr => first | (go_simp; done) | (go_simp; rfl)); (case hp => exact (Reps.one (show Kd.M (Kd.int .i64) _ _ _ a0_3 [.int .i64 a0_3] from rfl) (Reps.none _ _))); intro v109 w37 ho38 hb hg_ hnew_; clear hg_ hnew_; (first | rw [← Ny108.out] at ho38 | (simp only [Int.reduceToNat] at ho38; rw [← Ny108.out] at ho38)); have n0_ := Zs0.mk (Kd.R_lower ho38 (blZ zB)); have n1_ := Zs0.mk (bkB (zG BK101.out) hb); have n2_ := Zs0.mk (blT zB hb); revert n0_ n1_ n2_; clear BK101 HB; intro HO110 BK101 HB; clear hb ho38; obtain ⟨hcz39_0, hcz39_1, hcz39_2, hcz39_3, hcz39_4, hcz39_5, hcz39_6, hfz39_0, hfz39_1, hfz39_2, hfz39_3, hfz39_4, hfz39_5, hfz39_6⟩ := bx7 BK101.out) | ((with_reducible refine gate_builtin (b := .append) (xs := #[.tmp 36, .tmp 39]) rfl ?_); at_builtin; refine Kd.R_append (Kd.int .i64) (w0 := w) w.heap.size rfl (.tmp 36) (.tmp 39) 22 3 (.int .i64 0) 8 rfl Try.underlying22 info3 rfl (by decide) (by omega) v109 y108 a0_4 [.int .i64 a0_4] (fun _ => True) (fun _ => False) rfl rfl ?aP (fun _ hk => hk.elim) ?aF ?aO ?aB ?aS ?aL ?_; (case aP => exact rfl); (case aB => exact zB); (case aF => exact (fun _ _ => trivial)); (case aO => exact (zR HO110.out)); (case aS => exact (blZ zB)); (case aL => have := LMc35.out; omega); intro v118 w40 ho hb hg hat; rw [← Ny117.out] at ho; have n0_ := Zs0.mk (blk_grown (zG BK101.out) hg (Kd.R_ne HO110.out BK101.out (by decide))); have n1_ := Zs0.mk (hb); have n2_ := Zs0.mk (ho); revert n0_ n1_ n2_; clear BK101 HB HO110; intro BK101 HB HO119; clear ho hb hg hat))
          go_ret
          exact ⟨_, zr, by (with_reducible repeat (first | apply Kd.rA1 | apply Kd.rD1 | apply Kd.rD2)); exact HO119.out, zB⟩
         ·rw [if_neg c34] at H
          have c34b0 : (a0_0 == 4) = false := beq_eq_false_iff_ne.mpr c34
          have c34b1 : (a0_0 != 4) = true := bne_iff_ne.mpr c34
          obtain rfl := Option.some.inj H
          obtain ⟨hcz41_0, hcz41_1, hcz41_2, hcz41_3, hcz41_4, hcz41_5, hcz41_6, hfz41_0, hfz41_1, hfz41_2, hfz41_3, hfz41_4, hfz41_5, hfz41_6⟩ := bx7 BK101.out
          go_wp2_with (first | ((with_reducible refine gtD (N := 24) rfl ?_); refine Kd.R_lit (Kd.int .i64) _ 3 ?hg (N := 24) ?hd (xs := ([a0_3] : List Int)) (inner := [.int .i64 a0_3]) (ok := fun _ => True) (okp := fun _ => True) ?hr ?hp (fun _ hk => hk) trivial (Below.refl _ _) (Nat.le_refl _) (by simp) ?_; (case hd => rfl); (case hg => rfl); (case hr => first | (go_simp; done) | (go_simp; rfl)); (case hp => exact (Reps.one (show Kd.M (Kd.int .i64) _ _ _ a0_3 [.int .i64 a0_3] from rfl) (Reps.none _ _))); intro v109 w42 ho43 hb hg_ hnew_; clear hg_ hnew_; (first | rw [← Ny108.out] at ho43 | (simp only [Int.reduceToNat] at ho43; rw [← Ny108.out] at ho43)); have n0_ := Zs0.mk (Kd.R_lower ho43 (blZ zB)); have n1_ := Zs0.mk (bkB (zG BK101.out) hb); have n2_ := Zs0.mk (blT zB hb); revert n0_ n1_ n2_; clear BK101 HB; intro HO110 BK101 HB; clear hb ho43; obtain ⟨hcz44_0, hcz44_1, hcz44_2, hcz44_3, hcz44_4, hcz44_5, hcz44_6, hfz44_0, hfz44_1, hfz44_2, hfz44_3, hfz44_4, hfz44_5, hfz44_6⟩ := bx7 BK101.out))
          go_ret
          exact ⟨_, zr, by (with_reducible repeat (first | apply Kd.rA1 | apply Kd.rD1 | apply Kd.rD2)); exact HO110.out, zB⟩
       ·replace c16 := Bool.eq_false_iff.mpr c16
        subst c16
        have H1 : (some (([] : List Int))) = some r := by rw [if_neg (show ¬ (false = true) by decide)] at H; exact H
        clear H
        have H := H1
        clear H1
        obtain ⟨y120, hy120⟩ : ∃ y_ : List Int, y_ = (([] : List Int)) := ⟨_, rfl⟩
        replace H : (some y120) = some r := by first | (rw [hy120]; with_reducible exact H) | (have H2_ := (Option.bind_some _ _).symm.trans H; rw [hy120]; with_reducible exact H2_) | (have H2_ := (Option.bind_some _ _).symm.trans H; with_reducible exact H2_) | with_reducible exact H | (rw [hy120]; exact H) | exact H
        have Ny120 := Zs0.mk hy120
        clear hy120
        obtain rfl := Option.some.inj H
        go_wp2_with (first | ((with_reducible refine gtD (N := 42) rfl ?_); refine Kd.R_lit (Kd.int .i64) _ 3 ?hg (N := 42) ?hd (xs := ([] : List Int)) (inner := []) (ok := fun _ => True) (okp := fun _ => True) ?hr ?hp (fun _ hk => hk) trivial (Below.refl _ _) (Nat.le_refl _) (by simp) ?_; (case hd => rfl); (case hg => rfl); (case hr => first | (go_simp; done) | (go_simp; rfl)); (case hp => exact (Reps.none _ _)); intro v121 w45 ho46 hb hg_ hnew_; clear hg_ hnew_; (first | rw [← Ny120.out] at ho46 | (simp only [Int.reduceToNat] at ho46; rw [← Ny120.out] at ho46)); have n0_ := Zs0.mk (Kd.R_lower ho46 (blZ zB)); have n1_ := Zs0.mk (bkB (zG BK101.out) hb); have n2_ := Zs0.mk (blT zB hb); revert n0_ n1_ n2_; clear BK101 HB; intro HO122 BK101 HB; clear hb ho46))
        go_ret
        exact ⟨_, zr, by (with_reducible repeat (first | apply Kd.rA1 | apply Kd.rD1 | apply Kd.rD2)); exact HO122.out, zB⟩

end Go.Proofs.Ytcbpbnkoolpibaa.P
namespace Go.Proofs.Ytcbpbnkoolpibaa.P
open Go.RowKit Go.Proofs.YtcbpbnkoolpibaaW.PrintWords Go.Proofs.YtcbpbnkoolpibaaW.PrintLast Go.Proofs.YtcbpbnkoolpibaaW.PrintMore
attribute [local go_sem] max2_int min2_int max_two min_two max_three min_three max_four min_four   -- for this text's walks alone
set_option linter.unusedVariables false
set_option linter.unusedSimpArgs false

/-! ### spec_l08Ahead: function 45 -/
mutual
def spec_l08Ahead.j0 : Nat → List Bool → Int → Int → Int → Int → Int → Int → ByteArray → Option (List Bool)
  | 0, _, _, _, _, _, _, _, _ => none
  | k + 1, x1, x102000, x102001, x102002, x102003, x102004, x102005, x102006 => (spec_Uses.f k x102000 x102001 x102002 x102003 x102004 x102005 x102006).bind fun t104 => (spec_l08Ahead.l0 k x1 t104 0)
def spec_l08Ahead.l0 : Nat → List Bool → List Int → Int → Option (List Bool)
  | 0, _, _, _ => none
  | k + 1, x1, x4, x5 => if x5 < (x4.length : Int) then (if 0 ≤ x5 then (if 0 ≤ (rd x4 x5) then (if (rd x4 x5) < (x1.length : Int) then (spec_l08Ahead.l0 k (x1.set ((rd x4 x5) : Int).toNat true) x4 (wrap64 (x5 + 1))) else (none)) else (none)) else (none)) else (some x1)
end
def spec_l08Ahead.f (k : Nat) (a0_0 : Int) (a0_1 : Int) (a0_2 : Int) (a0_3 : Int) (a0_4 : Int) (a0_5 : Int) (a0_6 : ByteArray) (l1 : List Bool) : Option (List Bool) := (spec_l07Def.f a0_0 a0_1 a0_2 a0_3 a0_4 a0_5 a0_6).bind fun t102 => (if t102 = true then (if 0 ≤ a0_1 then (if a0_1 < (l1.length : Int) then (spec_l08Ahead.j0 k (l1.set (a0_1 : Int).toNat false) a0_0 a0_1 a0_2 a0_3 a0_4 a0_5 a0_6) else (none)) else (none)) else (spec_l08Ahead.j0 k l1 a0_0 a0_1 a0_2 a0_3 a0_4 a0_5 a0_6))
theorem spec_l08Ahead.mono_l : ∀ k, (∀ y0 y1 y2 y3 y4 y5 y6 y7, LeO (spec_l08Ahead.j0 k y0 y1 y2 y3 y4 y5 y6 y7) (spec_l08Ahead.j0 (k + 1) y0 y1 y2 y3 y4 y5 y6 y7)) ∧ (∀ y0 y1 y2, LeO (spec_l08Ahead.l0 k y0 y1 y2) (spec_l08Ahead.l0 (k + 1) y0 y1 y2))
  | 0 => ⟨fun _ _ _ _ _ _ _ _ r h => by simp [spec_l08Ahead.j0] at h, fun _ _ _ r h => by simp [spec_l08Ahead.l0] at h⟩
  | k + 1 => by
    obtain ⟨ih0, ih1⟩ := spec_l08Ahead.mono_l k
    refine ⟨?_, ?_⟩
    · intro y0 y1 y2 y3 y4 y5 y6 y7
      unfold spec_l08Ahead.j0
      repeat' first
      | (with_reducible exact ih0 _ _ _ _ _ _ _ _)
      | (with_reducible exact ih1 _ _ _)
      | (with_reducible exact spec_Uses.mono _ _ _ _ _ _ _ _)
      | (with_reducible exact LeO.refl _)
      | (with_reducible exact LeO.none _)
      | (with_reducible refine LeO.ite ?_ ?_)
      | (with_reducible refine LeO.bind ?_ (fun _ => ?_))
      | exact ih0 _ _ _ _ _ _ _ _
      | exact ih1 _ _ _
      | exact spec_Uses.mono _ _ _ _ _ _ _ _
      | exact LeO.none _
      | refine LeO.ite ?_ ?_
      | refine LeO.bind ?_ (fun _ => ?_)
    · intro y0 y1 y2
      unfold spec_l08Ahead.l0
      repeat' first
      | (with_reducible exact ih0 _ _ _ _ _ _ _ _)
      | (with_reducible exact ih1 _ _ _)
      | (with_reducible exact spec_Uses.mono _ _ _ _ _ _ _ _)
      | (with_reducible exact LeO.refl _)
      | (with_reducible exact LeO.none _)
      | (with_reducible refine LeO.ite ?_ ?_)
      | (with_reducible refine LeO.bind ?_ (fun _ => ?_))
      | exact ih0 _ _ _ _ _ _ _ _
      | exact ih1 _ _ _
      | exact spec_Uses.mono _ _ _ _ _ _ _ _
      | exact LeO.none _
      | refine LeO.ite ?_ ?_
      | refine LeO.bind ?_ (fun _ => ?_)
theorem spec_l08Ahead.mono : ∀ a0 a1 a2 a3 a4 a5 a6 a7 k, LeO (spec_l08Ahead.f k a0 a1 a2 a3 a4 a5 a6 a7) (spec_l08Ahead.f (k + 1) a0 a1 a2 a3 a4 a5 a6 a7) := by
  intro a0 a1 a2 a3 a4 a5 a6 a7 k
  obtain ⟨ih0, ih1⟩ := spec_l08Ahead.mono_l k
  unfold spec_l08Ahead.f
  repeat' first
      | (with_reducible exact ih0 _ _ _ _ _ _ _ _)
      | (with_reducible exact ih1 _ _ _)
      | (with_reducible exact spec_Uses.mono _ _ _ _ _ _ _ _)
      | (with_reducible exact LeO.refl _)
      | (with_reducible exact LeO.none _)
      | (with_reducible refine LeO.ite ?_ ?_)
      | (with_reducible refine LeO.bind ?_ (fun _ => ?_))
      | exact ih0 _ _ _ _ _ _ _ _
      | exact ih1 _ _ _
      | exact spec_Uses.mono _ _ _ _ _ _ _ _
      | exact LeO.none _
      | refine LeO.ite ?_ ?_
      | refine LeO.bind ?_ (fun _ => ?_)
set_option maxHeartbeats 8000000 in
set_option maxRecDepth 100000 in
theorem spec_l08Ahead.calls (k : Nat) (a0_0 : Int) (a0_1 : Int) (a0_2 : Int) (a0_3 : Int) (a0_4 : Int) (a0_5 : Int) (a0_6 : ByteArray) (P1_ : Nat → Prop) (u9000_ : Value) (l1 : List Bool) (r : List Bool) (w0 w : World) (hB : Below w0.heap.size w0 w) (ho1 : Kd.R Kd.bool 4 w w0.heap.size P1_ u9000_ l1) (h : spec_l08Ahead.f k a0_0 a0_1 a0_2 a0_3 a0_4 a0_5 a0_6 l1 = some r) :
  Calls Try.prog 45 #[.agg #[.int .i64 a0_0, .int .i64 a0_1, .int .i64 a0_2, .int .i64 a0_3, .int .i64 a0_4, .int .i64 a0_5, .string a0_6], u9000_] w fun e w' => e = .returned (.tuple #[]) ∧ Kd.R Kd.bool 4 w' w0.heap.size (fun k_ => (P1_ k_ ∨ w.heap.size ≤ k_)) u9000_ r ∧ Below w0.heap.size w0 w' ∧ Kept w w' (fun k_ => P1_ k_) := by
 have hu57 := Try.underlying57
 have HO1 := Zs0.mk (show Kd.R Kd.bool 4 w w0.heap.size (fun k_ => (P1_ k_ ∨ w.heap.size ≤ k_)) u9000_ l1 from Kd.R_mono ho1 (fun k_ hk => (.inl hk)))
 have HK := Zs0.mk (Kept.refl w (fun k_ => P1_ k_))
 have HW0 := Zs0.mk hB.size
 have HB := Zs0.mk hB
 clear hB
 have H : ((spec_l07Def.f a0_0 a0_1 a0_2 a0_3 a0_4 a0_5 a0_6).bind fun t102 => (if t102 = true then (if 0 ≤ a0_1 then (if a0_1 < (l1.length : Int) then (spec_l08Ahead.j0 k (l1.set (a0_1 : Int).toNat false) a0_0 a0_1 a0_2 a0_3 a0_4 a0_5 a0_6) else (none)) else (none)) else (spec_l08Ahead.j0 k l1 a0_0 a0_1 a0_2 a0_3 a0_4 a0_5 a0_6))) = some r := h
 clear h
 replace H := Option.bind_eq_some_iff.mp H
 obtain ⟨t102, A30, H⟩ := H
 replace H : (if t102 = true then (if 0 ≤ a0_1 then (if a0_1 < (l1.length : Int) then (spec_l08Ahead.j0 k (l1.set (a0_1 : Int).toNat false) a0_0 a0_1 a0_2 a0_3 a0_4 a0_5 a0_6) else (none)) else (none)) else (spec_l08Ahead.j0 k l1 a0_0 a0_1 a0_2 a0_3 a0_4 a0_5 a0_6)) = some r := H
 have A3 := Zs0.mk A30
 clear A30
 have HC4 := Zs0.mk H
 clear H
 go_enter Try.func45, Try.ntmps45
 go_upto_if 7 with (first | ((with_reducible refine gtD (N := 2) rfl ?_); refine bxE ?hg (N := 2) ?hd (cs := #[.int .i64 a0_0, .int .i64 a0_1, .int .i64 a0_2, .int .i64 a0_3, .int .i64 a0_4, .int .i64 a0_5, .string a0_6]) (t := 57) ?hr ?_; (case hd => rfl); (case hg => rfl); (case hr => first | (go_simp; done) | (go_simp; rfl)); intro gb101 hg w5 hbox hb; have n0_ := Zs0.mk (Kd.R_below (zR HO1.out) hb); have n1_ := Zs0.mk (Kept.below (S := (fun k_ => P1_ k_)) (by repeat (first | (with_reducible first | exact HK.out | apply Kept.alloc | apply Kept.drewN | apply Kept.drew) | exact HK.out)) hb); have n2_ := Zs0.mk (blT zB hb); have n3_ := Zs0.mk (hbox); have n4_ := Zs0.mk ((by rw [hg]; exact (by first | exact HK.out.1 | exact (show Kept w _ (fun k_ => P1_ k_) from by repeat (first | (with_reducible first | exact HK.out | apply Kept.alloc | apply Kept.drewN | apply Kept.drew) | exact HK.out)).1) : w.heap.size ≤ gb101)); have n5_ := Zs0.mk (zs hg : w0.heap.size ≤ gb101); revert n0_ n1_ n2_ n3_ n4_ n5_; clear HO1 HK HB; intro HO1 HK HB BK101 GW101 GE101; clear hb hbox hg; obtain ⟨hcz6_0, hcz6_1, hcz6_2, hcz6_3, hcz6_4, hcz6_5, hcz6_6, hfz6_0, hfz6_1, hfz6_2, hfz6_3, hfz6_4, hfz6_5, hfz6_6⟩ := bx7 BK101.out) | ((with_reducible refine gtC (f := 64) rfl ?_); refine goesL_ (some 7) rfl rfl Try.func64 (by kernel_rfl) rfl #[.agg #[.int .i64 a0_0, .int .i64 a0_1, .int .i64 a0_2, .int .i64 a0_3, .int .i64 a0_4, .int .i64 a0_5, .string a0_6]] rfl zM ?_; (with_reducible refine (spec_l07Def.calls a0_0 a0_1 a0_2 a0_3 a0_4 a0_5 a0_6 t102 _ A3.out).mono ?_); rintro e w7 ⟨rfl, hb⟩; refine ⟨_, rfl, ?_⟩; have n0_ := Zs0.mk (Kd.R_below (zR HO1.out) hb); have n1_ := Zs0.mk (bkB (zG BK101.out) hb); have n2_ := Zs0.mk (Kept.below (S := (fun k_ => P1_ k_)) (by repeat (first | (with_reducible first | exact HK.out | apply Kept.alloc | apply Kept.drewN | apply Kept.drew | refine Kept.setCell ?_ (.inr GW101.out) _) | exact HK.out)) hb); have n3_ := Zs0.mk (blT zB hb); revert n0_ n1_ n2_ n3_; clear HO1 BK101 HK HB; intro HO1 BK101 HK HB; (try clear hb); (try clear hb2); (try clear hk); (try clear hi)))
 (try simp only [Act.put, List.setIfInBounds_toArray, List.set_cons_zero, List.set_cons_succ])
 go_cut [] (fun wc => ∃ (kq : Nat) (x1_3 : List Bool), Zs0 (spec_l08Ahead.j0 kq x1_3 a0_0 a0_1 a0_2 a0_3 a0_4 a0_5 a0_6 = some r) ∧ Zs0 (kq ≤ k) ∧ Zs0 (Kd.R Kd.bool 4 wc w0.heap.size (fun k_ => (P1_ k_ ∨ w.heap.size ≤ k_)) u9000_ x1_3) ∧ Zs0 (wc.heap[gb101]? = some (.cells #[.int .i64 a0_0, .int .i64 a0_1, .int .i64 a0_2, .int .i64 a0_3, .int .i64 a0_4, .int .i64 a0_5, .string a0_6] 57 (0, 0))) ∧ Zs0 (Kept w wc (fun k_ => P1_ k_)) ∧ Zs0 (Below w0.heap.size w0 wc))
 case first =>
  have H := HC4.out
  clear HC4
  by_cases c8 : t102 = true
  ·subst c8
   have H1 : (if 0 ≤ a0_1 then (if a0_1 < (l1.length : Int) then (spec_l08Ahead.j0 k (l1.set (a0_1 : Int).toNat false) a0_0 a0_1 a0_2 a0_3 a0_4 a0_5 a0_6) else (none)) else (none)) = some r := by rw [if_pos rfl] at H; exact H
   clear H
   have H := H1
   clear H1
   have c9 := ipos H
   rw [if_pos c9] at H
   have c9b0 := decide_eq_true c9
   clear c9
   (first | rw [c9b0] | (simp only [i64_w, i32_w]; rw [c9b0]) | skip)
   have c10 := ipos H
   rw [if_pos c10] at H
   have c10b0 := decide_eq_true c10
   clear c10
   obtain ⟨y103, hy103⟩ : ∃ y_ : List Bool, y_ = (l1.set (a0_1 : Int).toNat false) := ⟨_, rfl⟩
   replace H : (spec_l08Ahead.j0 k y103 a0_0 a0_1 a0_2 a0_3 a0_4 a0_5 a0_6) = some r := by first | (rw [hy103]; with_reducible exact H) | (have H2_ := (Option.bind_some _ _).symm.trans H; rw [hy103]; with_reducible exact H2_) | (have H2_ := (Option.bind_some _ _).symm.trans H; with_reducible exact H2_) | with_reducible exact H | (rw [hy103]; exact H) | exact H
   have Ny103 := Zs0.mk hy103
   clear hy103
   have H' := Zs0.mk H
   clear H
   obtain ⟨hcz12_0, hcz12_1, hcz12_2, hcz12_3, hcz12_4, hcz12_5, hcz12_6, hfz12_0, hfz12_1, hfz12_2, hfz12_3, hfz12_4, hfz12_5, hfz12_6⟩ := bx7 BK101.out
   have p11 : 0 ≤ (a0_1 : Int) := zD
   have q11 : (a0_1 : Int) < ((l1.length : Int) : Int) := zD
   obtain ⟨go11, co11, eo11, gb11, gl11, cl11, HG11⟩ := Kd.R_form HO1.out (by omega)
   (first | cases eo11 | (injection eo11 with ea_ en_ ec_; (first | subst ea_ | (injection ea_ with ea_; subst ea_)); subst ec_; clear en_))
   have GB11 := Zs0.mk gb11
   have GG11 := Zs0.mk HG11
   clear gb11 gl11 HG11
   have HMgo11 := Zs0.mk (show (P1_ go11 ∨ w.heap.size ≤ go11) from (HO1.out.1 _ rfl))
   obtain ⟨hx11_0, hf11_0⟩ := Kd.R_celln false HO1.out (a0_1 : Int) p11 q11
   replace p11 := eq_true p11
   replace q11 := eq_true q11
   have HP13 := Kd.R_putg HO1.out (a0_1 : Int) false
   go_wp2_with (first | ((with_reducible refine gate_store (t := 4) (p := 11) rfl ?_); refine store_event (t := 4) (p := 11) (v := ?vo_w14) (w1 := (w7.setCell ⟨go11, (a0_1 : Int).toNat, none⟩ (.bool false))) ?hg ?ho ?hn ?hr ?_; (case ho => rfl); (case hg => rfl); (case hn => rfl); (case hr => first | (go_simp; done) | (go_simp; rfl)); intro w14 hw; have hg : w7.grownBy w14 (some go11) := (by rw [hw]; exact HP13.2); have hp_ : Kd.R Kd.bool 4 w14 w0.heap.size (fun k_ => (P1_ k_ ∨ w.heap.size ≤ k_)) (.slice (some ⟨go11, 0, none⟩) l1.length co11) y103 := (by rw [hw, Ny103.out]; exact HP13.1); clear HP13; have n0_ := Zs0.mk (hp_); have n1_ := Zs0.mk (blk_grown (zG BK101.out) hg (Kd.R_ne HO1.out BK101.out (by decide))); have n2_ := Zs0.mk ((by rw [hw]; exact blS (HB.out) GB11.out : Below w0.heap.size w0 w14)); have n3_ := Zs0.mk (Kept.of_grown (S := (fun k_ => P1_ k_)) hg (by repeat (first | (with_reducible first | exact HK.out | apply Kept.alloc | apply Kept.drewN | apply Kept.drew | refine Kept.setCell ?_ (.inr GW101.out) _) | exact HK.out)) (fun k_ e_ => (HO1.out.1 k_ e_))); revert n0_ n1_ n2_ n3_; clear HO1 BK101 HB HK; intro HO1 BK101 HB HK; clear hg hw hp_))
   go_meet
   case rel => exact ⟨_, (y103), H', ⟨by first | omega | exact Nat.le_refl _⟩, ⟨zR HO1.out⟩, ⟨zG BK101.out⟩, ⟨by repeat (first | (with_reducible first | exact HK.out | apply Kept.alloc | apply Kept.drewN | apply Kept.drew | refine Kept.setCell ?_ (.inr GW101.out) _) | exact HK.out)⟩, ⟨zB⟩⟩
  ·replace c8 := Bool.eq_false_iff.mpr c8
   subst c8
   have H1 : (spec_l08Ahead.j0 k l1 a0_0 a0_1 a0_2 a0_3 a0_4 a0_5 a0_6) = some r := by rw [if_neg (show ¬ (false = true) by decide)] at H; exact H
   clear H
   have H := H1
   clear H1
   have H' := Zs0.mk H
   clear H
   go_wp2
   go_meet
   case rel => exact ⟨_, (l1), H', ⟨by first | omega | exact Nat.le_refl _⟩, ⟨zR HO1.out⟩, ⟨zG BK101.out⟩, ⟨by repeat (first | (with_reducible first | exact HK.out | apply Kept.alloc | apply Kept.drewN | apply Kept.drew | refine Kept.setCell ?_ (.inr GW101.out) _) | exact HK.out)⟩, ⟨zB⟩⟩
 case rest =>
  clear HC4
  try clear c1
  try clear p1
  try clear q1
  try clear hx1
  try clear p2
  try clear c4
  try clear c6
  try clear c8
  try clear c9
  try clear c9b0
  try clear c10
  try clear c10b0
  try clear p11
  try clear q11
  try clear hx11
  try clear hf11
  try clear hcz12_0 hcz12_1 hcz12_2 hcz12_3 hcz12_4 hcz12_5 hcz12_6
  try clear hcz6_0 hcz6_1 hcz6_2 hcz6_3 hcz6_4 hcz6_5 hcz6_6
  try clear hfz12_0 hfz12_1 hfz12_2 hfz12_3 hfz12_4 hfz12_5 hfz12_6
  try clear hfz6_0 hfz6_1 hfz6_2 hfz6_3 hfz6_4 hfz6_5 hfz6_6
  try clear hx11_0
  try clear p11
  try clear q11
  obtain ⟨kq, x1_3, HA, HJ3, HO_1, BK101, HK, HB⟩ := hcut
  cases kq with
  | zero => exact absurd HA.out (by simp [spec_l08Ahead.j0])
  | succ kj3 =>
   have H := HA.out
   clear HA
   simp only [spec_l08Ahead.j0] at H
   replace H := Option.bind_eq_some_iff.mp H
   obtain ⟨t104, A150, H⟩ := H
   replace H : (spec_l08Ahead.l0 kj3 x1_3 t104 0) = some r := H
   have A15 := Zs0.mk A150
   clear A150
   have H' := Zs0.mk H
   clear H
   obtain ⟨hcz16_0, hcz16_1, hcz16_2, hcz16_3, hcz16_4, hcz16_5, hcz16_6, hfz16_0, hfz16_1, hfz16_2, hfz16_3, hfz16_4, hfz16_5, hfz16_6⟩ := bx7 BK101.out
   go_wp2_with (first | ((with_reducible refine gtC (f := 65) rfl ?_); refine goesL_ (some 13) rfl rfl Try.func65 (by kernel_rfl) rfl #[.agg #[.int .i64 a0_0, .int .i64 a0_1, .int .i64 a0_2, .int .i64 a0_3, .int .i64 a0_4, .int .i64 a0_5, .string a0_6]] rfl zM ?_; (with_reducible refine (spec_Uses.calls kj3 a0_0 a0_1 a0_2 a0_3 a0_4 a0_5 a0_6 t104 _ A15.out).mono ?_); rintro e w17 ⟨v105, rfl, ho0, hb⟩; refine ⟨_, rfl, ?_⟩; have n0_ := Zs0.mk (Kd.R_below (zR HO_1.out) hb); have n1_ := Zs0.mk (Kd.R_lower (Kd.R_newM (M := fun k_ => (P1_ k_ ∨ w.heap.size ≤ k_)) ho0 (by first | exact HK.out.1 | exact (show Kept w _ (fun k_ => P1_ k_) from by repeat (first | (with_reducible first | exact HK.out | apply Kept.alloc | apply Kept.drewN | apply Kept.drew | refine Kept.setCell ?_ (.inr GW101.out) _) | exact HK.out)).1) (fun k_ h_ => .inr h_)) (blZ zB)); have n2_ := Zs0.mk (bkB (zG BK101.out) hb); have n3_ := Zs0.mk (Kept.below (S := (fun k_ => P1_ k_)) (by repeat (first | (with_reducible first | exact HK.out | apply Kept.alloc | apply Kept.drewN | apply Kept.drew | refine Kept.setCell ?_ (.inr GW101.out) _) | exact HK.out)) hb); have n4_ := Zs0.mk (blT zB hb); revert n0_ n1_ n2_ n3_ n4_; clear HO_1 BK101 HK HB; intro HO_1 HO106 BK101 HK HB; (try clear hb); (try clear hb2); (try clear hk); (try clear hi); (try clear ho0)))
   go_loopg [5] kj3 (fun kq v5 w' => ∃ (x1_2 : List Bool) (x5_2 : Int), v5 = .int .i64 x5_2 ∧ Zs0 (spec_l08Ahead.l0 kq x1_2 t104 x5_2 = some r) ∧ Zs0 (kq ≤ kj3) ∧ Zs0 (Kd.R Kd.bool 4 w' w0.heap.size (fun k_ => (P1_ k_ ∨ w.heap.size ≤ k_)) u9000_ x1_2) ∧ Zs0 (Kd.R (Kd.int .i64) 3 w' w0.heap.size (fun k_ => (P1_ k_ ∨ w.heap.size ≤ k_)) v105 t104) ∧ Zs0 (w'.heap[gb101]? = some (.cells #[.int .i64 a0_0, .int .i64 a0_1, .int .i64 a0_2, .int .i64 a0_3, .int .i64 a0_4, .int .i64 a0_5, .string a0_6] 57 (0, 0))) ∧ Zs0 (Kept w w' (fun k_ => P1_ k_)) ∧ Zs0 (Below w0.heap.size w0 w'))
   case atStart => exact ⟨(x1_3), (0), zq, H', ⟨Nat.le_refl _⟩, ⟨zR HO_1.out⟩, ⟨by (with_reducible repeat (first | apply Kd.rA1 | apply Kd.rD1 | apply Kd.rD2)); exact Kd.R_mono HO106.out (fun _ hk => hk.1)⟩, ⟨zG BK101.out⟩, ⟨by repeat (first | (with_reducible first | exact HK.out | apply Kept.alloc | apply Kept.drewN | apply Kept.drew | refine Kept.setCell ?_ (.inr GW101.out) _) | exact HK.out)⟩, ⟨zB⟩⟩
   case round =>
    clear H'
    try clear c1
    try clear p1
    try clear q1
    try clear hx1
    try clear p2
    try clear c4
    try clear c6
    try clear c8
    try clear c9
    try clear c9b0
    try clear c10
    try clear c10b0
    try clear p11
    try clear q11
    try clear hx11
    try clear hf11
    try clear hcz12_0 hcz12_1 hcz12_2 hcz12_3 hcz12_4 hcz12_5 hcz12_6
    try clear hcz16_0 hcz16_1 hcz16_2 hcz16_3 hcz16_4 hcz16_5 hcz16_6
    try clear hcz6_0 hcz6_1 hcz6_2 hcz6_3 hcz6_4 hcz6_5 hcz6_6
    try clear hfz12_0 hfz12_1 hfz12_2 hfz12_3 hfz12_4 hfz12_5 hfz12_6
    try clear hfz16_0 hfz16_1 hfz16_2 hfz16_3 hfz16_4 hfz16_5 hfz16_6
    try clear hfz6_0 hfz6_1 hfz6_2 hfz6_3 hfz6_4 hfz6_5 hfz6_6
    try clear hx11_0
    try clear p1
    try clear p11
    try clear p2
    try clear q1
    try clear q11
    obtain ⟨x1_2, x5_2, rfl, HA, HK2, HO_1, HO_4, BK101, HK, HB⟩ := hrel
    cases gk with
    | zero => exact absurd HA.out (by simp [spec_l08Ahead.l0])
    | succ k2 =>
     have H := HA.out
     clear HA
     simp only [spec_l08Ahead.l0] at H
     by_cases c18 : x5_2 < (t104.length : Int)
     ·rw [if_pos c18] at H
      have c18b0 : decide (x5_2 < (t104.length : Int)) = true := decide_eq_true c18
      clear c18
      have c19 := ipos H
      rw [if_pos c19] at H
      have c19b0 := decide_eq_true c19
      clear c19
      have c20 := ipos H
      rw [if_pos c20] at H
      have c20b0 := decide_eq_true c20
      clear c20
      have c21 := ipos H
      rw [if_pos c21] at H
      have c21b0 := decide_eq_true c21
      clear c21
      obtain ⟨y108, hy108⟩ : ∃ y_ : List Bool, y_ = (x1_2.set ((rd t104 x5_2) : Int).toNat true) := ⟨_, rfl⟩
      replace H : (spec_l08Ahead.l0 k2 y108 t104 (wrap64 (x5_2 + 1))) = some r := by first | (rw [hy108]; with_reducible exact H) | (have H2_ := (Option.bind_some _ _).symm.trans H; rw [hy108]; with_reducible exact H2_) | (have H2_ := (Option.bind_some _ _).symm.trans H; with_reducible exact H2_) | with_reducible exact H | (rw [hy108]; exact H) | exact H
      have Ny108 := Zs0.mk hy108
      clear hy108
      have H' := Zs0.mk H
      clear H
      obtain ⟨Ao23, co23, eo23⟩ := Kd.R_slice HO_4.out
      subst eo23
      have p107 : 0 ≤ (x5_2 : Int) := zD
      have q107 : x5_2 < (t104.length : Int) := zD
      obtain ⟨ad107, e107, hx107_0⟩ := Kd.at_int (Kd.R_reads' HO_4.out).2.2 x5_2 p107 q107
      cases e107
      replace p107 := eq_true p107
      replace q107 := eq_true q107
      have p22 : 0 ≤ ((rd t104 x5_2) : Int) := zD
      have q22 : ((rd t104 x5_2) : Int) < ((x1_2.length : Int) : Int) := zD
      obtain ⟨go22, co22, eo22, gb22, gl22, cl22, HG22⟩ := Kd.R_form HO_1.out (by omega)
      (first | cases eo22 | (injection eo22 with ea_ en_ ec_; (first | subst ea_ | (injection ea_ with ea_; subst ea_)); subst ec_; clear en_))
      have GB22 := Zs0.mk gb22
      have GG22 := Zs0.mk HG22
      clear gb22 gl22 HG22
      have HMgo22 := Zs0.mk (show (P1_ go22 ∨ w.heap.size ≤ go22) from (HO_1.out.1 _ rfl))
      obtain ⟨hx22_0, hf22_0⟩ := Kd.R_celln false HO_1.out ((rd t104 x5_2) : Int) p22 q22
      replace p22 := eq_true p22
      replace q22 := eq_true q22
      have HP24 := Kd.R_putg HO_1.out ((rd t104 x5_2) : Int) true
      go_wp2_with (first | ((with_reducible refine gate_store (t := 4) (p := 25) rfl ?_); refine store_event (t := 4) (p := 25) (v := ?vo_w25) (w1 := (wr.setCell ⟨go22, ((rd t104 x5_2) : Int).toNat, none⟩ (.bool true))) ?hg ?ho ?hn ?hr ?_; (case ho => rfl); (case hg => rfl); (case hn => rfl); (case hr => first | (go_simp; done) | (go_simp; rfl)); intro w25 hw; have hg : wr.grownBy w25 (some go22) := (by rw [hw]; exact HP24.2); have hp_ : Kd.R Kd.bool 4 w25 w0.heap.size (fun k_ => (P1_ k_ ∨ w.heap.size ≤ k_)) (.slice (some ⟨go22, 0, none⟩) x1_2.length co22) y108 := (by rw [hw, Ny108.out]; exact HP24.1); clear HP24; have n0_ := Zs0.mk (hp_); have n1_ := Zs0.mk (Kd.R_over' (v := (.slice (some ⟨go22, 0, none⟩) x1_2.length co22)) (zR HO_4.out) (Kd.R_typed HO_1.out) (by decide) hg); have n2_ := Zs0.mk (blk_grown (zG BK101.out) hg (Kd.R_ne HO_1.out BK101.out (by decide))); have n3_ := Zs0.mk ((by rw [hw]; exact blS (HB.out) GB22.out : Below w0.heap.size w0 w25)); have n4_ := Zs0.mk (Kept.of_grown (S := (fun k_ => P1_ k_)) hg (by repeat (first | (with_reducible first | exact HK.out | apply Kept.alloc | apply Kept.drewN | apply Kept.drew | refine Kept.setCell ?_ (.inr GW101.out) _) | exact HK.out)) (fun k_ e_ => (HO_1.out.1 k_ e_))); revert n0_ n1_ n2_ n3_ n4_; clear HO_1 HO_4 BK101 HB HK; intro HO_1 HO_4 BK101 HB HK; clear hg hw hp_))
      go_roundg k2
      case measure => have := HJ3.out; have := HK2.out; omega
      case rel => exact ⟨(y108), (wrap64 (x5_2 + 1)), zq, H', ⟨by have := HJ3.out; have := HK2.out; omega⟩, ⟨zR HO_1.out⟩, ⟨zR HO_4.out⟩, ⟨zG BK101.out⟩, ⟨by repeat (first | (with_reducible first | exact HK.out | apply Kept.alloc | apply Kept.drewN | apply Kept.drew | refine Kept.setCell ?_ (.inr GW101.out) _) | exact HK.out)⟩, ⟨zB⟩⟩
     ·rw [if_neg c18] at H
      have c18b0 : decide (x5_2 < (t104.length : Int)) = false := decide_eq_false c18
      clear c18
      obtain rfl := Option.some.inj H
      obtain ⟨Ao26, co26, eo26⟩ := Kd.R_slice HO_4.out
      subst eo26
      go_wp2
      first | go_end0 | ((try simp only [Exit.inBlock, Exit.then]); refine bodyPost_ret (results_none rfl _ _ _) rfl ?_)
      exact ⟨zr, by (with_reducible repeat (first | apply Kd.rA1 | apply Kd.rD1 | apply Kd.rD2)); exact HO_1.out, zB, by repeat (first | (with_reducible first | exact HK.out | apply Kept.alloc | apply Kept.drewN | apply Kept.drew | refine Kept.setCell ?_ (.inr GW101.out) _) | exact HK.out)⟩

end Go.Proofs.Ytcbpbnkoolpibaa.P
namespace Go.Proofs.Ytcbpbnkoolpibaa.P
open Go.RowKit Go.Proofs.YtcbpbnkoolpibaaW.PrintWords Go.Proofs.YtcbpbnkoolpibaaW.PrintLast Go.Proofs.YtcbpbnkoolpibaaW.PrintMore
attribute [local go_sem] max2_int min2_int max_two min_two max_three min_three max_four min_four   -- for this text's walks alone
set_option linter.unusedVariables false
set_option linter.unusedSimpArgs false

/-! ### spec_l08In: function 62 -/
def spec_l08In.l0 : Nat → List Bool → Int → List (S57) → Int → Int → Int → Int → Option (List Bool)
  | 0, _, _, _, _, _, _, _ => none
  | k + 1, x5, x6, x102000, x102001, x102002, x102003, x102004 => if x6 ≥ 0 then (if 0 ≤ x6 then (if x6 < (x102000.length : Int) then ((spec_l08Ahead.f k ((rd_T57 x102000 x6).f0) ((rd_T57 x102000 x6).f1) ((rd_T57 x102000 x6).f2) ((rd_T57 x102000 x6).f3) ((rd_T57 x102000 x6).f4) ((rd_T57 x102000 x6).f5) ((rd_T57 x102000 x6).f6) x5).bind fun t106 => (spec_l08In.l0 k t106 (wrap64 (x6 - 1)) x102000 x102001 x102002 x102003 x102004)) else (none)) else (none)) else (some x5)
def spec_l08In.f (k : Nat) (l0_0 : List (S57)) (a0_1 : Int) (a0_2 : Int) (a0_3 : Int) (a0_4 : Int) (l1 : List Bool) : Option (List Bool) := (spec_l08Behind.f l0_0 a0_1 a0_2 a0_3 a0_4 l1).bind fun t102 => (spec_l08In.l0 k t102 (wrap64 ((l0_0.length : Int) - 1)) l0_0 a0_1 a0_2 a0_3 a0_4)
theorem spec_l08In.mono_l : ∀ k, (∀ y0 y1 y2 y3 y4 y5 y6, LeO (spec_l08In.l0 k y0 y1 y2 y3 y4 y5 y6) (spec_l08In.l0 (k + 1) y0 y1 y2 y3 y4 y5 y6))
  | 0 => fun _ _ _ _ _ _ _ r h => by simp [spec_l08In.l0] at h
  | k + 1 => by
    have ih0 := spec_l08In.mono_l k
    · intro y0 y1 y2 y3 y4 y5 y6
      unfold spec_l08In.l0
      repeat' first
      | (with_reducible exact ih0 _ _ _ _ _ _ _)
      | (with_reducible exact spec_l08Ahead.mono _ _ _ _ _ _ _ _ _)
      | (with_reducible exact LeO.refl _)
      | (with_reducible exact LeO.none _)
      | (with_reducible refine LeO.ite ?_ ?_)
      | (with_reducible refine LeO.bind ?_ (fun _ => ?_))
      | exact ih0 _ _ _ _ _ _ _
      | exact spec_l08Ahead.mono _ _ _ _ _ _ _ _ _
      | exact LeO.none _
      | refine LeO.ite ?_ ?_
      | refine LeO.bind ?_ (fun _ => ?_)
theorem spec_l08In.mono : ∀ a0 a1 a2 a3 a4 a5 k, LeO (spec_l08In.f k a0 a1 a2 a3 a4 a5) (spec_l08In.f (k + 1) a0 a1 a2 a3 a4 a5) := by
  intro a0 a1 a2 a3 a4 a5 k
  have ih0 := spec_l08In.mono_l k
  unfold spec_l08In.f
  repeat' first
      | (with_reducible exact ih0 _ _ _ _ _ _ _)
      | (with_reducible exact spec_l08Ahead.mono _ _ _ _ _ _ _ _ _)
      | (with_reducible exact LeO.refl _)
      | (with_reducible exact LeO.none _)
      | (with_reducible refine LeO.ite ?_ ?_)
      | (with_reducible refine LeO.bind ?_ (fun _ => ?_))
      | exact ih0 _ _ _ _ _ _ _
      | exact spec_l08Ahead.mono _ _ _ _ _ _ _ _ _
      | exact LeO.none _
      | refine LeO.ite ?_ ?_
      | refine LeO.bind ?_ (fun _ => ?_)
set_option maxHeartbeats 8000000 in
set_option maxRecDepth 100000 in
theorem spec_l08In.calls (k : Nat) (A0_0 : Option Addr) (c0_0 : Nat) (l0_0 : List (S57)) (a0_1 : Int) (a0_2 : Int) (a0_3 : Int) (a0_4 : Int) (A1 : Option Addr) (c1 : Nat) (l1 : List Bool) (r : List Bool) (w : World) (hr0_0 : Kd.C k57 w A0_0 l0_0.length l0_0) (hc0_0 : l0_0.length ≤ c0_0) (hr1 : Kd.C Kd.bool w A1 l1.length l1) (hc1 : l1.length ≤ c1) (h : spec_l08In.f k l0_0 a0_1 a0_2 a0_3 a0_4 l1 = some r) :
  Calls Try.prog 62 #[.agg #[.slice A0_0 l0_0.length c0_0, .int .i64 a0_1, .int .i64 a0_2, .int .i64 a0_3, .int .i64 a0_4], .slice A1 l1.length c1] w fun e w' => ∃ v0_ : Value, e = .returned (v0_) ∧ Kd.R Kd.bool 4 w' w.heap.size (fun _ => True) v0_ r ∧ Below w.heap.size w w' := by
 have hu47 := Try.underlying47
 have hu57 := Try.underlying57
 have HR0_0 := Zs0.mk hr0_0
 have HC0_0 := Zs0.mk hc0_0
 clear hr0_0 hc0_0
 have HR1 := Zs0.mk hr1
 have HC1 := Zs0.mk hc1
 clear hr1 hc1
 have HB := Zs0.mk (Below.refl w.heap.size w)
 have H : ((spec_l08Behind.f l0_0 a0_1 a0_2 a0_3 a0_4 l1).bind fun t102 => (spec_l08In.l0 k t102 (wrap64 ((l0_0.length : Int) - 1)) l0_0 a0_1 a0_2 a0_3 a0_4)) = some r := h
 clear h
 replace H := Option.bind_eq_some_iff.mp H
 obtain ⟨t102, A30, H⟩ := H
 replace H : (spec_l08In.l0 k t102 (wrap64 ((l0_0.length : Int) - 1)) l0_0 a0_1 a0_2 a0_3 a0_4) = some r := H
 have A3 := Zs0.mk A30
 clear A30
 have H' := Zs0.mk H
 clear H
 go_enter Try.func62, Try.ntmps62
 go_wp2_with (first | ((with_reducible refine gtD (N := 2) rfl ?_); refine bxE ?hg (N := 2) ?hd (cs := #[.slice A0_0 l0_0.length c0_0, .int .i64 a0_1, .int .i64 a0_2, .int .i64 a0_3, .int .i64 a0_4]) (t := 47) ?hr ?_; (case hd => rfl); (case hg => rfl); (case hr => first | (go_simp; done) | (go_simp; rfl)); intro gb101 hg w4 hbox hb; have n0_ := Zs0.mk (blT zB hb); have n1_ := Zs0.mk (hbox); have n2_ := Zs0.mk (zs hg : w.heap.size ≤ gb101); have n3_ := Zs0.mk (zs hg : w.heap.size ≤ gb101); revert n0_ n1_ n2_ n3_; clear HB; intro HB BK101 GW101 GE101; clear hb hbox hg; obtain ⟨hcz5_0, hcz5_1, hcz5_2, hcz5_3, hcz5_4, hfz5_0, hfz5_1, hfz5_2, hfz5_3, hfz5_4⟩ := bx5 BK101.out) | ((with_reducible refine gtC (f := 43) rfl ?_); refine goesL_ (some 9) rfl rfl Try.func43 (by kernel_rfl) rfl #[.agg #[.slice A0_0 l0_0.length c0_0, .int .i64 a0_1, .int .i64 a0_2, .int .i64 a0_3, .int .i64 a0_4], .slice A1 l1.length c1] rfl zM ?_; (with_reducible refine (spec_l08Behind.calls _ _ l0_0 a0_1 a0_2 a0_3 a0_4 _ _ l1 t102 _ ?side1 ?side2 ?side3 ?side4 A3.out).mono ?_); (case side1 => exact zC HR0_0.out); (case side2 => exact HC0_0.out); (case side3 => exact zC HR1.out); (case side4 => exact HC1.out); rintro e w6 ⟨v103, rfl, ho0, hb⟩; refine ⟨_, rfl, ?_⟩; have n0_ := Zs0.mk (Kd.R_lower ho0 (blZ zB)); have n1_ := Zs0.mk (bkB (zG BK101.out) hb); have n2_ := Zs0.mk (blT zB hb); revert n0_ n1_ n2_; clear BK101 HB; intro HO104 BK101 HB; (try clear hb); (try clear hb2); (try clear hk); (try clear hi); (try clear ho0); obtain ⟨hcz7_0, hcz7_1, hcz7_2, hcz7_3, hcz7_4, hfz7_0, hfz7_1, hfz7_2, hfz7_3, hfz7_4⟩ := bx5 BK101.out))
 go_loopg [6] k (fun kq v6 w' => ∃ (x5_1 : List Bool) (x6_1 : Int), v6 = .int .i64 x6_1 ∧ Zs0 (spec_l08In.l0 kq x5_1 x6_1 l0_0 a0_1 a0_2 a0_3 a0_4 = some r) ∧ Zs0 (kq ≤ k) ∧ Zs0 (Kd.R Kd.bool 4 w' w.heap.size (fun _ => True) v103 x5_1) ∧ Zs0 (w'.heap[gb101]? = some (.cells #[(.slice A0_0 l0_0.length c0_0), .int .i64 a0_1, .int .i64 a0_2, .int .i64 a0_3, .int .i64 a0_4] 47 (0, 0))) ∧ Zs0 (Below w.heap.size w w'))
 case atStart => exact ⟨(t102), (wrap64 ((l0_0.length : Int) - 1)), zq, H', ⟨Nat.le_refl _⟩, ⟨zR HO104.out⟩, ⟨zG BK101.out⟩, ⟨zB⟩⟩
 case round =>
  clear H'
  try clear c1
  try clear p2
  try clear c4
  try clear c6
  try clear p6
  try clear hcz5_0 hcz5_1 hcz5_2 hcz5_3 hcz5_4
  try clear hcz7_0 hcz7_1 hcz7_2 hcz7_3 hcz7_4
  try clear hfz5_0 hfz5_1 hfz5_2 hfz5_3 hfz5_4
  try clear hfz7_0 hfz7_1 hfz7_2 hfz7_3 hfz7_4
  obtain ⟨x5_1, x6_1, rfl, HA, HK1, HO_5, BK101, HB⟩ := hrel
  cases gk with
  | zero => exact absurd HA.out (by simp [spec_l08In.l0])
  | succ k1 =>
   have H := HA.out
   clear HA
   simp only [spec_l08In.l0] at H
   by_cases c8 : x6_1 ≥ 0
   ·rw [if_pos c8] at H
    have c8b0 : decide (0 ≤ x6_1) = true := decide_eq_true c8
    clear c8
    have c9 := ipos H
    rw [if_pos c9] at H
    have c9b0 := decide_eq_true c9
    clear c9
    have c10 := ipos H
    rw [if_pos c10] at H
    have c10b0 := decide_eq_true c10
    clear c10
    replace H := Option.bind_eq_some_iff.mp H
    obtain ⟨t106, A110, H⟩ := H
    replace H : (spec_l08In.l0 k1 t106 (wrap64 (x6_1 - 1)) l0_0 a0_1 a0_2 a0_3 a0_4) = some r := H
    have A11 := Zs0.mk A110
    clear A110
    have H' := Zs0.mk H
    clear H
    obtain ⟨hcz12_0, hcz12_1, hcz12_2, hcz12_3, hcz12_4, hfz12_0, hfz12_1, hfz12_2, hfz12_3, hfz12_4⟩ := bx5 BK101.out
    have p105 : 0 ≤ (x6_1 : Int) := zD
    have q105 : x6_1 < (l0_0.length : Int) := zD
    obtain ⟨ad105, e105, hx105_0, hx105_1, hx105_2, hx105_3, hx105_4, hx105_5, hx105_6⟩ := at_T57 HR0_0.out x6_1 p105 q105
    cases e105
    replace hx105_0 := zx HB.out hx105_0
    replace hx105_1 := zx HB.out hx105_1
    replace hx105_2 := zx HB.out hx105_2
    replace hx105_3 := zx HB.out hx105_3
    replace hx105_4 := zx HB.out hx105_4
    replace hx105_5 := zx HB.out hx105_5
    replace hx105_6 := zx HB.out hx105_6
    replace p105 := eq_true p105
    replace q105 := eq_true q105
    obtain ⟨Ao13, co13, eo13⟩ := Kd.R_slice HO_5.out
    subst eo13
    go_wp2_with (first | ((with_reducible refine gtC (f := 45) rfl ?_); refine goesL_ (some 24) rfl rfl Try.func45 (by kernel_rfl) rfl #[.agg #[.int .i64 ((rd_T57 l0_0 x6_1).f0), .int .i64 ((rd_T57 l0_0 x6_1).f1), .int .i64 ((rd_T57 l0_0 x6_1).f2), .int .i64 ((rd_T57 l0_0 x6_1).f3), .int .i64 ((rd_T57 l0_0 x6_1).f4), .int .i64 ((rd_T57 l0_0 x6_1).f5), .string ((rd_T57 l0_0 x6_1).f6)], .slice Ao13 x5_1.length co13] rfl zM ?_; (with_reducible refine (spec_l08Ahead.calls k1 ((rd_T57 l0_0 x6_1).f0) ((rd_T57 l0_0 x6_1).f1) ((rd_T57 l0_0 x6_1).f2) ((rd_T57 l0_0 x6_1).f3) ((rd_T57 l0_0 x6_1).f4) ((rd_T57 l0_0 x6_1).f5) ((rd_T57 l0_0 x6_1).f6) (fun k_ => some k_ = (.slice Ao13 x5_1.length co13 : Value).ownBlock) (.slice Ao13 x5_1.length co13) x5_1 t106 w _ ?side1 ?side2 A11.out).mono ?_); (case side1 => repeat (first | (with_reducible first | exact HB.out | apply blA | apply pbN | apply bl1 | refine blS ?_ GE101.out) | exact HB.out)); (case side2 => exact Kd.R_tight rfl HO_5.out); rintro e w14 ⟨rfl, hy0, hb, hkp⟩; refine ⟨_, rfl, ?_⟩; have n0_ := Zs0.mk (Kd.R_reok rfl hy0 (fun k_ e_ => HO_5.out.1 k_ e_)); have n1_ := Zs0.mk (blk_kept (zG BK101.out) hkp (fun hs_ => (fun e_ => (Kd.R_ne HO_5.out BK101.out (by decide)) e_) hs_)); have n2_ := Zs0.mk (hb); revert n0_ n1_ n2_; clear HO_5 BK101 HB; intro HO_5 BK101 HB; (try clear hb); (try clear hkp); (try clear hy0)))
    go_roundg k1
    case measure => have := HK1.out; omega
    case rel => exact ⟨(t106), (wrap64 (x6_1 - 1)), zq, H', ⟨by have := HK1.out; omega⟩, ⟨zR HO_5.out⟩, ⟨zG BK101.out⟩, ⟨zB⟩⟩
   ·rw [if_neg c8] at H
    have c8b0 : decide (0 ≤ x6_1) = false := decide_eq_false c8
    clear c8
    obtain rfl := Option.some.inj H
    go_wp2
    go_ret
    exact ⟨_, zr, by (with_reducible repeat (first | apply Kd.rA1 | apply Kd.rD1 | apply Kd.rD2)); exact HO_5.out, zB⟩

end Go.Proofs.Ytcbpbnkoolpibaa.P
namespace Go.Proofs.Ytcbpbnkoolpibaa.P
open Go.RowKit Go.Proofs.YtcbpbnkoolpibaaW.PrintWords Go.Proofs.YtcbpbnkoolpibaaW.PrintLast Go.Proofs.YtcbpbnkoolpibaaW.PrintMore
attribute [local go_sem] max2_int min2_int max_two min_two max_three min_three max_four min_four   -- for this text's walks alone
set_option linter.unusedVariables false
set_option linter.unusedSimpArgs false

/-! ### impl_in: function 53 -/
def impl_in.f (a0 : Int) (a1 : Int) (a2 : Int) : Option (Bool) := if a0 ≥ a1 then (some (decide (a0 ≤ a2))) else (some false)
set_option maxHeartbeats 8000000 in
set_option maxRecDepth 100000 in
theorem impl_in.calls (a0 : Int) (a1 : Int) (a2 : Int) (r : Bool) (w : World) (h : impl_in.f a0 a1 a2 = some r) :
  Calls Try.prog 53 #[.int .i64 a0, .int .i64 a1, .int .i64 a2] w fun e w' => e = .returned (.bool r) ∧ Drawn0 w w' := by
 have H : (if a0 ≥ a1 then (some (decide (a0 ≤ a2))) else (some false)) = some r := h
 clear h
 by_cases c4 : a0 ≥ a1
 ·rw [if_pos c4] at H
  have c4b0 : decide (a1 ≤ a0) = true := decide_eq_true c4
  clear c4
  obtain rfl := Option.some.inj H
  go_enter Try.func53, Try.ntmps53
  go_wp2
  go_ret
  exact ⟨by first | rfl | (simp; done) | (simp [*]; done), by repeat (first | exact Drawn0.refl _ | apply Drawn0.step)⟩
 ·rw [if_neg c4] at H
  have c4b0 : decide (a1 ≤ a0) = false := decide_eq_false c4
  clear c4
  obtain rfl := Option.some.inj H
  go_enter Try.func53, Try.ntmps53
  go_wp2
  go_ret
  exact ⟨by first | rfl | (simp; done) | (simp [*]; done), by repeat (first | exact Drawn0.refl _ | apply Drawn0.step)⟩

end Go.Proofs.Ytcbpbnkoolpibaa.P
namespace Go.Proofs.Ytcbpbnkoolpibaa.P
open Go.RowKit Go.Proofs.YtcbpbnkoolpibaaW.PrintWords Go.Proofs.YtcbpbnkoolpibaaW.PrintLast Go.Proofs.YtcbpbnkoolpibaaW.PrintMore
attribute [local go_sem] max2_int min2_int max_two min_two max_three min_three max_four min_four   -- for this text's walks alone
set_option linter.unusedVariables false
set_option linter.unusedSimpArgs false

theorem eqA57 (d : Nat) (w : World) (x0 y0 : Int) (x1 y1 : Int) (x2 y2 : Int) (x3 y3 : Int) (x4 y4 : Int) (x5 y5 : Int) (x6 y6 : ByteArray) :
    (Op.equalIn (d + 2) 57 (.agg #[.int .i64 x0, .int .i64 x1, .int .i64 x2, .int .i64 x3, .int .i64 x4, .int .i64 x5, .string x6]) (.agg #[.int .i64 y0, .int .i64 y1, .int .i64 y2, .int .i64 y3, .int .i64 y4, .int .i64 y5, .string y6])).run Try.prog w = .ok (x0 == y0 && (x1 == y1 && (x2 == y2 && (x3 == y3 && (x4 == y4 && (x5 == y5 && (x6.toList == y6.toList))))))) w := by
  refine eqA_of Try.underlying57 (by kernel_rfl) ?_
  refine eqf_cons (by rfl) (by go_simp; rfl) (by go_simp; rfl) (by go_simp) ?_
  refine eqf_cons (by rfl) (by go_simp; rfl) (by go_simp; rfl) (by go_simp) ?_
  refine eqf_cons (by rfl) (by go_simp; rfl) (by go_simp; rfl) (by go_simp) ?_
  refine eqf_cons (by rfl) (by go_simp; rfl) (by go_simp; rfl) (by go_simp) ?_
  refine eqf_cons (by rfl) (by go_simp; rfl) (by go_simp; rfl) (by go_simp) ?_
  refine eqf_cons (by rfl) (by go_simp; rfl) (by go_simp; rfl) (by go_simp) ?_
  exact eqf_last (by rfl) (by go_simp; rfl) (by go_simp; rfl) (by go_simp)
end Go.Proofs.Ytcbpbnkoolpibaa.P
namespace Go.Proofs.Ytcbpbnkoolpibaa.P
open Go.RowKit Go.Proofs.YtcbpbnkoolpibaaW.PrintWords Go.Proofs.YtcbpbnkoolpibaaW.PrintLast Go.Proofs.YtcbpbnkoolpibaaW.PrintMore
attribute [local go_sem] max2_int min2_int max_two min_two max_three min_three max_four min_four   -- for this text's walks alone
set_option linter.unusedVariables false
set_option linter.unusedSimpArgs false

/-! ### slices_Index_string_string: function 113 -/
def slices_Index_string_string.l0 : Nat → List ByteArray → ByteArray → Int → Int → Option (Int)
  | 0, _, _, _, _ => none
  | k + 1, x0, x1, x7, x8 => if x8 < x7 then (if 0 ≤ x8 then (if x8 < (x0.length : Int) then (if x1.toList = (rdOf ByteArray.empty x0 x8).toList then (some x8) else (slices_Index_string_string.l0 k x0 x1 x7 (wrap64 (x8 + 1)))) else (none)) else (none)) else (some (-1))
def slices_Index_string_string.f (k : Nat) (l0 : List ByteArray) (a1 : ByteArray) : Option (Int) := slices_Index_string_string.l0 k l0 a1 (l0.length : Int) 0
theorem slices_Index_string_string.mono_l : ∀ k, (∀ y0 y1 y2 y3, LeO (slices_Index_string_string.l0 k y0 y1 y2 y3) (slices_Index_string_string.l0 (k + 1) y0 y1 y2 y3))
  | 0 => fun _ _ _ _ r h => by simp [slices_Index_string_string.l0] at h
  | k + 1 => by
    have ih0 := slices_Index_string_string.mono_l k
    · intro y0 y1 y2 y3
      unfold slices_Index_string_string.l0
      repeat' first
      | (with_reducible exact ih0 _ _ _ _)
      | (with_reducible exact LeO.refl _)
      | (with_reducible exact LeO.none _)
      | (with_reducible refine LeO.ite ?_ ?_)
      | (with_reducible refine LeO.bind ?_ (fun _ => ?_))
      | exact ih0 _ _ _ _
      | exact LeO.none _
      | refine LeO.ite ?_ ?_
      | refine LeO.bind ?_ (fun _ => ?_)
theorem slices_Index_string_string.mono : ∀ a0 a1 k, LeO (slices_Index_string_string.f k a0 a1) (slices_Index_string_string.f (k + 1) a0 a1) := by
  intro a0 a1 k
  have ih0 := slices_Index_string_string.mono_l k
  unfold slices_Index_string_string.f
  repeat' first
      | (with_reducible exact ih0 _ _ _ _)
      | (with_reducible exact LeO.refl _)
      | (with_reducible exact LeO.none _)
      | (with_reducible refine LeO.ite ?_ ?_)
      | (with_reducible refine LeO.bind ?_ (fun _ => ?_))
      | exact ih0 _ _ _ _
      | exact LeO.none _
      | refine LeO.ite ?_ ?_
      | refine LeO.bind ?_ (fun _ => ?_)
set_option maxHeartbeats 8000000 in
set_option maxRecDepth 100000 in
theorem slices_Index_string_string.calls (k : Nat) (A0 : Option Addr) (c0 : Nat) (l0 : List ByteArray) (a1 : ByteArray) (r : Int) (w : World) (hr0 : Kd.C Kd.string w A0 l0.length l0) (hc0 : l0.length ≤ c0) (h : slices_Index_string_string.f k l0 a1 = some r) :
  Calls Try.prog 113 #[.slice A0 l0.length c0, .string a1] w fun e w' => e = .returned (.int .i64 r) ∧ Drawn0 w w' := by
 have HR0 := Zs0.mk hr0
 have HC0 := Zs0.mk hc0
 clear hr0 hc0
 have H : (slices_Index_string_string.l0 k l0 a1 (l0.length : Int) 0) = some r := h
 clear h
 have H' := Zs0.mk H
 clear H
 go_enter Try.func113, Try.ntmps113
 go_wp2
 go_loopg [8] k (fun kq v8 w' => ∃ (x8_1 : Int), v8 = .int .i64 x8_1 ∧ Zs0 (slices_Index_string_string.l0 kq l0 a1 (l0.length : Int) x8_1 = some r) ∧ Zs0 (kq ≤ k) ∧ Drawn0 w w')
 case atStart => exact ⟨(0), zq, H', ⟨Nat.le_refl _⟩, by repeat (first | exact Drawn0.refl _ | apply Drawn0.step)⟩
 case round =>
  clear H'
  try clear c1
  try clear p2
  obtain ⟨x8_1, rfl, HA, HK1, ⟨m1, rfl⟩⟩ := hrel
  cases gk with
  | zero => exact absurd HA.out (by simp [slices_Index_string_string.l0])
  | succ k1 =>
   have H := HA.out
   clear HA
   simp only [slices_Index_string_string.l0] at H
   by_cases c3 : x8_1 < (l0.length : Int)
   ·rw [if_pos c3] at H
    have c3b0 : decide (x8_1 < (l0.length : Int)) = true := decide_eq_true c3
    clear c3
    have c4 := ipos H
    rw [if_pos c4] at H
    have c4b0 := decide_eq_true c4
    clear c4
    have c5 := ipos H
    rw [if_pos c5] at H
    have c5b0 := decide_eq_true c5
    clear c5
    by_cases c6 : a1.toList = (rdOf ByteArray.empty l0 x8_1).toList
    ·rw [if_pos c6] at H
     have c6b0 : (a1.toList == (rdOf ByteArray.empty l0 x8_1).toList) = true := beq_iff_eq.mpr c6
     have c6b1 : (a1.toList != (rdOf ByteArray.empty l0 x8_1).toList) = false := bne_eq_false_iff_eq.mpr c6
     clear c6
     obtain rfl := Option.some.inj H
     have p101 : 0 ≤ (x8_1 : Int) := zD
     have q101 : x8_1 < (l0.length : Int) := zD
     obtain ⟨ad101, e101, hx101_0⟩ := Kd.at_string HR0.out x8_1 p101 q101
     cases e101
     replace p101 := eq_true p101
     replace q101 := eq_true q101
     go_wp2
     go_ret
     exact ⟨by first | rfl | (simp; done) | (simp [*]; done), by repeat (first | exact Drawn0.refl _ | apply Drawn0.step)⟩
    ·rw [if_neg c6] at H
     have c6b0 : (a1.toList == (rdOf ByteArray.empty l0 x8_1).toList) = false := beq_eq_false_iff_ne.mpr c6
     have c6b1 : (a1.toList != (rdOf ByteArray.empty l0 x8_1).toList) = true := bne_iff_ne.mpr c6
     have H' := Zs0.mk H
     clear H
     have p101 : 0 ≤ (x8_1 : Int) := zD
     have q101 : x8_1 < (l0.length : Int) := zD
     obtain ⟨ad101, e101, hx101_0⟩ := Kd.at_string HR0.out x8_1 p101 q101
     cases e101
     replace p101 := eq_true p101
     replace q101 := eq_true q101
     go_wp2
     go_roundg k1
     case measure => have := HK1.out; omega
     case rel => exact ⟨(wrap64 (x8_1 + 1)), zq, H', ⟨by have := HK1.out; omega⟩, by repeat (first | exact Drawn0.refl _ | apply Drawn0.step)⟩
   ·rw [if_neg c3] at H
    have c3b0 : decide (x8_1 < (l0.length : Int)) = false := decide_eq_false c3
    clear c3
    obtain rfl := Option.some.inj H
    go_wp2
    go_ret
    exact ⟨by first | rfl | (simp; done) | (simp [*]; done), by repeat (first | exact Drawn0.refl _ | apply Drawn0.step)⟩

end Go.Proofs.Ytcbpbnkoolpibaa.P
namespace Go.Proofs.Ytcbpbnkoolpibaa.P
open Go.RowKit Go.Proofs.YtcbpbnkoolpibaaW.PrintWords Go.Proofs.YtcbpbnkoolpibaaW.PrintLast Go.Proofs.YtcbpbnkoolpibaaW.PrintMore
attribute [local go_sem] max2_int min2_int max_two min_two max_three min_three max_four min_four   -- for this text's walks alone
set_option linter.unusedVariables false
set_option linter.unusedSimpArgs false

/-! ### slices_Contains_string_string: function 106 -/
def slices_Contains_string_string.f (k : Nat) (l0 : List ByteArray) (a1 : ByteArray) : Option (Bool) := (slices_Index_string_string.f k l0 a1).bind fun t101 => (some (decide (t101 ≥ 0)))
theorem slices_Contains_string_string.mono : ∀ a0 a1 k, LeO (slices_Contains_string_string.f k a0 a1) (slices_Contains_string_string.f (k + 1) a0 a1) := by
  intro a0 a1 k
  unfold slices_Contains_string_string.f
  repeat' first
      | (with_reducible exact slices_Index_string_string.mono _ _ _)
      | (with_reducible exact LeO.refl _)
      | (with_reducible exact LeO.none _)
      | (with_reducible refine LeO.ite ?_ ?_)
      | (with_reducible refine LeO.bind ?_ (fun _ => ?_))
      | exact slices_Index_string_string.mono _ _ _
      | exact LeO.none _
      | refine LeO.ite ?_ ?_
      | refine LeO.bind ?_ (fun _ => ?_)
set_option maxHeartbeats 8000000 in
set_option maxRecDepth 100000 in
theorem slices_Contains_string_string.calls (k : Nat) (A0 : Option Addr) (c0 : Nat) (l0 : List ByteArray) (a1 : ByteArray) (r : Bool) (w : World) (hr0 : Kd.C Kd.string w A0 l0.length l0) (hc0 : l0.length ≤ c0) (h : slices_Contains_string_string.f k l0 a1 = some r) :
  Calls Try.prog 106 #[.slice A0 l0.length c0, .string a1] w fun e w' => e = .returned (.bool r) ∧ Drawn0 w w' := by
 have HR0 := Zs0.mk hr0
 have HC0 := Zs0.mk hc0
 clear hr0 hc0
 have H : ((slices_Index_string_string.f k l0 a1).bind fun t101 => (some (decide (t101 ≥ 0)))) = some r := h
 clear h
 replace H := Option.bind_eq_some_iff.mp H
 obtain ⟨t101, A30, H⟩ := H
 replace H : (some (decide (t101 ≥ 0))) = some r := H
 have A3 := Zs0.mk A30
 clear A30
 obtain rfl := Option.some.inj H
 go_enter Try.func106, Try.ntmps106
 go_wp2_with (first | ((with_reducible refine gtC (f := 113) rfl ?_); refine goesL_ (some 7) rfl rfl Try.func113 (by kernel_rfl) rfl #[.slice A0 l0.length c0, .string a1] rfl zM ?_; (with_reducible refine (slices_Index_string_string.calls k _ _ l0 a1 t101 _ ?side1 ?side2 A3.out).mono ?_); (case side1 => repeat (first | exact HR0.out | (with_reducible refine Kd.cA1 ?_ _) | (with_reducible refine Kd.cD1 ?_ _) | (with_reducible refine Kd.cD2 ?_))); (case side2 => exact HC0.out); rintro e w' ⟨rfl, ⟨nd, rfl⟩⟩; refine ⟨_, rfl, ?_⟩))
 go_ret
 exact ⟨by first | rfl | (simp; done) | (simp [*]; done), by repeat (first | exact Drawn0.refl _ | apply Drawn0.step)⟩

end Go.Proofs.Ytcbpbnkoolpibaa.P
namespace Go.Proofs.Ytcbpbnkoolpibaa.P
open Go.RowKit Go.Proofs.YtcbpbnkoolpibaaW.PrintWords Go.Proofs.YtcbpbnkoolpibaaW.PrintLast Go.Proofs.YtcbpbnkoolpibaaW.PrintMore Go.Proofs.Ytcbpbnkoolpibaa.Aux
set_option linter.unusedVariables false
set_option linter.unusedSimpArgs false
/-- Whether a number lies between two. -/
def inR (x a b : Int) : Bool := decide (a ≤ x) && decide (x ≤ b)
theorem in_calls2 (x a b : Int) (w : World) : Calls Try.prog 53 #[.int .i64 x, .int .i64 a, .int .i64 b] w fun e w' => e = .returned (.bool (inR x a b)) ∧ w = w' := by
  unfold inR
  by_cases h : a ≤ x
  · have d0 : decide (a ≤ x) = true := decide_eq_true h
    go_enter Try.func53, Try.ntmps53
    go_wp2
    go_ret
    exact ⟨by simp [d0], rfl⟩
  · have d0 : decide (a ≤ x) = false := decide_eq_false h
    go_enter Try.func53, Try.ntmps53
    go_wp2
    go_ret
    exact ⟨by simp [d0], rfl⟩
theorem index_l0 (xs : List ByteArray) (s : ByteArray) (hn : xs.length < 9223372036854775807) (d : Nat) : ∀ i : Nat, i + d = xs.length → ∃ r, Ev (fun k => slices_Index_string_string.l0 k xs s (xs.length : Int) (i : Int)) r ∧ decide (r ≥ 0) = (xs.drop i).any fun x => x.toList = s.toList := by
  induction d with
  | zero =>
    intro i hi
    refine ⟨-1, Ev.step (fun k => by rw [slices_Index_string_string.l0, if_neg (by omega)]) (Ev.now _), ?_⟩
    rw [List.drop_eq_nil_of_le (by omega)]
    rfl
  | succ d ih =>
    intro i hi
    have hd : xs.drop i = xs[i]'(by omega) :: xs.drop (i + 1) := List.drop_eq_getElem_cons (by omega)
    have hr := rdOf_lt ByteArray.empty xs i (by omega)
    by_cases h : s.toList = (xs[i]'(by omega)).toList
    · refine ⟨i, Ev.step (f := fun _ => some (i : Int)) (fun k => by rw [slices_Index_string_string.l0, if_pos (by omega), if_pos (by omega), if_pos (by omega), hr, if_pos h]) (Ev.now _), ?_⟩
      rw [hd, List.any_cons, decide_eq_true (show (i : Int) ≥ 0 by omega), decide_eq_true h.symm, Bool.true_or]
    · obtain ⟨r, h1, h2⟩ := ih (i + 1) (by omega)
      refine ⟨r, Ev.step (fun k => by rw [slices_Index_string_string.l0, if_pos (by omega), if_pos (by omega), if_pos (by omega), hr, if_neg h, wrap_ok (by omega) (by omega), Int.natCast_succ]) h1, ?_⟩
      rw [hd, List.any_cons, h2]
      have h' : ¬ (xs[i]'(by omega)).toList = s.toList := fun e => h e.symm
      simp only [h', decide_false, Bool.false_or]
theorem contains_f (xs : List ByteArray) (s : ByteArray) (hn : xs.length < 9223372036854775807) : Ev (fun k => slices_Contains_string_string.f k xs s) (xs.any fun x => x.toList = s.toList) := by
  obtain ⟨r, h1, h2⟩ := index_l0 xs s hn xs.length 0 (by omega)
  rw [List.drop_zero] at h2
  rw [← h2]
  exact Ev.bind (f := fun _ t => some (decide (t ≥ 0))) h1 (Ev.now _)
/-- The signs of operations. -/
def signs : List ByteArray := [(⟨#[61, 61]⟩ : ByteArray), (⟨#[60]⟩ : ByteArray), (⟨#[38]⟩ : ByteArray), (⟨#[43]⟩ : ByteArray), (⟨#[45]⟩ : ByteArray), (⟨#[42]⟩ : ByteArray)]
def signB (t : ByteArray) : Bool := signs.any fun x => x.toList = t.toList
theorem sign_calls (t : ByteArray) (w : World) : Calls Try.prog 91 #[.string t] w fun e w' => e = .returned (.bool (signB t)) ∧ ∃ n, (w.alloc (.cells #[.string ⟨#[61, 61]⟩, .string ⟨#[60]⟩, .string ⟨#[38]⟩, .string ⟨#[43]⟩, .string ⟨#[45]⟩, .string ⟨#[42]⟩] 9)).drewN n = w' := by
  obtain ⟨k, hk⟩ := (contains_f signs t (by simp [signs])).rounds
  have HK := Zs0.mk hk
  clear hk
  have hC : Kd.C Kd.string (w.alloc (.cells #[.string ⟨#[61, 61]⟩, .string ⟨#[60]⟩, .string ⟨#[38]⟩, .string ⟨#[43]⟩, .string ⟨#[45]⟩, .string ⟨#[42]⟩] 9)) (some ⟨w.heap.size, 0, none⟩) signs.length signs := by
    have ho := own_lit_of (enc := Value.string) w 0 9 signs (Nat.zero_le _) (by simp [signs])
    obtain ⟨A, c, e1, h⟩ := own_reads_of (d := ByteArray.empty) ho
    injection e1 with e2 e3 e4
    subst e2
    exact Kd.C_of_reads h
  have HC := Zs0.mk hC
  clear hC
  go_enter Try.func91, Try.ntmps91
  go_wp2_with (go_at_call 106; refine (slices_Contains_string_string.calls k _ _ signs t (signB t) _ HC.out (Nat.le_refl _) HK.out).mono ?_; rintro e w' ⟨rfl, ⟨nd, rfl⟩⟩)
  go_ret
  exact ⟨rfl, _, rfl⟩
end Go.Proofs.Ytcbpbnkoolpibaa.P
