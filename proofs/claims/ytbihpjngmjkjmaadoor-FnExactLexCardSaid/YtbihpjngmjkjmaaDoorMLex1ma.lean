/- The word at the front of a text: the reference's, by places, and the program's, by what is left, are one. Conditions: a text that is not too long. -/
import Derived.Test.YtbihpjngmjkjmaaDoorMLex0b
import Derived.Test.YtbihpjngmjkjmaaDoorMLex0na
import Derived.Test.YtbihpjngmjkjmaaDoorMLexxF55
import Derived.Test.YtbihpjngmjkjmaaDoorMLexxF56
namespace Go.Proofs.YtbihpjngmjkjmaaDoor.Dec
open Go.RowKit Go.Proofs.YtbihpjngmjkjmaaDoor.P Go.Proofs.YtbihpjngmjkjmaaDoorW.PrintWords Go.Proofs.YtbihpjngmjkjmaaDoorW.PrintLast Go.Proofs.YtbihpjngmjkjmaaDoor.Aux Go.Lib
set_option linter.unusedVariables false
set_option linter.unusedSimpArgs false
def LT (b : Int) : Bool := decide (97 ≤ b ∧ b ≤ 122)
def DG (b : Int) : Bool := decide (48 ≤ b ∧ b ≤ 57)
theorem small_f (b : Int) : impl_isSmall.f b = some (LT b) := by
  unfold impl_isSmall.f LT
  by_cases h : b ≥ 97
  · rw [if_pos h]
    by_cases h2 : b ≤ 122
    · rw [decide_eq_true h2, decide_eq_true ⟨h, h2⟩]
    · rw [decide_eq_false h2, decide_eq_false (fun z => h2 z.2)]
  · rw [if_neg h, decide_eq_false (fun z => h z.1)]
theorem dig_f (b : Int) : impl_isDigit.f b = some (DG b) := by
  unfold impl_isDigit.f DG
  by_cases h : b ≥ 48
  · rw [if_pos h]
    by_cases h2 : b ≤ 57
    · rw [decide_eq_true h2, decide_eq_true ⟨h, h2⟩]
    · rw [decide_eq_false h2, decide_eq_false (fun z => h2 z.2)]
  · rw [if_neg h, decide_eq_false (fun z => h z.1)]
theorem let_s (s : ByteArray) (i : Int) : spec_l01Letter.f (bt s i) = some (LT (bt s i)) := (Nm.letter s i).trans (small_f _)
theorem dig_s (s : ByteArray) (i : Int) : spec_l01Digit.f (bt s i) = some (DG (bt s i)) := (Nm.digit s i).trans (dig_f _)
theorem bt_rest (s : ByteArray) (i j : Nat) (h : i + j < s.size) : bt (s.extract i s.size) (j : Int) = bt s ((i + j : Nat) : Int) := by
  have h1 : j < (s.extract i s.size).data.toList.length := by rw [ba_len, rest_size]; omega
  have h2 : i + j < s.data.toList.length := by rw [ba_len]; exact h
  rw [bt_list _ j h1, bt_list s (i + j) h2]
  simp only [rest_list, List.getElem_drop]
theorem piece0 (s : ByteArray) (i m : Nat) (h : i + m ≤ s.size) : (s.extract i s.size).extract 0 m = s.extract i (i + m) := piece s i 0 m h
theorem pieceR (s : ByteArray) (i m : Nat) (h : i + m ≤ s.size) : (s.extract i s.size).extract m (s.extract i s.size).size = s.extract (i + m) s.size := by
  rw [rest_size, piece s i m (s.size - i) (by omega), show i + (s.size - i) = s.size by omega]
section
variable (s : ByteArray) (hs : s.size ≤ 1048576) (i : Nat) (hi : i < s.size)
include hs hi
/-- The letters and digits behind the first. -/
theorem name_run (d : Nat) : ∀ j : Nat, 1 ≤ j → i + j + d = s.size → ∃ m : Nat, j ≤ m ∧ i + m ≤ s.size ∧ Ev (fun k => impl_nameLong.l0 k (s.extract i s.size) (j : Int)) (m : Int) ∧
    ∀ R, Ev (fun k => spec_l01Next.j1 k s (i : Int) ((i + m : Nat) : Int)) R → Ev (fun k => spec_l01Next.l0 k s (i : Int) ((i + j : Nat) : Int)) R := by
  have hz := rest_size s i
  induction d with
  | zero =>
    intro j hj hd
    refine ⟨j, Nat.le_refl _, by omega, Ev.step (f := fun _ => some (j : Int)) (fun k => by rw [impl_nameLong.l0, if_neg (by omega)]) (Ev.now _), fun R hR => ?_⟩
    exact Ev.step (fun k => by rw [spec_l01Next.l0, if_neg (by omega)]) hR
  | succ d ih =>
    intro j hj hd
    obtain ⟨m, h1, h2, h3, h4⟩ := ih (j + 1) (by omega) (by omega)
    have hb := bt_rest s i j (by omega)
    have p1 : (j : Int) < ((s.extract i s.size).size : Int) := by omega
    have p2 : 0 ≤ (j : Int) := by omega
    have p3 : (j : Int) > 0 := by omega
    have q1 : ((i + j : Nat) : Int) < (s.size : Int) := by omega
    have q2 : 0 ≤ ((i + j : Nat) : Int) := by omega
    have e2 : i + (j + 1) = i + j + 1 := by omega
    rw [e2] at h4
    obtain ⟨w1, w2⟩ : wrap64 ((j : Int) + 1) = ((j + 1 : Nat) : Int) ∧ wrap64 (((i + j : Nat) : Int) + 1) = ((i + j + 1 : Nat) : Int) := ⟨by rw [wrap_ok (by omega) (by omega)]; omega, by rw [wrap_ok (by omega) (by omega)]; omega⟩
    cases hL : LT (bt s ((i + j : Nat) : Int)) with
    | true =>
      refine ⟨m, by clear w1 w2; omega, h2, Ev.step (fun k => by rw [impl_nameLong.l0, if_pos p1, if_pos p2, hb, small_f, hL, Option.bind_some, if_pos rfl, w1]) h3, fun R hR => ?_⟩
      exact Ev.step (fun k => by rw [spec_l01Next.l0, if_pos q1, if_pos q2, let_s, hL, Option.bind_some, if_pos rfl, w2]) (h4 R hR)
    | false =>
      cases hD : DG (bt s ((i + j : Nat) : Int)) with
      | true =>
        refine ⟨m, by clear w1 w2; omega, h2, Ev.step (fun k => by rw [impl_nameLong.l0, if_pos p1, if_pos p2, hb, small_f, hL, Option.bind_some, if_neg (by decide), if_pos p3, dig_f, hD, Option.bind_some, if_pos rfl, w1]) h3, fun R hR => ?_⟩
        exact Ev.step (fun k => by rw [spec_l01Next.l0, if_pos q1, if_pos q2, let_s, hL, Option.bind_some, if_neg (by decide), dig_s, hD, Option.bind_some, if_pos rfl, w2]) (h4 R hR)
      | false =>
        refine ⟨j, Nat.le_refl _, by clear w1 w2; omega, Ev.step (f := fun _ => some (j : Int)) (fun k => by rw [impl_nameLong.l0, if_pos p1, if_pos p2, hb, small_f, hL, Option.bind_some, if_neg (by decide), if_pos p3, dig_f, hD, Option.bind_some, if_neg (by decide)]) (Ev.now _), fun R hR => ?_⟩
        exact Ev.step (fun k => by rw [spec_l01Next.l0, if_pos q1, if_pos q2, let_s, hL, Option.bind_some, if_neg (by decide), dig_s, hD, Option.bind_some, if_neg (by decide)]) hR
/-- The digits, as_ the program counts them. -/
theorem dig_run (d : Nat) : ∀ j : Nat, i + j + d = s.size → ∃ m : Nat, j ≤ m ∧ i + m ≤ s.size ∧ ∀ R, Ev (fun k => impl_tokenAt.j1 k (s.extract i s.size) (m : Int)) R → Ev (fun k => impl_tokenAt.l0 k (s.extract i s.size) (j : Int)) R := by
  have hz := rest_size s i
  induction d with
  | zero =>
    intro j hd
    exact ⟨j, Nat.le_refl _, by omega, fun R hR => Ev.step (fun k => by rw [impl_tokenAt.l0, if_neg (by omega)]) hR⟩
  | succ d ih =>
    intro j hd
    obtain ⟨m, h1, h2, h3⟩ := ih (j + 1) (by omega)
    have p1 : (j : Int) < ((s.extract i s.size).size : Int) := by omega
    have p2 : 0 ≤ (j : Int) := by omega
    have w1 : wrap64 ((j : Int) + 1) = ((j + 1 : Nat) : Int) := by rw [wrap_ok (by omega) (by omega)]; omega
    cases hD : DG (bt (s.extract i s.size) (j : Int)) with
    | true => exact ⟨m, by clear w1; omega, h2, fun R hR => Ev.step (fun k => by rw [impl_tokenAt.l0, if_pos p1, if_pos p2, dig_f, hD, Option.bind_some, if_pos rfl, w1]) (h3 R hR)⟩
    | false => exact ⟨j, Nat.le_refl _, by clear w1; omega, fun R hR => Ev.step (fun k => by rw [impl_tokenAt.l0, if_pos p1, if_pos p2, dig_f, hD, Option.bind_some, if_neg (by decide)]) hR⟩
omit hs hi in
theorem dg_val {b : UInt8} (h : DG (b.toNat : Int) = true) : ∃ e, digitVal b = some e ∧ (b.toNat : Int) = 48 + e ∧ e < 10 := by
  have h2 := of_decide_eq_true h
  refine ⟨b.toNat - 48, ?_, by omega, by omega⟩
  unfold digitVal
  rw [if_pos (by omega)]
/-- The digits, by both. -/
theorem num_run (d : Nat) : ∀ (j v : Nat), i + j + d = s.size → j ≤ 10 → decFrom 0 ((s.extract i s.size).data.toList.take j) = some v → ∃ m : Nat, j ≤ m ∧ i + m ≤ s.size ∧
    (∀ R, Ev (fun k => impl_tokenAt.j1 k (s.extract i s.size) (m : Int)) R → Ev (fun k => impl_tokenAt.l0 k (s.extract i s.size) (j : Int)) R) ∧
    (m ≤ 9 → ∃ u : Nat, decFrom 0 ((s.extract i s.size).data.toList.take m) = some u ∧ Ev (fun k => spec_l01Next.l1 k s (i : Int) ((i + j : Nat) : Int) (v : Int)) (1, (⟨#[]⟩ : ByteArray), (u : Int), 0, ((i + m : Nat) : Int))) ∧
    (¬ m ≤ 9 → Ev (fun k => spec_l01Next.l1 k s (i : Int) ((i + j : Nat) : Int) (v : Int)) ((0 : Int), (⟨#[]⟩ : ByteArray), (0 : Int), (0 : Int), (-1 : Int))) ∧
    (j < 10 → i + j < s.size → DG (bt (s.extract i s.size) (j : Int)) = true → j + 1 ≤ m) := by
  have hz := rest_size s i
  have hlen := ba_len (s.extract i s.size)
  induction d with
  | zero =>
    intro j v hd hj hv
    have wd : wrap64 (((i + j : Nat) : Int) - (i : Int)) = (j : Int) := by rw [wrap_ok (by omega) (by omega)]; omega
    have HD := Zs0.mk wd
    clear wd
    have n1 : ¬ ((i + j : Nat) : Int) < (s.size : Int) := by omega
    refine ⟨j, Nat.le_refl _, by omega, fun R hR => Ev.step (fun k => by rw [impl_tokenAt.l0, if_neg (by omega)]) hR, fun h9 => ⟨v, hv, ?_⟩, fun h9 => ?_, fun _ _ _ => by omega⟩
    · have g : ¬ (j : Int) > 9 := by omega
      exact Ev.step (f := fun _ => some _) (fun k => by rw [spec_l01Next.l1, if_neg n1, HD.out, if_neg g]) (Ev.now _)
    · have g : (j : Int) > 9 := by omega
      exact Ev.step (f := fun _ => some _) (fun k => by rw [spec_l01Next.l1, if_neg n1, HD.out, if_pos g]) (Ev.now _)
  | succ d ih =>
    intro j v hd hj hv
    have wd : wrap64 (((i + j : Nat) : Int) - (i : Int)) = (j : Int) := by rw [wrap_ok (by omega) (by omega)]; omega
    have HD := Zs0.mk wd
    clear wd
    have hb := bt_rest s i j (by omega)
    have hjl : j < (s.extract i s.size).data.toList.length := by omega
    have hbl := bt_list (s.extract i s.size) j hjl
    have q1 : ((i + j : Nat) : Int) < (s.size : Int) := by omega
    have q2 : 0 ≤ ((i + j : Nat) : Int) := by omega
    have p1 : (j : Int) < ((s.extract i s.size).size : Int) := by omega
    have p2 : 0 ≤ (j : Int) := by omega
    cases hD : DG (bt (s.extract i s.size) (j : Int)) with
    | false =>
      have hD2 : DG (bt s ((i + j : Nat) : Int)) = false := by rw [← hb]; exact hD
      refine ⟨j, Nat.le_refl _, by omega, fun R hR => Ev.step (fun k => by rw [impl_tokenAt.l0, if_pos p1, if_pos p2, dig_f, hD, Option.bind_some, if_neg (by decide)]) hR, fun h9 => ⟨v, hv, ?_⟩, fun h9 => ?_, fun _ _ z => by cases z⟩
      · have g : ¬ (j : Int) > 9 := by omega
        exact Ev.step (f := fun _ => some _) (fun k => by rw [spec_l01Next.l1, if_pos q1, if_pos q2, dig_s, hD2, Option.bind_some, if_neg (by decide), HD.out, if_neg g]) (Ev.now _)
      · have g : (j : Int) > 9 := by omega
        exact Ev.step (f := fun _ => some _) (fun k => by rw [spec_l01Next.l1, if_pos q1, if_pos q2, dig_s, hD2, Option.bind_some, if_neg (by decide), HD.out, if_pos g]) (Ev.now _)
    | true =>
      have hD2 : DG (bt s ((i + j : Nat) : Int)) = true := by rw [← hb]; exact hD
      by_cases h10 : j = 10
      · obtain ⟨m, h1, h2, h3⟩ := dig_run s hs i hi (d + 1) j (by omega)
        have g : ¬ (j : Int) < 10 := by omega
        have g2 : (j : Int) > 9 := by omega
        refine ⟨m, h1, h2, h3, fun h9 => by omega, fun h9 => ?_, fun _ _ _ => by omega⟩
        exact Ev.step (f := fun _ => some _) (fun k => by rw [spec_l01Next.l1, if_pos q1, if_pos q2, dig_s, hD2, Option.bind_some, if_pos rfl, HD.out, if_neg g, if_pos g2]) (Ev.now _)
      · rw [hbl] at hD
        obtain ⟨e, e1, e2, e3⟩ := dg_val hD
        have hn2 := decFrom_take _ j 0 v _ e hv (List.getElem?_eq_getElem hjl) e1
        have hlt := decFrom_lt _ 0 v hv
        rw [List.length_take, Nat.min_eq_left (by omega)] at hlt
        have hp : 10 ^ j ≤ 10 ^ 9 := Nat.pow_le_pow_right (by decide) (by omega)
        have e9 : (10 : Nat) ^ 9 = 1000000000 := by decide
        obtain ⟨m, h1, h2, h3, h4, h5, _⟩ := ih (j + 1) (v * 10 + e) (by omega) (by omega) hn2
        have e2' : i + (j + 1) = i + j + 1 := by omega
        rw [e2'] at h4 h5
        have hbs : bt s ((i + j : Nat) : Int) = 48 + (e : Int) := by rw [← hb, hbl, e2]
        have g : (j : Int) < 10 := by omega
        obtain ⟨w1, w2, w3⟩ : wrap64 ((j : Int) + 1) = ((j + 1 : Nat) : Int) ∧ wrap64 (((i + j : Nat) : Int) + 1) = ((i + j + 1 : Nat) : Int) ∧ wrap64 (wrap64 (wrap64 (10 * (v : Int)) + wrap64 (48 + (e : Int))) - 48) = ((v * 10 + e : Nat) : Int) := by
          refine ⟨by rw [wrap_ok (by omega) (by omega)]; omega, by rw [wrap_ok (by omega) (by omega)]; omega, ?_⟩
          rw [wrap_ok (i := 10 * (v : Int)) (by omega) (by omega), wrap_ok (i := 48 + (e : Int)) (by omega) (by omega), wrap_ok (i := 10 * (v : Int) + (48 + (e : Int))) (by omega) (by omega), wrap_ok (by omega) (by omega)]
          omega
        rw [← hbl] at hD
        have st : ∀ R, Ev (fun k => spec_l01Next.l1 k s (i : Int) ((i + j + 1 : Nat) : Int) ((v * 10 + e : Nat) : Int)) R → Ev (fun k => spec_l01Next.l1 k s (i : Int) ((i + j : Nat) : Int) (v : Int)) R := fun R hR =>
          Ev.step (fun k => by rw [spec_l01Next.l1, if_pos q1, if_pos q2, dig_s, hD2, Option.bind_some, if_pos rfl, HD.out, if_pos g, hbs, w2, w3]) hR
        refine ⟨m, by clear w1 w2 w3; omega, h2, fun R hR => Ev.step (fun k => by rw [impl_tokenAt.l0, if_pos p1, if_pos p2, dig_f, hD, Option.bind_some, if_pos rfl, w1]) (h3 R hR), fun h9 => ?_, fun h9 => st _ (h5 h9), fun _ _ _ => h1⟩
        obtain ⟨u, u1, u2⟩ := h4 h9
        exact ⟨u, u1, st _ u2⟩
end
end Go.Proofs.YtbihpjngmjkjmaaDoor.Dec
