/- Functions of the program and of the reference as plain functions, and that the Go code comes to their answers; several texts in one. No conditions beyond what each theorem says. -/
import Derived.Test.YtbihpjngmjkjmaaDoorMFnLex0b
import Derived.Test.YtbihpjngmjkjmaaDoorMFnLex0ma
import Derived.Test.YtbihpjngmjkjmaaDoorMFnLexxF55
import Derived.Test.YtbihpjngmjkjmaaDoorMFnLexxF56
import Derived.Test.YtbihpjngmjkjmaaDoorMFnLex1a
import Derived.Test.YtbihpjngmjkjmaaDoorMFnLex1oa
import Derived.Test.YtbihpjngmjkjmaaDoorMFnLex0a
namespace Go.Proofs.YtbihpjngmjkjmaaDoor.Dec
open Go.RowKit Go.Proofs.YtbihpjngmjkjmaaDoor.P Go.Proofs.YtbihpjngmjkjmaaDoorW.PrintWords Go.Proofs.YtbihpjngmjkjmaaDoorW.PrintLast Go.Proofs.YtbihpjngmjkjmaaDoor.Aux Go.Lib
set_option linter.unusedVariables false
set_option linter.unusedSimpArgs false
def LT (b : Int) : Bool := decide (97 ≤ b ∧ b ≤ 122)
def DG (b : Int) : Bool := decide (48 ≤ b ∧ b ≤ 57)
theorem small_f (b : Int) : impl_isSmall.f b = some (LT b) := by
  unfold impl_isSmall.f LT
  by_cases h : b ≥ 97
  · rw [if_pos h]
    by_cases h2 : b ≤ 122
    · rw [decide_eq_true h2, decide_eq_true ⟨h, h2⟩]
    · rw [decide_eq_false h2, decide_eq_false (fun z => h2 z.2)]
  · rw [if_neg h, decide_eq_false (fun z => h z.1)]
theorem dig_f (b : Int) : impl_isDigit.f b = some (DG b) := by
  unfold impl_isDigit.f DG
  by_cases h : b ≥ 48
  · rw [if_pos h]
    by_cases h2 : b ≤ 57
    · rw [decide_eq_true h2, decide_eq_true ⟨h, h2⟩]
    · rw [decide_eq_false h2, decide_eq_false (fun z => h2 z.2)]
  · rw [if_neg h, decide_eq_false (fun z => h z.1)]
theorem let_s (s : ByteArray) (i : Int) : spec_l01Letter.f (bt s i) = some (LT (bt s i)) := (Nm.letter s i).trans (small_f _)
theorem dig_s (s : ByteArray) (i : Int) : spec_l01Digit.f (bt s i) = some (DG (bt s i)) := (Nm.digit s i).trans (dig_f _)
theorem bt_rest (s : ByteArray) (i j : Nat) (h : i + j < s.size) : bt (s.extract i s.size) (j : Int) = bt s ((i + j : Nat) : Int) := by
  have h1 : j < (s.extract i s.size).data.toList.length := by rw [ba_len, rest_size]; omega
  have h2 : i + j < s.data.toList.length := by rw [ba_len]; exact h
  rw [bt_list _ j h1, bt_list s (i + j) h2]
  simp only [rest_list, List.getElem_drop]
theorem piece0 (s : ByteArray) (i m : Nat) (h : i + m ≤ s.size) : (s.extract i s.size).extract 0 m = s.extract i (i + m) := piece s i 0 m h
theorem pieceR (s : ByteArray) (i m : Nat) (h : i + m ≤ s.size) : (s.extract i s.size).extract m (s.extract i s.size).size = s.extract (i + m) s.size := by
  rw [rest_size, piece s i m (s.size - i) (by omega), show i + (s.size - i) = s.size by omega]
section
variable (s : ByteArray) (hs : s.size ≤ 1048576) (i : Nat) (hi : i < s.size)
include hs hi
/-- The letters and digits behind the first. -/
theorem name_run (d : Nat) : ∀ j : Nat, 1 ≤ j → i + j + d = s.size → ∃ m : Nat, j ≤ m ∧ i + m ≤ s.size ∧ Ev (fun k => impl_nameLong.l0 k (s.extract i s.size) (j : Int)) (m : Int) ∧
    ∀ R, Ev (fun k => spec_l01Next.j1 k s (i : Int) ((i + m : Nat) : Int)) R → Ev (fun k => spec_l01Next.l0 k s (i : Int) ((i + j : Nat) : Int)) R := by
  have hz := rest_size s i
  induction d with
  | zero =>
    intro j hj hd
    refine ⟨j, Nat.le_refl _, by omega, Ev.step (f := fun _ => some (j : Int)) (fun k => by rw [impl_nameLong.l0, if_neg (by omega)]) (Ev.now _), fun R hR => ?_⟩
    exact Ev.step (fun k => by rw [spec_l01Next.l0, if_neg (by omega)]) hR
  | succ d ih =>
    intro j hj hd
    obtain ⟨m, h1, h2, h3, h4⟩ := ih (j + 1) (by omega) (by omega)
    have hb := bt_rest s i j (by omega)
    have p1 : (j : Int) < ((s.extract i s.size).size : Int) := by omega
    have p2 : 0 ≤ (j : Int) := by omega
    have p3 : (j : Int) > 0 := by omega
    have q1 : ((i + j : Nat) : Int) < (s.size : Int) := by omega
    have q2 : 0 ≤ ((i + j : Nat) : Int) := by omega
    have e2 : i + (j + 1) = i + j + 1 := by omega
    rw [e2] at h4
    obtain ⟨w1, w2⟩ : wrap64 ((j : Int) + 1) = ((j + 1 : Nat) : Int) ∧ wrap64 (((i + j : Nat) : Int) + 1) = ((i + j + 1 : Nat) : Int) := ⟨by rw [wrap_ok (by omega) (by omega)]; omega, by rw [wrap_ok (by omega) (by omega)]; omega⟩
    cases hL : LT (bt s ((i + j : Nat) : Int)) with
    | true =>
      refine ⟨m, by clear w1 w2; omega, h2, Ev.step (fun k => by rw [impl_nameLong.l0, if_pos p1, if_pos p2, hb, small_f, hL, Option.bind_some, if_pos rfl, w1]) h3, fun R hR => ?_⟩
      exact Ev.step (fun k => by rw [spec_l01Next.l0, if_pos q1, if_pos q2, let_s, hL, Option.bind_some, if_pos rfl, w2]) (h4 R hR)
    | false =>
      cases hD : DG (bt s ((i + j : Nat) : Int)) with
      | true =>
        refine ⟨m, by clear w1 w2; omega, h2, Ev.step (fun k => by rw [impl_nameLong.l0, if_pos p1, if_pos p2, hb, small_f, hL, Option.bind_some, if_neg (by decide), if_pos p3, dig_f, hD, Option.bind_some, if_pos rfl, w1]) h3, fun R hR => ?_⟩
        exact Ev.step (fun k => by rw [spec_l01Next.l0, if_pos q1, if_pos q2, let_s, hL, Option.bind_some, if_neg (by decide), dig_s, hD, Option.bind_some, if_pos rfl, w2]) (h4 R hR)
      | false =>
        refine ⟨j, Nat.le_refl _, by clear w1 w2; omega, Ev.step (f := fun _ => some (j : Int)) (fun k => by rw [impl_nameLong.l0, if_pos p1, if_pos p2, hb, small_f, hL, Option.bind_some, if_neg (by decide), if_pos p3, dig_f, hD, Option.bind_some, if_neg (by decide)]) (Ev.now _), fun R hR => ?_⟩
        exact Ev.step (fun k => by rw [spec_l01Next.l0, if_pos q1, if_pos q2, let_s, hL, Option.bind_some, if_neg (by decide), dig_s, hD, Option.bind_some, if_neg (by decide)]) hR
/-- The digits, as_ the program counts them. -/
theorem dig_run (d : Nat) : ∀ j : Nat, i + j + d = s.size → ∃ m : Nat, j ≤ m ∧ i + m ≤ s.size ∧ ∀ R, Ev (fun k => impl_tokenAt.j1 k (s.extract i s.size) (m : Int)) R → Ev (fun k => impl_tokenAt.l0 k (s.extract i s.size) (j : Int)) R := by
  have hz := rest_size s i
  induction d with
  | zero =>
    intro j hd
    exact ⟨j, Nat.le_refl _, by omega, fun R hR => Ev.step (fun k => by rw [impl_tokenAt.l0, if_neg (by omega)]) hR⟩
  | succ d ih =>
    intro j hd
    obtain ⟨m, h1, h2, h3⟩ := ih (j + 1) (by omega)
    have p1 : (j : Int) < ((s.extract i s.size).size : Int) := by omega
    have p2 : 0 ≤ (j : Int) := by omega
    have w1 : wrap64 ((j : Int) + 1) = ((j + 1 : Nat) : Int) := by rw [wrap_ok (by omega) (by omega)]; omega
    cases hD : DG (bt (s.extract i s.size) (j : Int)) with
    | true => exact ⟨m, by clear w1; omega, h2, fun R hR => Ev.step (fun k => by rw [impl_tokenAt.l0, if_pos p1, if_pos p2, dig_f, hD, Option.bind_some, if_pos rfl, w1]) (h3 R hR)⟩
    | false => exact ⟨j, Nat.le_refl _, by clear w1; omega, fun R hR => Ev.step (fun k => by rw [impl_tokenAt.l0, if_pos p1, if_pos p2, dig_f, hD, Option.bind_some, if_neg (by decide)]) hR⟩
omit hs hi in
theorem dg_val {b : UInt8} (h : DG (b.toNat : Int) = true) : ∃ e, digitVal b = some e ∧ (b.toNat : Int) = 48 + e ∧ e < 10 := by
  have h2 := of_decide_eq_true h
  refine ⟨b.toNat - 48, ?_, by omega, by omega⟩
  unfold digitVal
  rw [if_pos (by omega)]
/-- The digits, by both. -/
theorem num_run (d : Nat) : ∀ (j v : Nat), i + j + d = s.size → j ≤ 10 → decFrom 0 ((s.extract i s.size).data.toList.take j) = some v → ∃ m : Nat, j ≤ m ∧ i + m ≤ s.size ∧
    (∀ R, Ev (fun k => impl_tokenAt.j1 k (s.extract i s.size) (m : Int)) R → Ev (fun k => impl_tokenAt.l0 k (s.extract i s.size) (j : Int)) R) ∧
    (m ≤ 9 → ∃ u : Nat, decFrom 0 ((s.extract i s.size).data.toList.take m) = some u ∧ Ev (fun k => spec_l01Next.l1 k s (i : Int) ((i + j : Nat) : Int) (v : Int)) (1, (⟨#[]⟩ : ByteArray), (u : Int), 0, ((i + m : Nat) : Int))) ∧
    (¬ m ≤ 9 → Ev (fun k => spec_l01Next.l1 k s (i : Int) ((i + j : Nat) : Int) (v : Int)) ((0 : Int), (⟨#[]⟩ : ByteArray), (0 : Int), (0 : Int), (-1 : Int))) ∧
    (j < 10 → i + j < s.size → DG (bt (s.extract i s.size) (j : Int)) = true → j + 1 ≤ m) := by
  have hz := rest_size s i
  have hlen := ba_len (s.extract i s.size)
  induction d with
  | zero =>
    intro j v hd hj hv
    have wd : wrap64 (((i + j : Nat) : Int) - (i : Int)) = (j : Int) := by rw [wrap_ok (by omega) (by omega)]; omega
    have HD := Zs0.mk wd
    clear wd
    have n1 : ¬ ((i + j : Nat) : Int) < (s.size : Int) := by omega
    refine ⟨j, Nat.le_refl _, by omega, fun R hR => Ev.step (fun k => by rw [impl_tokenAt.l0, if_neg (by omega)]) hR, fun h9 => ⟨v, hv, ?_⟩, fun h9 => ?_, fun _ _ _ => by omega⟩
    · have g : ¬ (j : Int) > 9 := by omega
      exact Ev.step (f := fun _ => some _) (fun k => by rw [spec_l01Next.l1, if_neg n1, HD.out, if_neg g]) (Ev.now _)
    · have g : (j : Int) > 9 := by omega
      exact Ev.step (f := fun _ => some _) (fun k => by rw [spec_l01Next.l1, if_neg n1, HD.out, if_pos g]) (Ev.now _)
  | succ d ih =>
    intro j v hd hj hv
    have wd : wrap64 (((i + j : Nat) : Int) - (i : Int)) = (j : Int) := by rw [wrap_ok (by omega) (by omega)]; omega
    have HD := Zs0.mk wd
    clear wd
    have hb := bt_rest s i j (by omega)
    have hjl : j < (s.extract i s.size).data.toList.length := by omega
    have hbl := bt_list (s.extract i s.size) j hjl
    have q1 : ((i + j : Nat) : Int) < (s.size : Int) := by omega
    have q2 : 0 ≤ ((i + j : Nat) : Int) := by omega
    have p1 : (j : Int) < ((s.extract i s.size).size : Int) := by omega
    have p2 : 0 ≤ (j : Int) := by omega
    cases hD : DG (bt (s.extract i s.size) (j : Int)) with
    | false =>
      have hD2 : DG (bt s ((i + j : Nat) : Int)) = false := by rw [← hb]; exact hD
      refine ⟨j, Nat.le_refl _, by omega, fun R hR => Ev.step (fun k => by rw [impl_tokenAt.l0, if_pos p1, if_pos p2, dig_f, hD, Option.bind_some, if_neg (by decide)]) hR, fun h9 => ⟨v, hv, ?_⟩, fun h9 => ?_, fun _ _ z => by cases z⟩
      · have g : ¬ (j : Int) > 9 := by omega
        exact Ev.step (f := fun _ => some _) (fun k => by rw [spec_l01Next.l1, if_pos q1, if_pos q2, dig_s, hD2, Option.bind_some, if_neg (by decide), HD.out, if_neg g]) (Ev.now _)
      · have g : (j : Int) > 9 := by omega
        exact Ev.step (f := fun _ => some _) (fun k => by rw [spec_l01Next.l1, if_pos q1, if_pos q2, dig_s, hD2, Option.bind_some, if_neg (by decide), HD.out, if_pos g]) (Ev.now _)
    | true =>
      have hD2 : DG (bt s ((i + j : Nat) : Int)) = true := by rw [← hb]; exact hD
      by_cases h10 : j = 10
      · obtain ⟨m, h1, h2, h3⟩ := dig_run s hs i hi (d + 1) j (by omega)
        have g : ¬ (j : Int) < 10 := by omega
        have g2 : (j : Int) > 9 := by omega
        refine ⟨m, h1, h2, h3, fun h9 => by omega, fun h9 => ?_, fun _ _ _ => by omega⟩
        exact Ev.step (f := fun _ => some _) (fun k => by rw [spec_l01Next.l1, if_pos q1, if_pos q2, dig_s, hD2, Option.bind_some, if_pos rfl, HD.out, if_neg g, if_pos g2]) (Ev.now _)
      · rw [hbl] at hD
        obtain ⟨e, e1, e2, e3⟩ := dg_val hD
        have hn2 := decFrom_take _ j 0 v _ e hv (List.getElem?_eq_getElem hjl) e1
        have hlt := decFrom_lt _ 0 v hv
        rw [List.length_take, Nat.min_eq_left (by omega)] at hlt
        have hp : 10 ^ j ≤ 10 ^ 9 := Nat.pow_le_pow_right (by decide) (by omega)
        have e9 : (10 : Nat) ^ 9 = 1000000000 := by decide
        obtain ⟨m, h1, h2, h3, h4, h5, _⟩ := ih (j + 1) (v * 10 + e) (by omega) (by omega) hn2
        have e2' : i + (j + 1) = i + j + 1 := by omega
        rw [e2'] at h4 h5
        have hbs : bt s ((i + j : Nat) : Int) = 48 + (e : Int) := by rw [← hb, hbl, e2]
        have g : (j : Int) < 10 := by omega
        obtain ⟨w1, w2, w3⟩ : wrap64 ((j : Int) + 1) = ((j + 1 : Nat) : Int) ∧ wrap64 (((i + j : Nat) : Int) + 1) = ((i + j + 1 : Nat) : Int) ∧ wrap64 (wrap64 (wrap64 (10 * (v : Int)) + wrap64 (48 + (e : Int))) - 48) = ((v * 10 + e : Nat) : Int) := by
          refine ⟨by rw [wrap_ok (by omega) (by omega)]; omega, by rw [wrap_ok (by omega) (by omega)]; omega, ?_⟩
          rw [wrap_ok (i := 10 * (v : Int)) (by omega) (by omega), wrap_ok (i := 48 + (e : Int)) (by omega) (by omega), wrap_ok (i := 10 * (v : Int) + (48 + (e : Int))) (by omega) (by omega), wrap_ok (by omega) (by omega)]
          omega
        rw [← hbl] at hD
        have st : ∀ R, Ev (fun k => spec_l01Next.l1 k s (i : Int) ((i + j + 1 : Nat) : Int) ((v * 10 + e : Nat) : Int)) R → Ev (fun k => spec_l01Next.l1 k s (i : Int) ((i + j : Nat) : Int) (v : Int)) R := fun R hR =>
          Ev.step (fun k => by rw [spec_l01Next.l1, if_pos q1, if_pos q2, dig_s, hD2, Option.bind_some, if_pos rfl, HD.out, if_pos g, hbs, w2, w3]) hR
        refine ⟨m, by clear w1 w2 w3; omega, h2, fun R hR => Ev.step (fun k => by rw [impl_tokenAt.l0, if_pos p1, if_pos p2, dig_f, hD, Option.bind_some, if_pos rfl, w1]) (h3 R hR), fun h9 => ?_, fun h9 => st _ (h5 h9), fun _ _ _ => h1⟩
        obtain ⟨u, u1, u2⟩ := h4 h9
        exact ⟨u, u1, st _ u2⟩
end
end Go.Proofs.YtbihpjngmjkjmaaDoor.Dec
namespace Go.Proofs.YtbihpjngmjkjmaaDoor.Dec
open Go.RowKit Go.Proofs.YtbihpjngmjkjmaaDoor.P Go.Proofs.YtbihpjngmjkjmaaDoorW.PrintWords Go.Proofs.YtbihpjngmjkjmaaDoorW.PrintLast Go.Proofs.YtbihpjngmjkjmaaDoor.Aux Go.Lib
set_option linter.unusedVariables false
set_option linter.unusedSimpArgs false
theorem sign_byte : ∀ c : Fin 256, ([[40], [41], [123], [125], [91], [93], [44], [59], [61], [60], [43], [45], [42], [38]].any fun l => decide (l = [UInt8.ofNat c.val])) = decide (0 ≤ indexByte [40, 41, 123, 125, 91, 93, 44, 59, 61, 60, 43, 45, 42, 38] (UInt8.ofNat c.val)) := by decide +kernel
theorem sign_same (c : UInt8) : ([[40], [41], [123], [125], [91], [93], [44], [59], [61], [60], [43], [45], [42], [38]].any fun l => decide (l = [c])) = decide (0 ≤ indexByte [40, 41, 123, 125, 91, 93, 44, 59, 61, 60, 43, 45, 42, 38] c) := by
  have h := sign_byte ⟨c.toNat, c.toNat_lt⟩
  have e : UInt8.ofNat c.toNat = c := by simp
  rw [e] at h
  exact h
/-- What the reference answers, out of what the program answers. -/
def atPlace (i : Nat) (a : Int) (t : ByteArray) (n : Int) (m : Nat) : Int × ByteArray × Int × Int × Int := if m = 0 then ((0 : Int), (⟨#[]⟩ : ByteArray), (0 : Int), (0 : Int), (-1 : Int)) else (a, t, n, 0, ((i + m : Nat) : Int))
theorem atPlace_no (i : Nat) (a : Int) (t : ByteArray) (n : Int) : atPlace i a t n 0 = ((0 : Int), (⟨#[]⟩ : ByteArray), (0 : Int), (0 : Int), (-1 : Int)) := if_pos rfl
theorem atPlace_yes (i : Nat) (a : Int) (t : ByteArray) (n : Int) {m : Nat} (h : 1 ≤ m) : atPlace i a t n m = (a, t, n, 0, ((i + m : Nat) : Int)) := if_neg (by omega)
theorem one_byte (s : ByteArray) (i : Nat) (hi : i < s.size) : ∃ c : UInt8, (s.extract i (i + 1)).data.toList = [c] ∧ bt s (i : Int) = (c.toNat : Int) := by
  have hl : i < s.data.toList.length := by rw [ba_len]; exact hi
  refine ⟨s.data.toList[i], ?_, bt_list s i hl⟩
  rw [extract_data, show i + 1 - i = 1 by omega, List.drop_eq_getElem_cons hl]
  rfl
theorem hasP (s : ByteArray) : strings_HasPrefix.f s (⟨#[61, 61]⟩ : ByteArray) = some (if 2 ≤ s.size then ((s.extract 0 2).toList == ([61, 61] : List UInt8)) else false) := by
  have e2 : ((⟨#[61, 61]⟩ : ByteArray).size : Int) = 2 := rfl
  have e3 : (⟨#[61, 61]⟩ : ByteArray).toList = ([61, 61] : List UInt8) := by rw [ba_toList]
  unfold strings_HasPrefix.f stringslite_HasPrefix.f
  rw [e2, e3]
  by_cases h : 2 ≤ s.size
  · rw [if_pos (show (s.size : Int) ≥ 2 by omega), if_pos (by decide), if_pos (by omega), if_pos h]
    rfl
  · rw [if_neg (show ¬ (s.size : Int) ≥ 2 by omega), if_neg h]
    rfl
section
variable (s : ByteArray) (hs : s.size ≤ 1048576) (i : Nat) (hi : i < s.size)
include hs hi
/-- Both answers at a place. -/
theorem tok : ∃ (a : Int) (t : ByteArray) (n : Int) (m : Nat), i + m ≤ s.size ∧ Ev (fun k => impl_tokenAt.f k (s.extract i s.size)) (a, t, n, 0, (m : Int)) ∧ Ev (fun k => spec_l01Next.f k s (i : Int)) (atPlace i a t n m) := by
  have hz := rest_size s i
  have hb := bt_rest s i 0 (by omega)
  rw [Nat.add_zero] at hb
  have hb : bt (s.extract i s.size) 0 = bt s (i : Int) := hb
  have q1 : (i : Int) < (s.size : Int) := by omega
  have q2 : 0 ≤ (i : Int) := by omega
  have p1 : (0 : Int) < ((s.extract i s.size).size : Int) := by omega
  have spec0 : ∀ R, (LT (bt s (i : Int)) = true → Ev (fun k => spec_l01Next.l0 k s (i : Int) (i : Int)) R) → (LT (bt s (i : Int)) = false → DG (bt s (i : Int)) = true → Ev (fun k => spec_l01Next.l1 k s (i : Int) (i : Int) 0) R) →
      (LT (bt s (i : Int)) = false → DG (bt s (i : Int)) = false → Ev (fun k => if (wrap64 ((i : Int) + 2)) ≤ (s.size : Int) then (if (i : Int) ≤ (wrap64 ((i : Int) + 2)) then (spec_l01Next.j3 k s (i : Int) ((s.extract ((i : Int) : Int).toNat ((wrap64 ((i : Int) + 2)) : Int).toNat).toList == ([61, 61] : List UInt8))) else (none)) else (spec_l01Next.j3 k s (i : Int) false)) R) → Ev (fun k => spec_l01Next.f k s (i : Int)) R := by
    intro R f1 f2 f3
    unfold spec_l01Next.f
    refine Ev.ite_pos q2 (Ev.ite_pos q1 (Ev.const (let_s s i) ?_))
    cases hL : LT (bt s (i : Int)) with
    | true => exact Ev.ite_pos rfl (f1 hL)
    | false =>
      refine Ev.ite_neg (by decide) (Ev.const (dig_s s i) ?_)
      cases hD : DG (bt s (i : Int)) with
      | true => exact Ev.ite_pos rfl (f2 hL hD)
      | false => exact Ev.ite_neg (by decide) (f3 hL hD)
  cases hL : LT (bt s (i : Int)) with
  | true =>
    obtain ⟨m, m1, m2, m3, m4⟩ := name_run s hs i hi (s.size - i - 1) 1 (Nat.le_refl _) (by omega)
    have n0 : Ev (fun k => impl_nameLong.f k (s.extract i s.size)) (m : Int) := by
      unfold impl_nameLong.f
      have w1 : wrap64 ((0 : Int) + 1) = ((1 : Nat) : Int) := by rw [wrap_ok (by omega) (by omega)]; rfl
      exact Ev.step (fun k => by rw [impl_nameLong.l0, if_pos p1, if_pos (Int.le_refl 0), hb, small_f, hL, Option.bind_some, if_pos rfl, w1]) m3
    have s0 : ∀ R, Ev (fun k => spec_l01Next.j1 k s (i : Int) ((i + m : Nat) : Int)) R → Ev (fun k => spec_l01Next.l0 k s (i : Int) (i : Int)) R := fun R hR => by
      have h4 := m4 R hR
      have w2 : wrap64 ((i : Int) + 1) = ((i + 1 : Nat) : Int) := by rw [wrap_ok (by omega) (by omega)]; omega
      exact Ev.step (fun k => by rw [spec_l01Next.l0, if_pos q1, if_pos q2, let_s, hL, Option.bind_some, if_pos rfl, w2]) h4
    have hx : (s.extract i s.size).extract 0 m = s.extract i (i + m) := piece0 s i m m2
    obtain ⟨w, w1, w2⟩ := Nm.isWord (s.extract i (i + m))
    have hxs : (s.extract i (i + m)).size ≤ 1048576 := by rw [ByteArray.size_extract]; omega
    obtain ⟨o, o1, o2⟩ := Nm.nameOk (s.extract i (i + m)) (by omega)
    have t1 : (m : Int) > 0 := by omega
    have t2 : 0 ≤ (m : Int) := by omega
    have t3 : (m : Int) ≤ ((s.extract i s.size).size : Int) := by omega
    have r1 : (i : Int) ≤ ((i + m : Nat) : Int) := by omega
    have r2 : ((i + m : Nat) : Int) ≤ (s.size : Int) := by omega
    have impl0 : ∀ R, Ev (fun k => (impl_IsWord.f k (s.extract i (i + m))).bind fun t104 => (if t104 = true then (some ((2 : Int), s.extract i (i + m), (0 : Int), (0 : Int), (m : Int))) else ((impl_NameOk.f k (s.extract i (i + m))).bind fun t105 => (if t105 = true then (some ((0 : Int), s.extract i (i + m), (0 : Int), (0 : Int), (m : Int))) else (some ((0 : Int), (⟨#[]⟩ : ByteArray), (0 : Int), (0 : Int), (0 : Int))))))) R → Ev (fun k => impl_tokenAt.f k (s.extract i s.size)) R := fun R hR => by
      unfold impl_tokenAt.f
      refine Ev.bind n0 (Ev.ite_pos t1 (Ev.ite_pos t2 (Ev.ite_pos t3 ?_)))
      rw [Int.toNat_natCast, hx]
      exact hR
    have specj : ∀ R, Ev (fun k => (spec_IsWord.f k (s.extract i (i + m))).bind fun t105 => (if t105 = true then (some ((2 : Int), s.extract i (i + m), (0 : Int), (0 : Int), ((i + m : Nat) : Int))) else ((spec_NameOk.f k (s.extract i (i + m))).bind fun t106 => (if t106 = true then (some ((0 : Int), s.extract i (i + m), (0 : Int), (0 : Int), ((i + m : Nat) : Int))) else (some ((0 : Int), (⟨#[]⟩ : ByteArray), (0 : Int), (0 : Int), (-1 : Int))))))) R → Ev (fun k => spec_l01Next.f k s (i : Int)) R := fun R hR => by
      refine spec0 R (fun _ => s0 R ?_) (fun z => by rw [hL] at z; cases z) (fun z => by rw [hL] at z; cases z)
      refine Ev.step (fun k => by rw [spec_l01Next.j1, if_pos q2, if_pos r1, if_pos r2, Int.toNat_natCast, Int.toNat_natCast]) hR
    cases w with
    | true => exact ⟨2, s.extract i (i + m), 0, m, m2, impl0 _ (Ev.bind w2 (Ev.ite_pos rfl (Ev.now _))), by rw [atPlace_yes i _ _ _ m1]; exact specj _ (Ev.bind w1 (Ev.ite_pos rfl (Ev.now _)))⟩
    | false =>
      cases o with
      | true => exact ⟨0, s.extract i (i + m), 0, m, m2, impl0 _ (Ev.bind w2 (Ev.ite_neg (by decide) (Ev.bind o2 (Ev.ite_pos rfl (Ev.now _))))), by rw [atPlace_yes i _ _ _ m1]; exact specj _ (Ev.bind w1 (Ev.ite_neg (by decide) (Ev.bind o1 (Ev.ite_pos rfl (Ev.now _)))))⟩
      | false => exact ⟨0, (⟨#[]⟩ : ByteArray), 0, 0, by omega, impl0 _ (Ev.bind w2 (Ev.ite_neg (by decide) (Ev.bind o2 (Ev.ite_neg (by decide) (Ev.now _))))), by rw [atPlace_no]; exact specj _ (Ev.bind w1 (Ev.ite_neg (by decide) (Ev.bind o1 (Ev.ite_neg (by decide) (Ev.now _)))))⟩
  | false =>
    have n0 : Ev (fun k => impl_nameLong.f k (s.extract i s.size)) 0 := by
      unfold impl_nameLong.f
      exact Ev.step (f := fun _ => some 0) (fun k => by rw [impl_nameLong.l0, if_pos p1, if_pos (Int.le_refl 0), hb, small_f, hL, Option.bind_some, if_neg (by decide), if_neg (by decide)]) (Ev.now _)
    have impl0 : ∀ R, Ev (fun k => impl_tokenAt.l0 k (s.extract i s.size) 0) R → Ev (fun k => impl_tokenAt.f k (s.extract i s.size)) R := fun R hR => by
      unfold impl_tokenAt.f
      exact Ev.bind n0 (Ev.ite_neg (by decide) hR)
    cases hD : DG (bt s (i : Int)) with
    | true =>
      obtain ⟨m, m1, m2, m3, m4, m5, m6⟩ := num_run s hs i hi (s.size - i) 0 0 (by omega) (by omega) rfl
      have m3 : ∀ R, Ev (fun k => impl_tokenAt.j1 k (s.extract i s.size) (m : Int)) R → Ev (fun k => impl_tokenAt.l0 k (s.extract i s.size) 0) R := m3
      have mp : 1 ≤ m := m6 (by omega) (by omega) (by rw [show ((0 : Nat) : Int) = 0 from rfl, hb]; exact hD)
      have t1 : (m : Int) > 0 := by omega
      have t2 : 0 ≤ (m : Int) := by omega
      have t3 : (m : Int) ≤ ((s.extract i s.size).size : Int) := by omega
      have hx : ((s.extract i s.size).extract 0 m).data.toList = (s.extract i s.size).data.toList.take m := extract_from_zero _ m
      have hxz : ((s.extract i s.size).extract 0 m).size ≤ 1048576 := by rw [ByteArray.size_extract]; omega
      have ha : strconv_Atoi_53.f ((s.extract i s.size).extract 0 m) = some (atoiR ((s.extract i s.size).extract 0 m)) := if_pos (by omega)
      have implj : ∀ R, Ev (fun k => (if (m : Int) > 9 then (some ((0 : Int), (⟨#[]⟩ : ByteArray), (0 : Int), (0 : Int), (0 : Int))) else (if (atoiR ((s.extract i s.size).extract 0 m)).2 = true then (some ((0 : Int), (⟨#[]⟩ : ByteArray), (0 : Int), (0 : Int), (0 : Int))) else (some ((1 : Int), (⟨#[]⟩ : ByteArray), (atoiR ((s.extract i s.size).extract 0 m)).1, (0 : Int), (m : Int)))))) R → Ev (fun k => impl_tokenAt.f k (s.extract i s.size)) R := fun R hR => by
        refine impl0 R (m3 R ?_)
        refine Ev.step (fun k => by rw [impl_tokenAt.j1, if_pos t1, if_pos t2, if_pos t3, Int.toNat_natCast, ha, Option.bind_some]) hR
      by_cases h9 : m ≤ 9
      · obtain ⟨u, u1, u2⟩ := m4 h9
        have u2 : Ev (fun k => spec_l01Next.l1 k s (i : Int) (i : Int) 0) (1, (⟨#[]⟩ : ByteArray), (u : Int), 0, ((i + m : Nat) : Int)) := u2
        have hlen : ((s.extract i s.size).data.toList.take m).length = m := by rw [List.length_take, ba_len]; omega
        have hne : (s.extract i s.size).data.toList.take m ≠ [] := fun z => by rw [z] at hlen; simp at hlen; omega
        have hall : ∀ b ∈ (s.extract i s.size).data.toList.take m, ∃ d, digitVal b = some d := by
          intro b hbm
          obtain ⟨k, hk, rfl⟩ := List.getElem_of_mem hbm
          exact digit_of_decFrom _ 0 u u1 k _ (List.getElem?_eq_getElem hk)
        have hA : atoiR ((s.extract i s.size).extract 0 m) = ((u : Int), false) := by
          unfold atoiR
          rw [hx, atoiAll_short _ (by omega), atoi_digits hne hall]
          have hdn : decNat ((s.extract i s.size).data.toList.take m) = some u := by
            unfold decNat
            rw [if_neg (by simpa using hne)]
            exact u1
          rw [hdn]
          rfl
        refine ⟨1, (⟨#[]⟩ : ByteArray), (u : Int), m, m2, implj _ (Ev.ite_neg (by omega) ?_), ?_⟩
        · rw [hA]
          exact Ev.ite_neg (by simp) (Ev.now _)
        · rw [atPlace_yes i _ _ _ mp]
          exact spec0 _ (fun z => by rw [hL] at z; cases z) (fun _ _ => u2) (fun _ z => by rw [hD] at z; cases z)
      · have u2 : Ev (fun k => spec_l01Next.l1 k s (i : Int) (i : Int) 0) ((0 : Int), (⟨#[]⟩ : ByteArray), (0 : Int), (0 : Int), (-1 : Int)) := m5 h9
        refine ⟨0, (⟨#[]⟩ : ByteArray), 0, 0, by omega, implj _ (Ev.ite_pos (by omega) (Ev.now _)), ?_⟩
        rw [atPlace_no]
        exact spec0 _ (fun z => by rw [hL] at z; cases z) (fun _ _ => u2) (fun _ z => by rw [hD] at z; cases z)
    | false =>
      have implj : ∀ R, Ev (fun k => impl_tokenAt.j1 k (s.extract i s.size) 0) R → Ev (fun k => impl_tokenAt.f k (s.extract i s.size)) R := fun R hR =>
        impl0 R (Ev.step (fun k => by rw [impl_tokenAt.l0, if_pos p1, if_pos (Int.le_refl 0), dig_f, hb, hD, Option.bind_some, if_neg (by decide)]) hR)
      have hP := hasP (s.extract i s.size)
      have w2 : wrap64 ((i : Int) + 2) = ((i + 2 : Nat) : Int) := by rw [wrap_ok (by omega) (by omega)]; omega
      have w1 : wrap64 ((i : Int) + 1) = ((i + 1 : Nat) : Int) := by rw [wrap_ok (by omega) (by omega)]; omega
      have W1 := Zs0.mk w1
      have W2 := Zs0.mk w2
      clear w1 w2
      have specj : ∀ R, Ev (fun k => spec_l01Next.j3 k s (i : Int) (if 2 ≤ (s.extract i s.size).size then (((s.extract i s.size).extract 0 2).toList == ([61, 61] : List UInt8)) else false)) R → Ev (fun k => spec_l01Next.f k s (i : Int)) R := fun R hR => by
        refine spec0 R (fun z => by rw [hL] at z; cases z) (fun _ z => by rw [hD] at z; cases z) (fun _ _ => ?_)
        rw [W2.out, Int.toNat_natCast, Int.toNat_natCast]
        by_cases h2 : 2 ≤ (s.extract i s.size).size
        · rw [if_pos h2, piece0 s i 2 (by omega)] at hR
          exact Ev.ite_pos (by omega) (Ev.ite_pos (by omega) hR)
        · rw [if_neg h2] at hR
          exact Ev.ite_neg (by omega) hR
      have hpre : (if 2 ≤ (s.extract i s.size).size then (((s.extract i s.size).extract 0 2).toList == ([61, 61] : List UInt8)) else false) = true → 2 ≤ (s.extract i s.size).size := fun z => by
        by_cases h : 2 ≤ (s.extract i s.size).size
        · exact h
        · rw [if_neg h] at z
          cases z
      generalize (if 2 ≤ (s.extract i s.size).size then (((s.extract i s.size).extract 0 2).toList == ([61, 61] : List UInt8)) else false) = pre at hP specj hpre
      obtain ⟨c, c1, c2⟩ := one_byte s i hi
      have hsg : ((([(⟨#[40]⟩ : ByteArray), (⟨#[41]⟩ : ByteArray), (⟨#[123]⟩ : ByteArray), (⟨#[125]⟩ : ByteArray), (⟨#[91]⟩ : ByteArray), (⟨#[93]⟩ : ByteArray), (⟨#[44]⟩ : ByteArray), (⟨#[59]⟩ : ByteArray), (⟨#[61]⟩ : ByteArray), (⟨#[60]⟩ : ByteArray), (⟨#[43]⟩ : ByteArray), (⟨#[45]⟩ : ByteArray), (⟨#[42]⟩ : ByteArray), (⟨#[38]⟩ : ByteArray)] : List ByteArray)).any fun x => x.toList = (s.extract i (i + 1)).toList) = decide (0 ≤ indexByte [40, 41, 123, 125, 91, 93, 44, 59, 61, 60, 43, 45, 42, 38] c) := by
        rw [← sign_same c, ← c1]
        simp only [List.any_cons, List.any_nil, ba_toList]
      have hH := Nm.has_f ([(⟨#[40]⟩ : ByteArray), (⟨#[41]⟩ : ByteArray), (⟨#[123]⟩ : ByteArray), (⟨#[125]⟩ : ByteArray), (⟨#[91]⟩ : ByteArray), (⟨#[93]⟩ : ByteArray), (⟨#[44]⟩ : ByteArray), (⟨#[59]⟩ : ByteArray), (⟨#[61]⟩ : ByteArray), (⟨#[60]⟩ : ByteArray), (⟨#[43]⟩ : ByteArray), (⟨#[45]⟩ : ByteArray), (⟨#[42]⟩ : ByteArray), (⟨#[38]⟩ : ByteArray)] : List ByteArray) (s.extract i (i + 1)) (by simp)
      rw [hsg] at hH
      have hIdx : strings_IndexByte.f (⟨#[40, 41, 123, 125, 91, 93, 44, 59, 61, 60, 43, 45, 42, 38]⟩ : ByteArray) (bt (s.extract i s.size) 0) = some (indexByte [40, 41, 123, 125, 91, 93, 44, 59, 61, 60, 43, 45, 42, 38] c) := by
        unfold strings_IndexByte.f
        rw [hb, c2]
        simp
      have g1 : (1 : Int) ≤ ((s.extract i s.size).size : Int) := by omega
      have e1 : (s.extract i s.size).extract 0 1 = s.extract i (i + 1) := piece0 s i 1 (by omega)
      have z0 : ¬ ((0 : Int) > 0) := by decide
      cases pre with
      | true =>
        have h2 := hpre rfl
        refine ⟨2, (⟨#[61, 61]⟩ : ByteArray), 0, 2, by omega, implj _ (Ev.step (fun k => by rw [impl_tokenAt.j1, if_neg z0]) (Ev.const hP (Ev.ite_pos rfl (Ev.now _)))), ?_⟩
        rw [atPlace_yes i _ _ _ (by decide)]
        exact specj _ (Ev.step (f := fun _ => some _) (fun k => by rw [spec_l01Next.j3, if_pos rfl, W2.out]) (Ev.now _))
      | false =>
        have y1 : (i : Int) ≤ ((i + 1 : Nat) : Int) := by omega
        have y2 : ((i + 1 : Nat) : Int) ≤ (s.size : Int) := by omega
        have impl1 : ∀ R, Ev (fun _ => (if (indexByte [40, 41, 123, 125, 91, 93, 44, 59, 61, 60, 43, 45, 42, 38] c) ≥ 0 then (some ((2 : Int), s.extract i (i + 1), (0 : Int), (0 : Int), (1 : Int))) else (some ((0 : Int), (⟨#[]⟩ : ByteArray), (0 : Int), (0 : Int), (0 : Int))))) R → Ev (fun k => impl_tokenAt.f k (s.extract i s.size)) R := fun R hR => by
          refine implj R (Ev.step (fun k => ?_) hR)
          rw [impl_tokenAt.j1, if_neg z0, hP, Option.bind_some, if_neg (by decide), if_pos p1, hIdx, Option.bind_some]
          by_cases hh : (indexByte [40, 41, 123, 125, 91, 93, 44, 59, 61, 60, 43, 45, 42, 38] c) ≥ 0
          · rw [if_pos hh, if_pos hh, if_pos (by decide), if_pos g1, e1]
          · rw [if_neg hh, if_neg hh]
        have spec1 : ∀ R, Ev (fun k => (spec_l01Has.f k ([(⟨#[40]⟩ : ByteArray), (⟨#[41]⟩ : ByteArray), (⟨#[123]⟩ : ByteArray), (⟨#[125]⟩ : ByteArray), (⟨#[91]⟩ : ByteArray), (⟨#[93]⟩ : ByteArray), (⟨#[44]⟩ : ByteArray), (⟨#[59]⟩ : ByteArray), (⟨#[61]⟩ : ByteArray), (⟨#[60]⟩ : ByteArray), (⟨#[43]⟩ : ByteArray), (⟨#[45]⟩ : ByteArray), (⟨#[42]⟩ : ByteArray), (⟨#[38]⟩ : ByteArray)] : List ByteArray) (s.extract i (i + 1))).bind fun t112 => (if t112 = true then (some ((2 : Int), s.extract i (i + 1), (0 : Int), (0 : Int), ((i + 1 : Nat) : Int))) else (some ((0 : Int), (⟨#[]⟩ : ByteArray), (0 : Int), (0 : Int), (-1 : Int))))) R → Ev (fun k => spec_l01Next.f k s (i : Int)) R := fun R hR => by
          refine specj R (Ev.step (fun k => by rw [spec_l01Next.j3, if_neg (by decide), if_pos q2, W1.out, if_pos y1, if_pos y2, Int.toNat_natCast, Int.toNat_natCast]) hR)
        by_cases hg : 0 ≤ indexByte [40, 41, 123, 125, 91, 93, 44, 59, 61, 60, 43, 45, 42, 38] c
        · rw [decide_eq_true hg] at hH
          refine ⟨2, s.extract i (i + 1), 0, 1, by omega, impl1 _ (Ev.ite_pos hg (Ev.now _)), ?_⟩
          rw [atPlace_yes i _ _ _ (by decide)]
          exact spec1 _ (Ev.bind hH (Ev.ite_pos rfl (Ev.now _)))
        · rw [decide_eq_false hg] at hH
          refine ⟨0, (⟨#[]⟩ : ByteArray), 0, 0, by omega, impl1 _ (Ev.ite_neg hg (Ev.now _)), ?_⟩
          rw [atPlace_no]
          exact spec1 _ (Ev.bind hH (Ev.ite_neg (by decide) (Ev.now _)))
end
theorem bt10 {s : ByteArray} {i : Nat} {v : Int} (h : bt s (i : Int) ≠ v) : (bt s (i : Int) == v) = false := beq_eq_false_iff_ne.mpr h
/-- Both answers from a place on. -/
theorem lex_run (s : ByteArray) (hs : s.size ≤ 3000) (d : Nat) : ∀ (i : Nat) (out : List S56) (ln : Int), i + d = s.size → out.length ≤ i → 0 ≤ ln → ln ≤ (i : Int) + 1 →
    ∃ R : List S56 × Int, R.1.length ≤ 3000 ∧ Ev (fun k => spec_Lex.l0 k s out ln (i : Int)) R ∧ Ev (fun k => impl_Lex.l0 k (s.extract i s.size) out ln) R := by
  induction d using Nat.strongRecOn with
  | ind d IH =>
  intro i out ln hd ho hn0 hn1
  have hz := rest_size s i
  have hlT : (s.extract i s.size).toList.length = s.size - i := by rw [ba_toList, ba_len, hz]
  by_cases h0 : d = 0
  · have e : (s.extract i s.size).toList = ([] : List UInt8) := List.eq_nil_of_length_eq_zero (by omega)
    refine ⟨(out, 0), by show out.length ≤ 3000; omega, Ev.step (f := fun _ => some (out, 0)) (fun k => by rw [spec_Lex.l0, if_neg (by omega)]) (Ev.now _), Ev.step (f := fun _ => some (out, 0)) (fun k => by rw [impl_Lex.l0, if_pos e]) (Ev.now _)⟩
  have hi : i < s.size := by omega
  have ne : ¬ (s.extract i s.size).toList = ([] : List UInt8) := fun z => by rw [z] at hlT; simp at hlT; omega
  have hb : bt (s.extract i s.size) 0 = bt s (i : Int) := by
    have := bt_rest s i 0 (by omega)
    rw [Nat.add_zero] at this
    exact this
  have q1 : (i : Int) < (s.size : Int) := by omega
  have q2 : 0 ≤ (i : Int) := by omega
  have p1 : (0 : Int) < ((s.extract i s.size).size : Int) := by omega
  have g1 : (1 : Int) ≤ ((s.extract i s.size).size : Int) := by omega
  have e1 : (s.extract i s.size).extract 1 (s.extract i s.size).size = s.extract (i + 1) s.size := pieceR s i 1 (by omega)
  have ho2 : out.length < 3518437208883 := by omega
  by_cases h32 : bt s (i : Int) = 32
  · obtain ⟨R, r0, r1, r2⟩ := IH (d - 1) (by omega) (i + 1) out ln (by omega) (by omega) hn0 (by omega)
    have h10 : ¬ bt s (i : Int) = 10 := by omega
    have w1 : wrap64 ((i : Int) + 1) = ((i + 1 : Nat) : Int) := by rw [wrap_ok (by omega) (by omega)]; omega
    refine ⟨R, r0, Ev.step (fun k => by rw [spec_Lex.l0, if_pos q1, if_pos q2, if_pos h32]) (Ev.step (fun k => by rw [spec_Lex.j1, if_pos rfl, if_pos q2, if_pos q1, if_neg h10, w1]) r1), Ev.step (fun k => by rw [impl_Lex.l0, if_neg ne, if_pos p1, hb, if_pos h32, if_pos g1, e1]) r2⟩
  by_cases h10 : bt s (i : Int) = 10
  · obtain ⟨R, r0, r1, r2⟩ := IH (d - 1) (by omega) (i + 1) out (ln + 1) (by omega) (by omega) (by omega) (by omega)
    have hq : (bt s (i : Int) == 10) = true := beq_iff_eq.mpr h10
    obtain ⟨w1, w2⟩ : wrap64 ((i : Int) + 1) = ((i + 1 : Nat) : Int) ∧ wrap64 (ln + 1) = ln + 1 := ⟨by rw [wrap_ok (by omega) (by omega)]; omega, wrap_ok (by omega) (by omega)⟩
    refine ⟨R, r0, Ev.step (fun k => by rw [spec_Lex.l0, if_pos q1, if_pos q2, if_neg h32, hq]) (Ev.step (fun k => by rw [spec_Lex.j1, if_pos rfl, if_pos q2, if_pos q1, if_pos h10, w1, w2]) r1), Ev.step (fun k => by rw [impl_Lex.l0, if_neg ne, if_pos p1, hb, if_neg h32, if_pos h10, if_pos g1, e1, w2]) r2⟩
  obtain ⟨a, t, n, m, m1, t1, t2⟩ := tok s (by omega) i hi
  have hq := bt10 h10
  have sp0 : ∀ R, Ev (fun k => (spec_l01Next.f k s (i : Int)).bind fun bt104 => (if bt104.2.2.2.2 < 0 then (some ((([] : List S56)), ln)) else (if out.length < 3518437208883 then (spec_Lex.l0 k s (out ++ [(⟨bt104.1, bt104.2.1, bt104.2.2.1, ln⟩ : S56)]) ln bt104.2.2.2.2) else (none)))) R → Ev (fun k => spec_Lex.l0 k s out ln (i : Int)) R := fun R hR =>
    Ev.step (fun k => by rw [spec_Lex.l0, if_pos q1, if_pos q2, if_neg h32, hq]) (Ev.step (fun k => by rw [spec_Lex.j1, if_neg (by decide)]) hR)
  have im0 : ∀ R, Ev (fun k => (impl_tokenAt.f k (s.extract i s.size)).bind fun bt104 => (if bt104.2.2.2.2 = 0 then (some (([] : List S56), ln)) else (if out.length < 3518437208883 then (if 0 ≤ bt104.2.2.2.2 then (if bt104.2.2.2.2 ≤ ((s.extract i s.size).size : Int) then (impl_Lex.l0 k ((s.extract i s.size).extract (bt104.2.2.2.2 : Int).toNat (s.extract i s.size).size) (out ++ [(⟨bt104.1, bt104.2.1, bt104.2.2.1, ln⟩ : S56)]) ln) else (none)) else (none)) else (none)))) R → Ev (fun k => impl_Lex.l0 k (s.extract i s.size) out ln) R := fun R hR =>
    Ev.step (fun k => by rw [impl_Lex.l0, if_neg ne, if_pos p1, hb, if_neg h32, if_neg h10]) hR
  by_cases hm : m = 0
  · subst hm
    rw [atPlace_no] at t2
    exact ⟨([], ln), by simp, sp0 _ (Ev.bind t2 (Ev.ite_pos (by decide) (Ev.now _))), im0 _ (Ev.bind t1 (Ev.ite_pos rfl (Ev.now _)))⟩
  · rw [atPlace_yes i _ _ _ (by omega)] at t2
    obtain ⟨R, r0, r1, r2⟩ := IH (d - m) (by omega) (i + m) (out ++ [(⟨a, t, n, ln⟩ : S56)]) ln (by omega) (by simp; omega) hn0 (by omega)
    have e2 := pieceR s i m m1
    have f1 : ¬ ((i + m : Nat) : Int) < 0 := by omega
    have f2 : ¬ (m : Int) = 0 := by omega
    have f3 : 0 ≤ (m : Int) := by omega
    have f4 : (m : Int) ≤ ((s.extract i s.size).size : Int) := by omega
    refine ⟨R, r0, sp0 _ (Ev.bind t2 (Ev.ite_neg f1 (Ev.ite_pos ho2 r1))), im0 _ (Ev.bind t1 (Ev.ite_neg f2 (Ev.ite_pos ho2 (Ev.ite_pos f3 (Ev.ite_pos f4 ?_)))))⟩
    have r2' := r2
    rw [← e2] at r2'
    simpa using r2'
theorem lex_same (s : ByteArray) : ∃ R : List S56 × Int, R.1.length ≤ 3000 ∧ Ev (fun k => spec_Lex.f k s) R ∧ Ev (fun k => impl_Lex.f k s) R := by
  unfold spec_Lex.f impl_Lex.f
  by_cases h : (s.size : Int) > 3000
  · exact ⟨([], 1), by simp, Ev.const rfl (Ev.ite_pos h (Ev.now _)), Ev.ite_pos h (Ev.now _)⟩
  · obtain ⟨R, r0, r1, r2⟩ := lex_run s (by omega) s.size 0 [] 1 (by omega) (Nat.le_refl _) (by omega) (by omega)
    have e : s.extract 0 s.size = s := by
      apply Go.WideShapes.bytes_inj
      rw [rest_list]
      rfl
    rw [e] at r2
    exact ⟨R, r0, Ev.const rfl (Ev.ite_neg h r1), Ev.ite_neg h r2⟩

theorem rdTk (xs : List S56) (i : Nat) (h : i < xs.length) : rd_T56 xs (i : Int) = xs[i] := by
  simp [rd_T56, List.getD_eq_getElem?_getD, List.getElem?_eq_getElem h]
end Go.Proofs.YtbihpjngmjkjmaaDoor.Dec
namespace Go.Proofs.YtbihpjngmjkjmaaDoor.Dec
open Go.RowKit Go.Proofs.YtbihpjngmjkjmaaDoor.P Go.Proofs.YtbihpjngmjkjmaaDoorW.PrintWords Go.Proofs.YtbihpjngmjkjmaaDoorW.PrintLast Go.Proofs.YtbihpjngmjkjmaaDoor.Aux Go.Lib
set_option linter.unusedVariables false
set_option linter.unusedSimpArgs false
/-- A blank, a line's end, a blank. -/
def blanks : ByteArray := (⟨#[32, 10, 32]⟩ : ByteArray)
theorem blanks_size : blanks.size = 3 := rfl
theorem app_list (r b : ByteArray) : (r ++ b).data.toList = r.data.toList ++ b.data.toList := by
  rw [ByteArray.data_append, Array.toList_append]
theorem app_size (r : ByteArray) : (r ++ blanks).size = r.size + 3 := by rw [ByteArray.size_append, blanks_size]
theorem app_bt (r : ByteArray) (j : Nat) (h : j < r.size) : bt (r ++ blanks) (j : Int) = bt r (j : Int) := by
  have h1 : j < r.data.toList.length := by rw [ba_len]; exact h
  have h2 : j < (r ++ blanks).data.toList.length := by rw [ba_len, app_size]; omega
  rw [bt_list _ j h1, bt_list _ j h2]
  simp only [app_list, List.getElem_append_left h1]
theorem app_bt_end (r : ByteArray) : bt (r ++ blanks) (r.size : Int) = 32 := by
  have h2 : r.size < (r ++ blanks).data.toList.length := by rw [ba_len, app_size]; omega
  have e : (r ++ blanks).data.toList[r.size]? = some 32 := by
    rw [app_list, List.getElem?_append_right (by rw [ba_len]; exact Nat.le_refl _), ba_len, Nat.sub_self]
    rfl
  rw [bt_list _ _ h2]
  rw [List.getElem?_eq_getElem h2] at e
  injection e with e
  rw [e]
  rfl
theorem app_piece (r : ByteArray) (a b : Nat) (h : b ≤ r.size) : (r ++ blanks).extract a b = r.extract a b := by
  apply Go.WideShapes.bytes_inj
  rw [extract_data, extract_data, app_list]
  by_cases hab : a ≤ b
  · rw [List.drop_append_of_le_length (by rw [ba_len]; omega), List.take_append_of_le_length (by rw [List.length_drop, ba_len]; omega)]
  · rw [show b - a = 0 by omega, List.take_zero, List.take_zero]
theorem app_rest (s : ByteArray) (i : Nat) (h : i ≤ s.size) : (s ++ blanks).extract i (s ++ blanks).size = s.extract i s.size ++ blanks := by
  apply Go.WideShapes.bytes_inj
  rw [rest_list, app_list, app_list, rest_list, List.drop_append_of_le_length (by rw [ba_len]; exact h)]
theorem long_more (r : ByteArray) (hr : r.size ≤ 1048576) (k : Nat) : ∀ j : Nat, j ≤ r.size → impl_nameLong.l0 k (r ++ blanks) (j : Int) = impl_nameLong.l0 k r (j : Int) ∧ ∀ t, impl_nameLong.l0 k r (j : Int) = some t → 0 ≤ t ∧ t ≤ (r.size : Int) := by
  induction k with
  | zero => exact fun j _ => ⟨rfl, fun t h => by cases h⟩
  | succ k ih =>
    intro j hj
    have hz := app_size r
    have p2 : 0 ≤ (j : Int) := by omega
    have p1 : (j : Int) < ((r ++ blanks).size : Int) := by omega
    by_cases h : j < r.size
    · have q1 : (j : Int) < (r.size : Int) := by omega
      have w1 : wrap64 ((j : Int) + 1) = ((j + 1 : Nat) : Int) := by rw [wrap_ok (by omega) (by omega)]; omega
      obtain ⟨e, f⟩ := ih (j + 1) h
      have W := Zs0.mk w1
      clear w1
      have hb := app_bt r j h
      rw [impl_nameLong.l0, impl_nameLong.l0, if_pos p1, if_pos q1, if_pos p2, if_pos p2, hb, small_f, Option.bind_some, dig_f, Option.bind_some, W.out, e]
      refine ⟨rfl, fun t ht => ?_⟩
      simp only [Option.bind_some] at ht
      split at ht
      · exact f t ht
      · split at ht
        · split at ht
          · exact f t ht
          · injection ht with ht; omega
        · injection ht with ht; omega
    · have e : j = r.size := by omega
      subst e
      have hb := app_bt_end r
      have q1 : ¬ (r.size : Int) < (r.size : Int) := by omega
      have l32 : LT 32 = false := by decide
      have d32 : DG 32 = false := by decide
      rw [impl_nameLong.l0, impl_nameLong.l0, if_pos p1, if_neg q1, if_pos p2, hb, small_f, Option.bind_some, dig_f, Option.bind_some, l32, d32]
      simp only [Bool.false_eq_true, if_false, ite_self]
      exact ⟨trivial, fun t ht => by injection ht with ht; omega⟩
theorem tok_j1_more (r : ByteArray) (h1 : 1 ≤ r.size) (hr : r.size ≤ 1048576) (k : Nat) (j : Nat) (hj : j ≤ r.size) : impl_tokenAt.j1 k (r ++ blanks) (j : Int) = impl_tokenAt.j1 k r (j : Int) := by
  cases k with
  | zero => rfl
  | succ k =>
    have hz := app_size r
    have p2 : 0 ≤ (j : Int) := by omega
    have p3 : (j : Int) ≤ ((r ++ blanks).size : Int) := by omega
    have q3 : (j : Int) ≤ (r.size : Int) := by omega
    by_cases h0 : (j : Int) > 0
    · rw [impl_tokenAt.j1, impl_tokenAt.j1, if_pos h0, if_pos h0, if_pos p2, if_pos p3, if_pos p2, if_pos q3, Int.toNat_natCast, app_piece r 0 j hj]
    · have hb : bt (r ++ blanks) 0 = bt r 0 := app_bt r 0 h1
      have e2 : (⟨#[61, 61]⟩ : ByteArray).toList = ([61, 61] : List UInt8) := by rw [ba_toList]
      have hP : strings_HasPrefix.f (r ++ blanks) (⟨#[61, 61]⟩ : ByteArray) = strings_HasPrefix.f r (⟨#[61, 61]⟩ : ByteArray) := by
        rw [hasP, hasP, if_pos (by omega)]
        by_cases h2 : 2 ≤ r.size
        · rw [if_pos h2, app_piece r 0 2 h2]
        · rw [if_neg h2]
          have e : ((r ++ blanks).extract 0 2).toList = r.data.toList ++ [32] := by
            rw [ba_toList, extract_data, app_list, List.drop_zero, List.take_append, ba_len, show 2 - 0 - r.size = 1 by omega, List.take_of_length_le (by rw [ba_len]; omega)]
            rfl
          rw [e]
          congr 1
          rw [beq_eq_false_iff_ne]
          intro z
          have := congrArg List.getLast? z
          simp at this
      rw [impl_tokenAt.j1, impl_tokenAt.j1, if_neg h0, if_neg h0, hP, hb, app_piece r 0 1 h1]
      have g1 : (0 : Int) < ((r ++ blanks).size : Int) := by omega
      have g2 : (0 : Int) < (r.size : Int) := by omega
      have g3 : (1 : Int) ≤ ((r ++ blanks).size : Int) := by omega
      have g4 : (1 : Int) ≤ (r.size : Int) := by omega
      simp only [if_pos g1, if_pos g2, if_pos g3, if_pos g4]
theorem tok_l0_more (r : ByteArray) (h1 : 1 ≤ r.size) (hr : r.size ≤ 1048576) (k : Nat) : ∀ j : Nat, j ≤ r.size → impl_tokenAt.l0 k (r ++ blanks) (j : Int) = impl_tokenAt.l0 k r (j : Int) := by
  induction k with
  | zero => exact fun j _ => rfl
  | succ k ih =>
    intro j hj
    have hz := app_size r
    have p2 : 0 ≤ (j : Int) := by omega
    have p1 : (j : Int) < ((r ++ blanks).size : Int) := by omega
    have hJ := tok_j1_more r h1 hr k j hj
    by_cases h : j < r.size
    · have q1 : (j : Int) < (r.size : Int) := by omega
      have w1 : wrap64 ((j : Int) + 1) = ((j + 1 : Nat) : Int) := by rw [wrap_ok (by omega) (by omega)]; omega
      rw [impl_tokenAt.l0, impl_tokenAt.l0, if_pos p1, if_pos q1, if_pos p2, if_pos p2, app_bt r j h, w1, ih (j + 1) h, hJ]
    · have e : j = r.size := by omega
      subst e
      have q1 : ¬ (r.size : Int) < (r.size : Int) := by omega
      have d32 : DG 32 = false := by decide
      rw [impl_tokenAt.l0, impl_tokenAt.l0, if_pos p1, if_neg q1, if_pos p2, app_bt_end, dig_f, Option.bind_some, d32, if_neg (by decide), hJ]
theorem tok_more (r : ByteArray) (h1 : 1 ≤ r.size) (hr : r.size ≤ 1048576) (k : Nat) : impl_tokenAt.f k (r ++ blanks) = impl_tokenAt.f k r := by
  have hz := app_size r
  obtain ⟨e, f⟩ := long_more r hr k 0 (by omega)
  have e : impl_nameLong.f k (r ++ blanks) = impl_nameLong.f k r := e
  have f : ∀ t, impl_nameLong.f k r = some t → 0 ≤ t ∧ t ≤ (r.size : Int) := f
  have hL := tok_l0_more r h1 hr k 0 (by omega)
  have hL : impl_tokenAt.l0 k (r ++ blanks) 0 = impl_tokenAt.l0 k r 0 := hL
  unfold impl_tokenAt.f
  rw [e]
  cases hn : impl_nameLong.f k r with
  | none => rfl
  | some t =>
    obtain ⟨t0, t1⟩ := f t hn
    obtain ⟨m, rfl⟩ : ∃ m : Nat, t = (m : Int) := ⟨t.toNat, by omega⟩
    simp only [Option.bind_some]
    rw [hL]
    have p3 : (m : Int) ≤ ((r ++ blanks).size : Int) := by omega
    by_cases h0 : (m : Int) > 0
    · rw [if_pos h0, if_pos h0, if_pos t0, if_pos t0, if_pos p3, if_pos t1, Int.toNat_natCast, app_piece r 0 m (by omega)]
    · rw [if_neg h0, if_neg h0]
/-- The lines go up, and none is behind this one. -/
def Upto (L : List S56) (ln : Int) : Prop := L.Pairwise (fun a b => a.f3 ≤ b.f3) ∧ ∀ t ∈ L, t.f3 ≤ ln
theorem blanks_end (L : List S56) (ln : Int) : Ev (fun k => impl_Lex.l0 k blanks L ln) (L, 0) := by
  have b1 : blanks.extract 1 blanks.size = (⟨#[10, 32]⟩ : ByteArray) := by decide
  have b2 : (⟨#[10, 32]⟩ : ByteArray).extract 1 (⟨#[10, 32]⟩ : ByteArray).size = (⟨#[32]⟩ : ByteArray) := by decide
  have b3 : (⟨#[32]⟩ : ByteArray).extract 1 (⟨#[32]⟩ : ByteArray).size = (⟨#[]⟩ : ByteArray) := by decide
  have n1 : ¬ blanks.toList = ([] : List UInt8) := by rw [ba_toList]; decide
  have n2 : ¬ (⟨#[10, 32]⟩ : ByteArray).toList = ([] : List UInt8) := by rw [ba_toList]; decide
  have n3 : ¬ (⟨#[32]⟩ : ByteArray).toList = ([] : List UInt8) := by rw [ba_toList]; decide
  have n4 : (⟨#[]⟩ : ByteArray).toList = ([] : List UInt8) := by rw [ba_toList]
  have t1 : bt blanks 0 = 32 := bt_list blanks 0 (by decide)
  have t2 : bt (⟨#[10, 32]⟩ : ByteArray) 0 = 10 := bt_list _ 0 (by decide)
  have t3 : bt (⟨#[32]⟩ : ByteArray) 0 = 32 := bt_list _ 0 (by decide)
  refine Ev.step (fun k => by rw [impl_Lex.l0, if_neg n1, if_pos (by decide), t1, if_pos rfl, if_pos (by decide), b1]) ?_
  refine Ev.step (fun k => by rw [impl_Lex.l0, if_neg n2, if_pos (by decide), t2, if_neg (by decide), if_pos rfl, if_pos (by decide), b2]) ?_
  refine Ev.step (fun k => by rw [impl_Lex.l0, if_neg n3, if_pos (by decide), t3, if_pos rfl, if_pos (by decide), b3]) ?_
  exact Ev.step (f := fun _ => some (L, 0)) (fun k => by rw [impl_Lex.l0, if_pos n4]) (Ev.now _)
theorem more_run (s : ByteArray) (hs : s.size ≤ 3000) (d : Nat) : ∀ (i : Nat) (out : List S56) (ln : Int), i + d = s.size → out.length ≤ i → 0 < ln → ln ≤ (i : Int) + 1 → Upto out ln →
    ∃ R : List S56 × Int, Ev (fun k => impl_Lex.l0 k (s.extract i s.size) out ln) R ∧ R.1.Pairwise (fun a b => a.f3 ≤ b.f3) ∧ (R.2 ≠ 0 → R.1 = []) ∧ (R.2 = 0 → Ev (fun k => impl_Lex.l0 k (s.extract i s.size ++ blanks) out ln) R) := by
  induction d using Nat.strongRecOn with
  | ind d IH =>
  intro i out ln hd ho hn0 hn1 hu
  have hz := rest_size s i
  have hlT : (s.extract i s.size).toList.length = s.size - i := by rw [ba_toList, ba_len, hz]
  by_cases h0 : d = 0
  · have e : (s.extract i s.size).toList = ([] : List UInt8) := List.eq_nil_of_length_eq_zero (by omega)
    have e0 : s.extract i s.size ++ blanks = blanks := by
      apply Go.WideShapes.bytes_inj
      rw [app_list, ← ba_toList, e, List.nil_append]
    refine ⟨(out, 0), Ev.step (f := fun _ => some (out, 0)) (fun k => by rw [impl_Lex.l0, if_pos e]) (Ev.now _), hu.1, fun z => absurd rfl z, fun _ => ?_⟩
    rw [e0]
    exact blanks_end out ln
  have hi : i < s.size := by omega
  have hR1 : 1 ≤ (s.extract i s.size).size := by omega
  have ne : ¬ (s.extract i s.size).toList = ([] : List UInt8) := fun z => by rw [z] at hlT; simp at hlT; omega
  have hb : bt (s.extract i s.size) 0 = bt s (i : Int) := by
    have := bt_rest s i 0 (by omega)
    rw [Nat.add_zero] at this
    exact this
  have hb' : bt (s.extract i s.size ++ blanks) 0 = bt s (i : Int) := (app_bt _ 0 hR1).trans hb
  have hzA := app_size (s.extract i s.size)
  have ne' : ¬ (s.extract i s.size ++ blanks).toList = ([] : List UInt8) := fun z => by
    have := congrArg List.length z
    rw [ba_toList, ba_len] at this
    simp at this
    omega
  have p1 : (0 : Int) < ((s.extract i s.size).size : Int) := by omega
  have g1 : (1 : Int) ≤ ((s.extract i s.size).size : Int) := by omega
  have p1' : (0 : Int) < ((s.extract i s.size ++ blanks).size : Int) := by omega
  have g1' : (1 : Int) ≤ ((s.extract i s.size ++ blanks).size : Int) := by omega
  have e1 : (s.extract i s.size).extract 1 (s.extract i s.size).size = s.extract (i + 1) s.size := pieceR s i 1 (by omega)
  have e1' : ∀ m, m ≤ (s.extract i s.size).size → (s.extract i s.size ++ blanks).extract m (s.extract i s.size ++ blanks).size = s.extract (i + m) s.size ++ blanks := fun m hm => by
    rw [app_rest _ m hm, pieceR s i m (by omega)]
  have ho2 : out.length < 3518437208883 := by omega
  by_cases h32 : bt s (i : Int) = 32
  · obtain ⟨R, r1, r2, r3, r4⟩ := IH (d - 1) (by omega) (i + 1) out ln (by omega) (by omega) hn0 (by omega) hu
    exact ⟨R, Ev.step (fun k => by rw [impl_Lex.l0, if_neg ne, if_pos p1, hb, if_pos h32, if_pos g1, e1]) r1, r2, r3, fun z => Ev.step (fun k => by rw [impl_Lex.l0, if_neg ne', if_pos p1', hb', if_pos h32, if_pos g1', e1' 1 hR1]) (r4 z)⟩
  by_cases h10 : bt s (i : Int) = 10
  · obtain ⟨R, r1, r2, r3, r4⟩ := IH (d - 1) (by omega) (i + 1) out (ln + 1) (by omega) (by omega) (by omega) (by omega) ⟨hu.1, fun t ht => by have := hu.2 t ht; omega⟩
    have w2 : wrap64 (ln + 1) = ln + 1 := wrap_ok (by omega) (by omega)
    exact ⟨R, Ev.step (fun k => by rw [impl_Lex.l0, if_neg ne, if_pos p1, hb, if_neg h32, if_pos h10, if_pos g1, e1, w2]) r1, r2, r3, fun z => Ev.step (fun k => by rw [impl_Lex.l0, if_neg ne', if_pos p1', hb', if_neg h32, if_pos h10, if_pos g1', e1' 1 hR1, w2]) (r4 z)⟩
  obtain ⟨a, t, n, m, m1, t1, _⟩ := tok s (by omega) i hi
  have im0 : ∀ R, Ev (fun k => (impl_tokenAt.f k (s.extract i s.size)).bind fun bt104 => (if bt104.2.2.2.2 = 0 then (some (([] : List S56), ln)) else (if out.length < 3518437208883 then (if 0 ≤ bt104.2.2.2.2 then (if bt104.2.2.2.2 ≤ ((s.extract i s.size).size : Int) then (impl_Lex.l0 k ((s.extract i s.size).extract (bt104.2.2.2.2 : Int).toNat (s.extract i s.size).size) (out ++ [(⟨bt104.1, bt104.2.1, bt104.2.2.1, ln⟩ : S56)]) ln) else (none)) else (none)) else (none)))) R → Ev (fun k => impl_Lex.l0 k (s.extract i s.size) out ln) R := fun R hR =>
    Ev.step (fun k => by rw [impl_Lex.l0, if_neg ne, if_pos p1, hb, if_neg h32, if_neg h10]) hR
  have im1 : ∀ R, Ev (fun k => (impl_tokenAt.f k (s.extract i s.size)).bind fun bt104 => (if bt104.2.2.2.2 = 0 then (some (([] : List S56), ln)) else (if out.length < 3518437208883 then (if 0 ≤ bt104.2.2.2.2 then (if bt104.2.2.2.2 ≤ ((s.extract i s.size ++ blanks).size : Int) then (impl_Lex.l0 k ((s.extract i s.size ++ blanks).extract (bt104.2.2.2.2 : Int).toNat (s.extract i s.size ++ blanks).size) (out ++ [(⟨bt104.1, bt104.2.1, bt104.2.2.1, ln⟩ : S56)]) ln) else (none)) else (none)) else (none)))) R → Ev (fun k => impl_Lex.l0 k (s.extract i s.size ++ blanks) out ln) R := fun R hR =>
    Ev.step (fun k => by rw [impl_Lex.l0, if_neg ne', if_pos p1', hb', if_neg h32, if_neg h10, tok_more _ hR1 (by omega)]) hR
  by_cases hm : m = 0
  · subst hm
    exact ⟨([], ln), im0 _ (Ev.bind t1 (Ev.ite_pos rfl (Ev.now _))), List.Pairwise.nil, fun _ => rfl, fun z => absurd z (by show ¬ ln = 0; omega)⟩
  · have hu2 : Upto (out ++ [(⟨a, t, n, ln⟩ : S56)]) ln := by
      refine ⟨List.pairwise_append.mpr ⟨hu.1, List.pairwise_singleton _ _, fun x hx y hy => ?_⟩, fun x hx => ?_⟩
      · rw [List.mem_singleton] at hy
        subst hy
        exact hu.2 x hx
      · rcases List.mem_append.mp hx with h | h
        · exact hu.2 x h
        · rw [List.mem_singleton] at h
          subst h
          exact Int.le_refl _
    obtain ⟨R, r1, r2, r3, r4⟩ := IH (d - m) (by omega) (i + m) (out ++ [(⟨a, t, n, ln⟩ : S56)]) ln (by omega) (by simp; omega) hn0 (by omega) hu2
    have e2 := pieceR s i m m1
    have e3 := e1' m (by omega)
    have f2 : ¬ (m : Int) = 0 := by omega
    have f3 : 0 ≤ (m : Int) := by omega
    have f4 : (m : Int) ≤ ((s.extract i s.size).size : Int) := by omega
    have f5 : (m : Int) ≤ ((s.extract i s.size ++ blanks).size : Int) := by omega
    refine ⟨R, im0 _ (Ev.bind t1 (Ev.ite_neg f2 (Ev.ite_pos ho2 (Ev.ite_pos f3 (Ev.ite_pos f4 ?_))))), r2, r3, fun z => im1 _ (Ev.bind t1 (Ev.ite_neg f2 (Ev.ite_pos ho2 (Ev.ite_pos f3 (Ev.ite_pos f5 ?_)))))⟩
    · simp only [Int.toNat_natCast]
      rw [e2]
      exact r1
    · simp only [Int.toNat_natCast]
      rw [e3]
      exact r4 z
theorem lex_more (s : ByteArray) : ∃ R : List S56 × Int, Ev (fun k => impl_Lex.f k s) R ∧ R.1.Pairwise (fun a b => a.f3 ≤ b.f3) ∧ (R.2 ≠ 0 → R.1 = []) ∧ (R.2 = 0 → s.size ≤ 2997 → Ev (fun k => impl_Lex.f k (s ++ blanks)) R) := by
  have hz := app_size s
  unfold impl_Lex.f
  by_cases h : (s.size : Int) > 3000
  · exact ⟨([], 1), Ev.ite_pos h (Ev.now _), List.Pairwise.nil, fun _ => rfl, fun z => by cases z⟩
  · obtain ⟨R, r1, r2, r3, r4⟩ := more_run s (by omega) s.size 0 [] 1 (by omega) (Nat.le_refl _) (by omega) (by omega) ⟨List.Pairwise.nil, fun t ht => by simp at ht⟩
    have e : s.extract 0 s.size = s := by
      apply Go.WideShapes.bytes_inj
      rw [rest_list]
      rfl
    rw [e] at r1 r4
    exact ⟨R, Ev.ite_neg h r1, r2, r3, fun z hl => Ev.ite_neg (by omega) (r4 z)⟩
theorem ev_one {α : Type} {f : Nat → Option α} {a b : α} (h1 : Ev f a) (h2 : Ev f b) : a = b := by
  obtain ⟨k1, e1⟩ := h1
  obtain ⟨k2, e2⟩ := h2
  have p := e1 (max k1 k2) (Nat.le_max_left _ _)
  have q := e2 (max k1 k2) (Nat.le_max_right _ _)
  rw [p] at q
  injection q
end Go.Proofs.YtbihpjngmjkjmaaDoor.Dec
