/- Functions of the program and of the reference as plain functions, and that the Go code comes to their answers; several texts in one. No conditions beyond what each theorem says. -/
import Derived.Test.YtbihpjngmjkjmaaDoorMLex1ma
import Derived.Test.YtbihpjngmjkjmaaDoorMLexxF27
import Derived.Test.YtbihpjngmjkjmaaDoorMLexxF28
import Derived.Test.YtbihpjngmjkjmaaDoorMLex0b
import Derived.Test.YtbihpjngmjkjmaaDoorMLex2oa
namespace Go.Proofs.YtbihpjngmjkjmaaDoor.Dec
open Go.RowKit Go.Proofs.YtbihpjngmjkjmaaDoor.P Go.Proofs.YtbihpjngmjkjmaaDoorW.PrintWords Go.Proofs.YtbihpjngmjkjmaaDoorW.PrintLast Go.Proofs.YtbihpjngmjkjmaaDoor.Aux Go.Lib
set_option linter.unusedVariables false
set_option linter.unusedSimpArgs false
theorem sign_byte : ∀ c : Fin 256, ([[40], [41], [123], [125], [91], [93], [44], [59], [61], [60], [43], [45], [42], [38]].any fun l => decide (l = [UInt8.ofNat c.val])) = decide (0 ≤ indexByte [40, 41, 123, 125, 91, 93, 44, 59, 61, 60, 43, 45, 42, 38] (UInt8.ofNat c.val)) := by decide +kernel
theorem sign_same (c : UInt8) : ([[40], [41], [123], [125], [91], [93], [44], [59], [61], [60], [43], [45], [42], [38]].any fun l => decide (l = [c])) = decide (0 ≤ indexByte [40, 41, 123, 125, 91, 93, 44, 59, 61, 60, 43, 45, 42, 38] c) := by
  have h := sign_byte ⟨c.toNat, c.toNat_lt⟩
  have e : UInt8.ofNat c.toNat = c := by simp
  rw [e] at h
  exact h
/-- What the reference answers, out of what the program answers. -/
def atPlace (i : Nat) (a : Int) (t : ByteArray) (n : Int) (m : Nat) : Int × ByteArray × Int × Int × Int := if m = 0 then ((0 : Int), (⟨#[]⟩ : ByteArray), (0 : Int), (0 : Int), (-1 : Int)) else (a, t, n, 0, ((i + m : Nat) : Int))
theorem atPlace_no (i : Nat) (a : Int) (t : ByteArray) (n : Int) : atPlace i a t n 0 = ((0 : Int), (⟨#[]⟩ : ByteArray), (0 : Int), (0 : Int), (-1 : Int)) := if_pos rfl
theorem atPlace_yes (i : Nat) (a : Int) (t : ByteArray) (n : Int) {m : Nat} (h : 1 ≤ m) : atPlace i a t n m = (a, t, n, 0, ((i + m : Nat) : Int)) := if_neg (by omega)
theorem one_byte (s : ByteArray) (i : Nat) (hi : i < s.size) : ∃ c : UInt8, (s.extract i (i + 1)).data.toList = [c] ∧ bt s (i : Int) = (c.toNat : Int) := by
  have hl : i < s.data.toList.length := by rw [ba_len]; exact hi
  refine ⟨s.data.toList[i], ?_, bt_list s i hl⟩
  rw [extract_data, show i + 1 - i = 1 by omega, List.drop_eq_getElem_cons hl]
  rfl
theorem hasP (s : ByteArray) : strings_HasPrefix.f s (⟨#[61, 61]⟩ : ByteArray) = some (if 2 ≤ s.size then ((s.extract 0 2).toList == ([61, 61] : List UInt8)) else false) := by
  have e2 : ((⟨#[61, 61]⟩ : ByteArray).size : Int) = 2 := rfl
  have e3 : (⟨#[61, 61]⟩ : ByteArray).toList = ([61, 61] : List UInt8) := by rw [ba_toList]
  unfold strings_HasPrefix.f stringslite_HasPrefix.f
  rw [e2, e3]
  by_cases h : 2 ≤ s.size
  · rw [if_pos (show (s.size : Int) ≥ 2 by omega), if_pos (by decide), if_pos (by omega), if_pos h]
    rfl
  · rw [if_neg (show ¬ (s.size : Int) ≥ 2 by omega), if_neg h]
    rfl
section
variable (s : ByteArray) (hs : s.size ≤ 1048576) (i : Nat) (hi : i < s.size)
include hs hi
/-- Both answers at a place. -/
theorem tok : ∃ (a : Int) (t : ByteArray) (n : Int) (m : Nat), i + m ≤ s.size ∧ Ev (fun k => impl_tokenAt.f k (s.extract i s.size)) (a, t, n, 0, (m : Int)) ∧ Ev (fun k => spec_l01Next.f k s (i : Int)) (atPlace i a t n m) := by
  have hz := rest_size s i
  have hb := bt_rest s i 0 (by omega)
  rw [Nat.add_zero] at hb
  have hb : bt (s.extract i s.size) 0 = bt s (i : Int) := hb
  have q1 : (i : Int) < (s.size : Int) := by omega
  have q2 : 0 ≤ (i : Int) := by omega
  have p1 : (0 : Int) < ((s.extract i s.size).size : Int) := by omega
  have spec0 : ∀ R, (LT (bt s (i : Int)) = true → Ev (fun k => spec_l01Next.l0 k s (i : Int) (i : Int)) R) → (LT (bt s (i : Int)) = false → DG (bt s (i : Int)) = true → Ev (fun k => spec_l01Next.l1 k s (i : Int) (i : Int) 0) R) →
      (LT (bt s (i : Int)) = false → DG (bt s (i : Int)) = false → Ev (fun k => if (wrap64 ((i : Int) + 2)) ≤ (s.size : Int) then (if (i : Int) ≤ (wrap64 ((i : Int) + 2)) then (spec_l01Next.j3 k s (i : Int) ((s.extract ((i : Int) : Int).toNat ((wrap64 ((i : Int) + 2)) : Int).toNat).toList == ([61, 61] : List UInt8))) else (none)) else (spec_l01Next.j3 k s (i : Int) false)) R) → Ev (fun k => spec_l01Next.f k s (i : Int)) R := by
    intro R f1 f2 f3
    unfold spec_l01Next.f
    refine Ev.ite_pos q2 (Ev.ite_pos q1 (Ev.const (let_s s i) ?_))
    cases hL : LT (bt s (i : Int)) with
    | true => exact Ev.ite_pos rfl (f1 hL)
    | false =>
      refine Ev.ite_neg (by decide) (Ev.const (dig_s s i) ?_)
      cases hD : DG (bt s (i : Int)) with
      | true => exact Ev.ite_pos rfl (f2 hL hD)
      | false => exact Ev.ite_neg (by decide) (f3 hL hD)
  cases hL : LT (bt s (i : Int)) with
  | true =>
    obtain ⟨m, m1, m2, m3, m4⟩ := name_run s hs i hi (s.size - i - 1) 1 (Nat.le_refl _) (by omega)
    have n0 : Ev (fun k => impl_nameLong.f k (s.extract i s.size)) (m : Int) := by
      unfold impl_nameLong.f
      have w1 : wrap64 ((0 : Int) + 1) = ((1 : Nat) : Int) := by rw [wrap_ok (by omega) (by omega)]; rfl
      exact Ev.step (fun k => by rw [impl_nameLong.l0, if_pos p1, if_pos (Int.le_refl 0), hb, small_f, hL, Option.bind_some, if_pos rfl, w1]) m3
    have s0 : ∀ R, Ev (fun k => spec_l01Next.j1 k s (i : Int) ((i + m : Nat) : Int)) R → Ev (fun k => spec_l01Next.l0 k s (i : Int) (i : Int)) R := fun R hR => by
      have h4 := m4 R hR
      have w2 : wrap64 ((i : Int) + 1) = ((i + 1 : Nat) : Int) := by rw [wrap_ok (by omega) (by omega)]; omega
      exact Ev.step (fun k => by rw [spec_l01Next.l0, if_pos q1, if_pos q2, let_s, hL, Option.bind_some, if_pos rfl, w2]) h4
    have hx : (s.extract i s.size).extract 0 m = s.extract i (i + m) := piece0 s i m m2
    obtain ⟨w, w1, w2⟩ := Nm.isWord (s.extract i (i + m))
    have hxs : (s.extract i (i + m)).size ≤ 1048576 := by rw [ByteArray.size_extract]; omega
    obtain ⟨o, o1, o2⟩ := Nm.nameOk (s.extract i (i + m)) (by omega)
    have t1 : (m : Int) > 0 := by omega
    have t2 : 0 ≤ (m : Int) := by omega
    have t3 : (m : Int) ≤ ((s.extract i s.size).size : Int) := by omega
    have r1 : (i : Int) ≤ ((i + m : Nat) : Int) := by omega
    have r2 : ((i + m : Nat) : Int) ≤ (s.size : Int) := by omega
    have impl0 : ∀ R, Ev (fun k => (impl_IsWord.f k (s.extract i (i + m))).bind fun t104 => (if t104 = true then (some ((2 : Int), s.extract i (i + m), (0 : Int), (0 : Int), (m : Int))) else ((impl_NameOk.f k (s.extract i (i + m))).bind fun t105 => (if t105 = true then (some ((0 : Int), s.extract i (i + m), (0 : Int), (0 : Int), (m : Int))) else (some ((0 : Int), (⟨#[]⟩ : ByteArray), (0 : Int), (0 : Int), (0 : Int))))))) R → Ev (fun k => impl_tokenAt.f k (s.extract i s.size)) R := fun R hR => by
      unfold impl_tokenAt.f
      refine Ev.bind n0 (Ev.ite_pos t1 (Ev.ite_pos t2 (Ev.ite_pos t3 ?_)))
      rw [Int.toNat_natCast, hx]
      exact hR
    have specj : ∀ R, Ev (fun k => (spec_IsWord.f k (s.extract i (i + m))).bind fun t105 => (if t105 = true then (some ((2 : Int), s.extract i (i + m), (0 : Int), (0 : Int), ((i + m : Nat) : Int))) else ((spec_NameOk.f k (s.extract i (i + m))).bind fun t106 => (if t106 = true then (some ((0 : Int), s.extract i (i + m), (0 : Int), (0 : Int), ((i + m : Nat) : Int))) else (some ((0 : Int), (⟨#[]⟩ : ByteArray), (0 : Int), (0 : Int), (-1 : Int))))))) R → Ev (fun k => spec_l01Next.f k s (i : Int)) R := fun R hR => by
      refine spec0 R (fun _ => s0 R ?_) (fun z => by rw [hL] at z; cases z) (fun z => by rw [hL] at z; cases z)
      refine Ev.step (fun k => by rw [spec_l01Next.j1, if_pos q2, if_pos r1, if_pos r2, Int.toNat_natCast, Int.toNat_natCast]) hR
    cases w with
    | true => exact ⟨2, s.extract i (i + m), 0, m, m2, impl0 _ (Ev.bind w2 (Ev.ite_pos rfl (Ev.now _))), by rw [atPlace_yes i _ _ _ m1]; exact specj _ (Ev.bind w1 (Ev.ite_pos rfl (Ev.now _)))⟩
    | false =>
      cases o with
      | true => exact ⟨0, s.extract i (i + m), 0, m, m2, impl0 _ (Ev.bind w2 (Ev.ite_neg (by decide) (Ev.bind o2 (Ev.ite_pos rfl (Ev.now _))))), by rw [atPlace_yes i _ _ _ m1]; exact specj _ (Ev.bind w1 (Ev.ite_neg (by decide) (Ev.bind o1 (Ev.ite_pos rfl (Ev.now _)))))⟩
      | false => exact ⟨0, (⟨#[]⟩ : ByteArray), 0, 0, by omega, impl0 _ (Ev.bind w2 (Ev.ite_neg (by decide) (Ev.bind o2 (Ev.ite_neg (by decide) (Ev.now _))))), by rw [atPlace_no]; exact specj _ (Ev.bind w1 (Ev.ite_neg (by decide) (Ev.bind o1 (Ev.ite_neg (by decide) (Ev.now _)))))⟩
  | false =>
    have n0 : Ev (fun k => impl_nameLong.f k (s.extract i s.size)) 0 := by
      unfold impl_nameLong.f
      exact Ev.step (f := fun _ => some 0) (fun k => by rw [impl_nameLong.l0, if_pos p1, if_pos (Int.le_refl 0), hb, small_f, hL, Option.bind_some, if_neg (by decide), if_neg (by decide)]) (Ev.now _)
    have impl0 : ∀ R, Ev (fun k => impl_tokenAt.l0 k (s.extract i s.size) 0) R → Ev (fun k => impl_tokenAt.f k (s.extract i s.size)) R := fun R hR => by
      unfold impl_tokenAt.f
      exact Ev.bind n0 (Ev.ite_neg (by decide) hR)
    cases hD : DG (bt s (i : Int)) with
    | true =>
      obtain ⟨m, m1, m2, m3, m4, m5, m6⟩ := num_run s hs i hi (s.size - i) 0 0 (by omega) (by omega) rfl
      have m3 : ∀ R, Ev (fun k => impl_tokenAt.j1 k (s.extract i s.size) (m : Int)) R → Ev (fun k => impl_tokenAt.l0 k (s.extract i s.size) 0) R := m3
      have mp : 1 ≤ m := m6 (by omega) (by omega) (by rw [show ((0 : Nat) : Int) = 0 from rfl, hb]; exact hD)
      have t1 : (m : Int) > 0 := by omega
      have t2 : 0 ≤ (m : Int) := by omega
      have t3 : (m : Int) ≤ ((s.extract i s.size).size : Int) := by omega
      have hx : ((s.extract i s.size).extract 0 m).data.toList = (s.extract i s.size).data.toList.take m := extract_from_zero _ m
      have hxz : ((s.extract i s.size).extract 0 m).size ≤ 1048576 := by rw [ByteArray.size_extract]; omega
      have ha : strconv_Atoi_53.f ((s.extract i s.size).extract 0 m) = some (atoiR ((s.extract i s.size).extract 0 m)) := if_pos (by omega)
      have implj : ∀ R, Ev (fun k => (if (m : Int) > 9 then (some ((0 : Int), (⟨#[]⟩ : ByteArray), (0 : Int), (0 : Int), (0 : Int))) else (if (atoiR ((s.extract i s.size).extract 0 m)).2 = true then (some ((0 : Int), (⟨#[]⟩ : ByteArray), (0 : Int), (0 : Int), (0 : Int))) else (some ((1 : Int), (⟨#[]⟩ : ByteArray), (atoiR ((s.extract i s.size).extract 0 m)).1, (0 : Int), (m : Int)))))) R → Ev (fun k => impl_tokenAt.f k (s.extract i s.size)) R := fun R hR => by
        refine impl0 R (m3 R ?_)
        refine Ev.step (fun k => by rw [impl_tokenAt.j1, if_pos t1, if_pos t2, if_pos t3, Int.toNat_natCast, ha, Option.bind_some]) hR
      by_cases h9 : m ≤ 9
      · obtain ⟨u, u1, u2⟩ := m4 h9
        have u2 : Ev (fun k => spec_l01Next.l1 k s (i : Int) (i : Int) 0) (1, (⟨#[]⟩ : ByteArray), (u : Int), 0, ((i + m : Nat) : Int)) := u2
        have hlen : ((s.extract i s.size).data.toList.take m).length = m := by rw [List.length_take, ba_len]; omega
        have hne : (s.extract i s.size).data.toList.take m ≠ [] := fun z => by rw [z] at hlen; simp at hlen; omega
        have hall : ∀ b ∈ (s.extract i s.size).data.toList.take m, ∃ d, digitVal b = some d := by
          intro b hbm
          obtain ⟨k, hk, rfl⟩ := List.getElem_of_mem hbm
          exact digit_of_decFrom _ 0 u u1 k _ (List.getElem?_eq_getElem hk)
        have hA : atoiR ((s.extract i s.size).extract 0 m) = ((u : Int), false) := by
          unfold atoiR
          rw [hx, atoiAll_short _ (by omega), atoi_digits hne hall]
          have hdn : decNat ((s.extract i s.size).data.toList.take m) = some u := by
            unfold decNat
            rw [if_neg (by simpa using hne)]
            exact u1
          rw [hdn]
          rfl
        refine ⟨1, (⟨#[]⟩ : ByteArray), (u : Int), m, m2, implj _ (Ev.ite_neg (by omega) ?_), ?_⟩
        · rw [hA]
          exact Ev.ite_neg (by simp) (Ev.now _)
        · rw [atPlace_yes i _ _ _ mp]
          exact spec0 _ (fun z => by rw [hL] at z; cases z) (fun _ _ => u2) (fun _ z => by rw [hD] at z; cases z)
      · have u2 : Ev (fun k => spec_l01Next.l1 k s (i : Int) (i : Int) 0) ((0 : Int), (⟨#[]⟩ : ByteArray), (0 : Int), (0 : Int), (-1 : Int)) := m5 h9
        refine ⟨0, (⟨#[]⟩ : ByteArray), 0, 0, by omega, implj _ (Ev.ite_pos (by omega) (Ev.now _)), ?_⟩
        rw [atPlace_no]
        exact spec0 _ (fun z => by rw [hL] at z; cases z) (fun _ _ => u2) (fun _ z => by rw [hD] at z; cases z)
    | false =>
      have implj : ∀ R, Ev (fun k => impl_tokenAt.j1 k (s.extract i s.size) 0) R → Ev (fun k => impl_tokenAt.f k (s.extract i s.size)) R := fun R hR =>
        impl0 R (Ev.step (fun k => by rw [impl_tokenAt.l0, if_pos p1, if_pos (Int.le_refl 0), dig_f, hb, hD, Option.bind_some, if_neg (by decide)]) hR)
      have hP := hasP (s.extract i s.size)
      have w2 : wrap64 ((i : Int) + 2) = ((i + 2 : Nat) : Int) := by rw [wrap_ok (by omega) (by omega)]; omega
      have w1 : wrap64 ((i : Int) + 1) = ((i + 1 : Nat) : Int) := by rw [wrap_ok (by omega) (by omega)]; omega
      have W1 := Zs0.mk w1
      have W2 := Zs0.mk w2
      clear w1 w2
      have specj : ∀ R, Ev (fun k => spec_l01Next.j3 k s (i : Int) (if 2 ≤ (s.extract i s.size).size then (((s.extract i s.size).extract 0 2).toList == ([61, 61] : List UInt8)) else false)) R → Ev (fun k => spec_l01Next.f k s (i : Int)) R := fun R hR => by
        refine spec0 R (fun z => by rw [hL] at z; cases z) (fun _ z => by rw [hD] at z; cases z) (fun _ _ => ?_)
        rw [W2.out, Int.toNat_natCast, Int.toNat_natCast]
        by_cases h2 : 2 ≤ (s.extract i s.size).size
        · rw [if_pos h2, piece0 s i 2 (by omega)] at hR
          exact Ev.ite_pos (by omega) (Ev.ite_pos (by omega) hR)
        · rw [if_neg h2] at hR
          exact Ev.ite_neg (by omega) hR
      have hpre : (if 2 ≤ (s.extract i s.size).size then (((s.extract i s.size).extract 0 2).toList == ([61, 61] : List UInt8)) else false) = true → 2 ≤ (s.extract i s.size).size := fun z => by
        by_cases h : 2 ≤ (s.extract i s.size).size
        · exact h
        · rw [if_neg h] at z
          cases z
      generalize (if 2 ≤ (s.extract i s.size).size then (((s.extract i s.size).extract 0 2).toList == ([61, 61] : List UInt8)) else false) = pre at hP specj hpre
      obtain ⟨c, c1, c2⟩ := one_byte s i hi
      have hsg : ((([(⟨#[40]⟩ : ByteArray), (⟨#[41]⟩ : ByteArray), (⟨#[123]⟩ : ByteArray), (⟨#[125]⟩ : ByteArray), (⟨#[91]⟩ : ByteArray), (⟨#[93]⟩ : ByteArray), (⟨#[44]⟩ : ByteArray), (⟨#[59]⟩ : ByteArray), (⟨#[61]⟩ : ByteArray), (⟨#[60]⟩ : ByteArray), (⟨#[43]⟩ : ByteArray), (⟨#[45]⟩ : ByteArray), (⟨#[42]⟩ : ByteArray), (⟨#[38]⟩ : ByteArray)] : List ByteArray)).any fun x => x.toList = (s.extract i (i + 1)).toList) = decide (0 ≤ indexByte [40, 41, 123, 125, 91, 93, 44, 59, 61, 60, 43, 45, 42, 38] c) := by
        rw [← sign_same c, ← c1]
        simp only [List.any_cons, List.any_nil, ba_toList]
      have hH := Nm.has_f ([(⟨#[40]⟩ : ByteArray), (⟨#[41]⟩ : ByteArray), (⟨#[123]⟩ : ByteArray), (⟨#[125]⟩ : ByteArray), (⟨#[91]⟩ : ByteArray), (⟨#[93]⟩ : ByteArray), (⟨#[44]⟩ : ByteArray), (⟨#[59]⟩ : ByteArray), (⟨#[61]⟩ : ByteArray), (⟨#[60]⟩ : ByteArray), (⟨#[43]⟩ : ByteArray), (⟨#[45]⟩ : ByteArray), (⟨#[42]⟩ : ByteArray), (⟨#[38]⟩ : ByteArray)] : List ByteArray) (s.extract i (i + 1)) (by simp)
      rw [hsg] at hH
      have hIdx : strings_IndexByte.f (⟨#[40, 41, 123, 125, 91, 93, 44, 59, 61, 60, 43, 45, 42, 38]⟩ : ByteArray) (bt (s.extract i s.size) 0) = some (indexByte [40, 41, 123, 125, 91, 93, 44, 59, 61, 60, 43, 45, 42, 38] c) := by
        unfold strings_IndexByte.f
        rw [hb, c2]
        simp
      have g1 : (1 : Int) ≤ ((s.extract i s.size).size : Int) := by omega
      have e1 : (s.extract i s.size).extract 0 1 = s.extract i (i + 1) := piece0 s i 1 (by omega)
      have z0 : ¬ ((0 : Int) > 0) := by decide
      cases pre with
      | true =>
        have h2 := hpre rfl
        refine ⟨2, (⟨#[61, 61]⟩ : ByteArray), 0, 2, by omega, implj _ (Ev.step (fun k => by rw [impl_tokenAt.j1, if_neg z0]) (Ev.const hP (Ev.ite_pos rfl (Ev.now _)))), ?_⟩
        rw [atPlace_yes i _ _ _ (by decide)]
        exact specj _ (Ev.step (f := fun _ => some _) (fun k => by rw [spec_l01Next.j3, if_pos rfl, W2.out]) (Ev.now _))
      | false =>
        have y1 : (i : Int) ≤ ((i + 1 : Nat) : Int) := by omega
        have y2 : ((i + 1 : Nat) : Int) ≤ (s.size : Int) := by omega
        have impl1 : ∀ R, Ev (fun _ => (if (indexByte [40, 41, 123, 125, 91, 93, 44, 59, 61, 60, 43, 45, 42, 38] c) ≥ 0 then (some ((2 : Int), s.extract i (i + 1), (0 : Int), (0 : Int), (1 : Int))) else (some ((0 : Int), (⟨#[]⟩ : ByteArray), (0 : Int), (0 : Int), (0 : Int))))) R → Ev (fun k => impl_tokenAt.f k (s.extract i s.size)) R := fun R hR => by
          refine implj R (Ev.step (fun k => ?_) hR)
          rw [impl_tokenAt.j1, if_neg z0, hP, Option.bind_some, if_neg (by decide), if_pos p1, hIdx, Option.bind_some]
          by_cases hh : (indexByte [40, 41, 123, 125, 91, 93, 44, 59, 61, 60, 43, 45, 42, 38] c) ≥ 0
          · rw [if_pos hh, if_pos hh, if_pos (by decide), if_pos g1, e1]
          · rw [if_neg hh, if_neg hh]
        have spec1 : ∀ R, Ev (fun k => (spec_l01Has.f k ([(⟨#[40]⟩ : ByteArray), (⟨#[41]⟩ : ByteArray), (⟨#[123]⟩ : ByteArray), (⟨#[125]⟩ : ByteArray), (⟨#[91]⟩ : ByteArray), (⟨#[93]⟩ : ByteArray), (⟨#[44]⟩ : ByteArray), (⟨#[59]⟩ : ByteArray), (⟨#[61]⟩ : ByteArray), (⟨#[60]⟩ : ByteArray), (⟨#[43]⟩ : ByteArray), (⟨#[45]⟩ : ByteArray), (⟨#[42]⟩ : ByteArray), (⟨#[38]⟩ : ByteArray)] : List ByteArray) (s.extract i (i + 1))).bind fun t112 => (if t112 = true then (some ((2 : Int), s.extract i (i + 1), (0 : Int), (0 : Int), ((i + 1 : Nat) : Int))) else (some ((0 : Int), (⟨#[]⟩ : ByteArray), (0 : Int), (0 : Int), (-1 : Int))))) R → Ev (fun k => spec_l01Next.f k s (i : Int)) R := fun R hR => by
          refine specj R (Ev.step (fun k => by rw [spec_l01Next.j3, if_neg (by decide), if_pos q2, W1.out, if_pos y1, if_pos y2, Int.toNat_natCast, Int.toNat_natCast]) hR)
        by_cases hg : 0 ≤ indexByte [40, 41, 123, 125, 91, 93, 44, 59, 61, 60, 43, 45, 42, 38] c
        · rw [decide_eq_true hg] at hH
          refine ⟨2, s.extract i (i + 1), 0, 1, by omega, impl1 _ (Ev.ite_pos hg (Ev.now _)), ?_⟩
          rw [atPlace_yes i _ _ _ (by decide)]
          exact spec1 _ (Ev.bind hH (Ev.ite_pos rfl (Ev.now _)))
        · rw [decide_eq_false hg] at hH
          refine ⟨0, (⟨#[]⟩ : ByteArray), 0, 0, by omega, impl1 _ (Ev.ite_neg hg (Ev.now _)), ?_⟩
          rw [atPlace_no]
          exact spec1 _ (Ev.bind hH (Ev.ite_neg (by decide) (Ev.now _)))
end
theorem bt10 {s : ByteArray} {i : Nat} {v : Int} (h : bt s (i : Int) ≠ v) : (bt s (i : Int) == v) = false := beq_eq_false_iff_ne.mpr h
/-- Both answers from a place on. -/
theorem lex_run (s : ByteArray) (hs : s.size ≤ 3000) (d : Nat) : ∀ (i : Nat) (out : List S56) (ln : Int), i + d = s.size → out.length ≤ i → 0 ≤ ln → ln ≤ (i : Int) + 1 →
    ∃ R : List S56 × Int, R.1.length ≤ 3000 ∧ Ev (fun k => spec_Lex.l0 k s out ln (i : Int)) R ∧ Ev (fun k => impl_Lex.l0 k (s.extract i s.size) out ln) R := by
  induction d using Nat.strongRecOn with
  | ind d IH =>
  intro i out ln hd ho hn0 hn1
  have hz := rest_size s i
  have hlT : (s.extract i s.size).toList.length = s.size - i := by rw [ba_toList, ba_len, hz]
  by_cases h0 : d = 0
  · have e : (s.extract i s.size).toList = ([] : List UInt8) := List.eq_nil_of_length_eq_zero (by omega)
    refine ⟨(out, 0), by show out.length ≤ 3000; omega, Ev.step (f := fun _ => some (out, 0)) (fun k => by rw [spec_Lex.l0, if_neg (by omega)]) (Ev.now _), Ev.step (f := fun _ => some (out, 0)) (fun k => by rw [impl_Lex.l0, if_pos e]) (Ev.now _)⟩
  have hi : i < s.size := by omega
  have ne : ¬ (s.extract i s.size).toList = ([] : List UInt8) := fun z => by rw [z] at hlT; simp at hlT; omega
  have hb : bt (s.extract i s.size) 0 = bt s (i : Int) := by
    have := bt_rest s i 0 (by omega)
    rw [Nat.add_zero] at this
    exact this
  have q1 : (i : Int) < (s.size : Int) := by omega
  have q2 : 0 ≤ (i : Int) := by omega
  have p1 : (0 : Int) < ((s.extract i s.size).size : Int) := by omega
  have g1 : (1 : Int) ≤ ((s.extract i s.size).size : Int) := by omega
  have e1 : (s.extract i s.size).extract 1 (s.extract i s.size).size = s.extract (i + 1) s.size := pieceR s i 1 (by omega)
  have ho2 : out.length < 3518437208883 := by omega
  by_cases h32 : bt s (i : Int) = 32
  · obtain ⟨R, r0, r1, r2⟩ := IH (d - 1) (by omega) (i + 1) out ln (by omega) (by omega) hn0 (by omega)
    have h10 : ¬ bt s (i : Int) = 10 := by omega
    have w1 : wrap64 ((i : Int) + 1) = ((i + 1 : Nat) : Int) := by rw [wrap_ok (by omega) (by omega)]; omega
    refine ⟨R, r0, Ev.step (fun k => by rw [spec_Lex.l0, if_pos q1, if_pos q2, if_pos h32]) (Ev.step (fun k => by rw [spec_Lex.j1, if_pos rfl, if_pos q2, if_pos q1, if_neg h10, w1]) r1), Ev.step (fun k => by rw [impl_Lex.l0, if_neg ne, if_pos p1, hb, if_pos h32, if_pos g1, e1]) r2⟩
  by_cases h10 : bt s (i : Int) = 10
  · obtain ⟨R, r0, r1, r2⟩ := IH (d - 1) (by omega) (i + 1) out (ln + 1) (by omega) (by omega) (by omega) (by omega)
    have hq : (bt s (i : Int) == 10) = true := beq_iff_eq.mpr h10
    obtain ⟨w1, w2⟩ : wrap64 ((i : Int) + 1) = ((i + 1 : Nat) : Int) ∧ wrap64 (ln + 1) = ln + 1 := ⟨by rw [wrap_ok (by omega) (by omega)]; omega, wrap_ok (by omega) (by omega)⟩
    refine ⟨R, r0, Ev.step (fun k => by rw [spec_Lex.l0, if_pos q1, if_pos q2, if_neg h32, hq]) (Ev.step (fun k => by rw [spec_Lex.j1, if_pos rfl, if_pos q2, if_pos q1, if_pos h10, w1, w2]) r1), Ev.step (fun k => by rw [impl_Lex.l0, if_neg ne, if_pos p1, hb, if_neg h32, if_pos h10, if_pos g1, e1, w2]) r2⟩
  obtain ⟨a, t, n, m, m1, t1, t2⟩ := tok s (by omega) i hi
  have hq := bt10 h10
  have sp0 : ∀ R, Ev (fun k => (spec_l01Next.f k s (i : Int)).bind fun bt104 => (if bt104.2.2.2.2 < 0 then (some ((([] : List S56)), ln)) else (if out.length < 3518437208883 then (spec_Lex.l0 k s (out ++ [(⟨bt104.1, bt104.2.1, bt104.2.2.1, ln⟩ : S56)]) ln bt104.2.2.2.2) else (none)))) R → Ev (fun k => spec_Lex.l0 k s out ln (i : Int)) R := fun R hR =>
    Ev.step (fun k => by rw [spec_Lex.l0, if_pos q1, if_pos q2, if_neg h32, hq]) (Ev.step (fun k => by rw [spec_Lex.j1, if_neg (by decide)]) hR)
  have im0 : ∀ R, Ev (fun k => (impl_tokenAt.f k (s.extract i s.size)).bind fun bt104 => (if bt104.2.2.2.2 = 0 then (some (([] : List S56), ln)) else (if out.length < 3518437208883 then (if 0 ≤ bt104.2.2.2.2 then (if bt104.2.2.2.2 ≤ ((s.extract i s.size).size : Int) then (impl_Lex.l0 k ((s.extract i s.size).extract (bt104.2.2.2.2 : Int).toNat (s.extract i s.size).size) (out ++ [(⟨bt104.1, bt104.2.1, bt104.2.2.1, ln⟩ : S56)]) ln) else (none)) else (none)) else (none)))) R → Ev (fun k => impl_Lex.l0 k (s.extract i s.size) out ln) R := fun R hR =>
    Ev.step (fun k => by rw [impl_Lex.l0, if_neg ne, if_pos p1, hb, if_neg h32, if_neg h10]) hR
  by_cases hm : m = 0
  · subst hm
    rw [atPlace_no] at t2
    exact ⟨([], ln), by simp, sp0 _ (Ev.bind t2 (Ev.ite_pos (by decide) (Ev.now _))), im0 _ (Ev.bind t1 (Ev.ite_pos rfl (Ev.now _)))⟩
  · rw [atPlace_yes i _ _ _ (by omega)] at t2
    obtain ⟨R, r0, r1, r2⟩ := IH (d - m) (by omega) (i + m) (out ++ [(⟨a, t, n, ln⟩ : S56)]) ln (by omega) (by simp; omega) hn0 (by omega)
    have e2 := pieceR s i m m1
    have f1 : ¬ ((i + m : Nat) : Int) < 0 := by omega
    have f2 : ¬ (m : Int) = 0 := by omega
    have f3 : 0 ≤ (m : Int) := by omega
    have f4 : (m : Int) ≤ ((s.extract i s.size).size : Int) := by omega
    refine ⟨R, r0, sp0 _ (Ev.bind t2 (Ev.ite_neg f1 (Ev.ite_pos ho2 r1))), im0 _ (Ev.bind t1 (Ev.ite_neg f2 (Ev.ite_pos ho2 (Ev.ite_pos f3 (Ev.ite_pos f4 ?_)))))⟩
    have r2' := r2
    rw [← e2] at r2'
    simpa using r2'
theorem lex_same (s : ByteArray) : ∃ R : List S56 × Int, R.1.length ≤ 3000 ∧ Ev (fun k => spec_Lex.f k s) R ∧ Ev (fun k => impl_Lex.f k s) R := by
  unfold spec_Lex.f impl_Lex.f
  by_cases h : (s.size : Int) > 3000
  · exact ⟨([], 1), by simp, Ev.const rfl (Ev.ite_pos h (Ev.now _)), Ev.ite_pos h (Ev.now _)⟩
  · obtain ⟨R, r0, r1, r2⟩ := lex_run s (by omega) s.size 0 [] 1 (by omega) (Nat.le_refl _) (by omega) (by omega)
    have e : s.extract 0 s.size = s := by
      apply Go.WideShapes.bytes_inj
      rw [rest_list]
      rfl
    rw [e] at r2
    exact ⟨R, r0, Ev.const rfl (Ev.ite_neg h r1), Ev.ite_neg h r2⟩

noncomputable def tkM (m : Int) : S56 := ⟨m, mkT (m + 1), m + 1 + 1, m + 1 + 1 + 1⟩
noncomputable def tkMs (m : Int) : Nat → List S56
  | 0 => []
  | n + 1 => tkM m :: tkMs (m + 1 + 1 + 1 + 1) n
theorem tkMs_len (n : Nat) : ∀ m, (tkMs m n).length = n := by
  induction n with
  | zero => intro m; rfl
  | succ n ih => intro m; simp [tkMs, ih]
theorem rdTk (xs : List S56) (i : Nat) (h : i < xs.length) : rd_T56 xs (i : Int) = xs[i] := by
  simp [rd_T56, List.getD_eq_getElem?_getD, List.getElem?_eq_getElem h]
theorem rdTkSet (xs : List S56) (i : Nat) (v : S56) (h : i < xs.length) : rd_T56 (xs.set i v) (i : Int) = v := by
  rw [rdTk _ i (by simpa using h), List.getElem_set_self]
theorem markTk_loop (d : Nat) : ∀ (xs : List S56) (i : Nat) (m : Int), i + d = xs.length → 0 ≤ m → m + 4 * d < 4611686018427387904 → xs.length ≤ 4294967296 → Ev (fun k => laws_markTokenS.l0 k xs m (i : Int)) (m + 4 * d, xs.take i ++ tkMs m d) := by
  induction d with
  | zero =>
    intro xs i m hi h0 hm hn
    refine Ev.step (f := fun _ => some (m, xs)) (fun k => by rw [laws_markTokenS.l0, if_neg (by omega)]) ?_
    rw [List.take_of_length_le (by omega), show m + 4 * ((0 : Nat) : Int) = m by omega, tkMs, List.append_nil]
    exact Ev.now _
  | succ d ih =>
    intro xs i m hi h0 hm hn
    have hi' : i < xs.length := by omega
    have hp : (i : Int) < (xs.length : Int) := by omega
    have hq : 0 ≤ (i : Int) := by omega
    have h := ih (xs.set i (tkM m)) (i + 1) (m + 1 + 1 + 1 + 1) (by simp; omega) (by omega) (by omega) (by simpa using hn)
    have e1 : (m + 4 * ((d + 1 : Nat) : Int), xs.take i ++ tkMs m (d + 1)) = (m + 1 + 1 + 1 + 1 + 4 * (d : Int), (xs.set i (tkM m)).take (i + 1) ++ tkMs (m + 1 + 1 + 1 + 1) d) := by
      rw [List.take_succ_eq_append_getElem (by simp; omega), List.getElem_set_self, List.take_set_of_le (by omega)]
      simp only [tkMs, List.append_assoc, List.cons_append, List.nil_append, Prod.mk.injEq, and_true]
      omega
    rw [e1]
    have hmt := mkT_ev (m + 1) (by omega)
    obtain ⟨w1, w2, w3, w4, w5⟩ : wrap64 (m + 1) = m + 1 ∧ wrap64 (m + 1 + 1) = m + 1 + 1 ∧ wrap64 (m + 1 + 1 + 1) = m + 1 + 1 + 1 ∧ wrap64 (m + 1 + 1 + 1 + 1) = m + 1 + 1 + 1 + 1 ∧ wrap64 ((i : Int) + 1) = ((i + 1 : Nat) : Int) :=
      ⟨wrap_ok (by omega) (by omega), wrap_ok (by omega) (by omega), wrap_ok (by omega) (by omega), wrap_ok (by omega) (by omega), by rw [wrap_ok (by omega) (by omega)]; omega⟩
    refine Ev.step (fun k => by rw [laws_markTokenS.l0, if_pos hp, if_pos hq, w1, w2, w3, w4, w5, Int.toNat_natCast]) ?_
    refine Ev.const rfl (Ev.bind hmt (Ev.const rfl (Ev.const rfl ?_)))
    have g1 : ∀ v, i < (xs.set i v).length := fun v => by simpa using hi'
    simp only [rdTkSet xs i _ hi', rdTkSet _ i _ (g1 _), List.set_set]
    exact h
theorem markTk_ev (xs : List S56) (hn : xs.length ≤ 3000) : Ev (fun k => laws_markTokenS.f k xs 1) (1 + 4 * (xs.length : Int), tkMs 1 xs.length) := by
  have h := markTk_loop xs.length xs 0 1 (by omega) (by omega) (by omega) (by omega)
  have h2 : Ev (fun k => laws_markTokenS.l0 k xs 1 0) (1 + 4 * (xs.length : Int), tkMs 1 xs.length) := by simpa using h
  exact h2
theorem heldTk_loop (xs : List S56) (hn : xs.length ≤ 4294967296) (d : Nat) : ∀ (i : Nat) (m : Int), i + d = xs.length → 0 ≤ m → m + 4 * d < 4611686018427387904 → xs.drop i = tkMs m d → Ev (fun k => laws_heldTokenS.l0 k xs m (i : Int)) (m + 4 * d) := by
  induction d with
  | zero =>
    intro i m hi h0 hm he
    refine Ev.step (f := fun _ => some m) (fun k => by rw [laws_heldTokenS.l0, if_neg (by omega)]) ?_
    rw [show m + 4 * ((0 : Nat) : Int) = m by omega]
    exact Ev.now _
  | succ d ih =>
    intro i m hi h0 hm he
    have hi' : i < xs.length := by omega
    rw [List.drop_eq_getElem_cons hi', tkMs] at he
    injection he with a1 a2
    have r1 := rdTk xs i hi'
    rw [a1] at r1
    have hp : (i : Int) < (xs.length : Int) := by omega
    have hq : 0 ≤ (i : Int) := by omega
    have h := ih (i + 1) (m + 1 + 1 + 1 + 1) (by omega) (by omega) (by omega) a2
    rw [show m + 4 * ((d + 1 : Nat) : Int) = m + 1 + 1 + 1 + 1 + 4 * (d : Int) by omega]
    have hmt := mkT_ev (m + 1) (by omega)
    obtain ⟨w1, w2, w3, w4, w5⟩ : wrap64 (m + 1) = m + 1 ∧ wrap64 (m + 1 + 1) = m + 1 + 1 ∧ wrap64 (m + 1 + 1 + 1) = m + 1 + 1 + 1 ∧ wrap64 (m + 1 + 1 + 1 + 1) = m + 1 + 1 + 1 + 1 ∧ wrap64 ((i : Int) + 1) = ((i + 1 : Nat) : Int) :=
      ⟨wrap_ok (by omega) (by omega), wrap_ok (by omega) (by omega), wrap_ok (by omega) (by omega), wrap_ok (by omega) (by omega), by rw [wrap_ok (by omega) (by omega)]; omega⟩
    refine Ev.step (fun k => by rw [laws_heldTokenS.l0, if_pos hp, if_pos hq, r1, w1, w2, w3, w4, w5, if_pos (show (tkM m).f0 = m from rfl)]) ?_
    refine Ev.bind hmt (Ev.ite_pos rfl (Ev.ite_pos rfl (Ev.ite_pos rfl ?_)))
    exact h
theorem heldTk_ev (n : Nat) (hn : n ≤ 3000) : Ev (fun k => laws_heldTokenS.f k (tkMs 1 n) 1) (1 + 4 * (n : Int)) := by
  have h := heldTk_loop (tkMs 1 n) (by rw [tkMs_len]; omega) n 0 1 (by rw [tkMs_len]; omega) (by omega) (by omega) rfl
  exact h
theorem eqTk_loop (xs : List S56) (hn : xs.length ≤ 3000) (d : Nat) : ∀ i : Nat, i + d = xs.length → Ev (fun k => laws_eqTokenS.l0 k xs xs (i : Int)) true := by
  induction d with
  | zero =>
    intro i hi
    exact Ev.step (f := fun _ => some true) (fun k => by rw [laws_eqTokenS.l0, if_neg (by omega)]) (Ev.now _)
  | succ d ih =>
    intro i hi
    have hp : (i : Int) < (xs.length : Int) := by omega
    have hq : 0 ≤ (i : Int) := by omega
    have he : ∀ x : S56, laws_eqToken.f x.f0 x.f1 x.f2 x.f3 x.f0 x.f1 x.f2 x.f3 = some true := fun x => by
      unfold laws_eqToken.f
      rw [if_pos rfl, if_pos rfl, if_pos rfl, if_pos rfl]
    have hw : wrap64 ((i : Int) + 1) = ((i + 1 : Nat) : Int) := by rw [wrap_ok (by omega) (by omega)]; omega
    exact Ev.step (fun k => by rw [laws_eqTokenS.l0, if_pos hp, if_pos hq, if_pos hp, he, Option.bind_some, if_pos rfl, hw]) (ih (i + 1) (by omega))
theorem eqTk_ev (xs : List S56) (hn : xs.length ≤ 3000) : Ev (fun k => laws_eqTokenS.f k xs xs) true := by
  have h := eqTk_loop xs hn xs.length 0 (by omega)
  have h2 : Ev (fun k => laws_eqTokenS.l0 k xs xs 0) true := h
  exact Ev.congr (fun k => by rw [laws_eqTokenS.f, if_pos rfl]) h2
end Go.Proofs.YtbihpjngmjkjmaaDoor.Dec
namespace Go.Proofs.YtbihpjngmjkjmaaDoor.Pure
open Go.RowKit Go.Proofs.YtbihpjngmjkjmaaDoor.P Go.Proofs.YtbihpjngmjkjmaaDoorW.PrintWords Go.Proofs.YtbihpjngmjkjmaaDoorW.PrintLast Go.Proofs.YtbihpjngmjkjmaaDoor.Aux Go.Proofs.YtbihpjngmjkjmaaDoor.Dec
set_option linter.unusedVariables false
theorem FnExactLex : ∀ (a0 : ByteArray), a0.size ≤ maxLen → ∃ k, laws_FnExactLex.f k a0 = some true := by
  intro s hs
  apply Ev.rounds (r := true)
  unfold laws_FnExactLex.f
  by_cases h : (s.size : Int) > 1048576
  · exact Ev.ite_pos h (Ev.now _)
  · obtain ⟨R, hl, r1, r2⟩ := lex_same s
    have qE := eqTk_ev R.1 hl
    have hM := markTk_ev R.1 hl
    have hH := heldTk_ev R.1.length hl
    have hn : ¬ (1 + 4 * (R.1.length : Int) < 0) := by omega
    refine Ev.ite_neg h (Ev.bind r1 (Ev.bind r2 (Ev.bind qE (Ev.ite_pos rfl (Ev.ite_pos rfl (Ev.bind hM (Ev.bind hH (Ev.ite_neg hn (Ev.ite_pos rfl ?_)))))))))
    exact Ev.bind r2 (Ev.bind qE (Ev.ite_pos rfl (Ev.ite_pos rfl (Ev.bind hH (Ev.ite_neg hn (Ev.ite_pos rfl (Ev.now _)))))))
end Go.Proofs.YtbihpjngmjkjmaaDoor.Pure
