/- The contract of impl.isInstr, path by path, for every step and every graph of which the sizes and the number of slots are told. No conditions. -/
import Derived.Test.YtbbpmcignfhfmaaMAheadxGisA
import Derived.Test.YtbbpmcignfhfmaaMAheadxGisB
import Derived.Test.YtbbpmcignfhfmaaMAheadxGisC
import Derived.Test.YtbbpmcignfhfmaaMAheadxGisD
namespace Go.Proofs.Ytbbpmcignfhfmaa.P
open Go.RowKit Go.Proofs.YtbbpmcignfhfmaaW.PrintWords Go.Proofs.YtbbpmcignfhfmaaW.PrintLast Go.Proofs.YtbbpmcignfhfmaaW.PrintMore
set_option linter.unusedVariables false
set_option linter.unusedSimpArgs false
attribute [local go_sem high] eqA39
theorem isInstr_calls (A0 : Option Addr) (n0 c0 : Nat) (p v s : Int) (A4 : Option Addr) (n4 c4 : Nat) (o d a b c n : Int) (t : ByteArray) (w : World) (hn : n0 ≤ 9223372036854775807) :
    Calls Try.prog 70 #[.agg #[.slice A0 n0 c0, .int .i64 p, .int .i64 v, .int .i64 s, .slice A4 n4 c4], .agg #[.int .i64 o, .int .i64 d, .int .i64 a, .int .i64 b, .int .i64 c, .int .i64 n, .string t]] w fun e w' => e = .returned (.bool (instrB (n0 : Int) s o d a b c n t)) ∧ Below w.heap.size w w' := by
  by_cases h0 : o = 0
  · subst h0
    cases hD : inB d s with
    | false =>
      rw [show instrB (n0 : Int) s 0 d a b c n t = false by simp [instrB, hD]]
      exact i0_D_no A0 n0 c0 p v s A4 n4 c4 d a b c n t w hD hn
    | true =>
      rw [show instrB (n0 : Int) s 0 d a b c n t = (a == 0 && (b == 0 && (c == 0 && t.toList.isEmpty))) by simp [instrB, hD]]
      exact i0_yes A0 n0 c0 p v s A4 n4 c4 d a b c n t w hD hn
  by_cases h1 : o = 1
  · subst h1
    cases hD : inB d s with
    | false =>
      rw [show instrB (n0 : Int) s 1 d a b c n t = false by simp [instrB, hD]]
      exact i1_D_no A0 n0 c0 p v s A4 n4 c4 d a b c n t w hD hn
    | true =>
      cases hA : inB a s with
      | false =>
        rw [show instrB (n0 : Int) s 1 d a b c n t = false by simp [instrB, hD, hA]]
        exact i1_A_no A0 n0 c0 p v s A4 n4 c4 d a b c n t w hD hA hn
      | true =>
        rw [show instrB (n0 : Int) s 1 d a b c n t = (b == 0 && (c == 0 && (n == 0 && t.toList.isEmpty))) by simp [instrB, hD, hA]]
        exact i1_yes A0 n0 c0 p v s A4 n4 c4 d a b c n t w hD hA hn
  by_cases h2 : o = 2
  · subst h2
    cases hD : inB d s with
    | false =>
      rw [show instrB (n0 : Int) s 2 d a b c n t = false by simp [instrB, hD]]
      exact i2_D_no A0 n0 c0 p v s A4 n4 c4 d a b c n t w hD hn
    | true =>
      cases hA : inB a s with
      | false =>
        rw [show instrB (n0 : Int) s 2 d a b c n t = false by simp [instrB, hD, hA]]
        exact i2_A_no A0 n0 c0 p v s A4 n4 c4 d a b c n t w hD hA hn
      | true =>
        cases hB : inB b s with
        | false =>
          rw [show instrB (n0 : Int) s 2 d a b c n t = false by simp [instrB, hD, hA, hB]]
          exact i2_B_no A0 n0 c0 p v s A4 n4 c4 d a b c n t w hD hA hB hn
        | true =>
          cases hS : signB t with
          | false =>
            rw [show instrB (n0 : Int) s 2 d a b c n t = false by simp [instrB, hD, hA, hB, hS]]
            exact i2_S_no A0 n0 c0 p v s A4 n4 c4 d a b c n t w hD hA hB hS hn
          | true =>
            rw [show instrB (n0 : Int) s 2 d a b c n t = (c == 0 && n == 0) by simp [instrB, hD, hA, hB, hS]]
            exact i2_yes A0 n0 c0 p v s A4 n4 c4 d a b c n t w hD hA hB hS hn
  by_cases h3 : o = 3
  · subst h3
    cases hD : inB d s with
    | false =>
      rw [show instrB (n0 : Int) s 3 d a b c n t = false by simp [instrB, hD]]
      exact i3_D_no A0 n0 c0 p v s A4 n4 c4 d a b c n t w hD hn
    | true =>
      cases hB : inB b s with
      | false =>
        rw [show instrB (n0 : Int) s 3 d a b c n t = false by simp [instrB, hD, hB]]
        exact i3_B_no A0 n0 c0 p v s A4 n4 c4 d a b c n t w hD hB hn
      | true =>
        cases hR : inR n 0 ((n0 : Int) - 1) with
        | false =>
          rw [show instrB (n0 : Int) s 3 d a b c n t = false by simp [instrB, hD, hB, hR]]
          exact i3_R_no A0 n0 c0 p v s A4 n4 c4 d a b c n t w hD hB hR hn
        | true =>
          cases hA : inB a s with
          | true =>
            rw [show instrB (n0 : Int) s 3 d a b c n t = (c == 0 && t.toList.isEmpty) by simp [instrB, hD, hB, hR, hA]]
            exact i3_a A0 n0 c0 p v s A4 n4 c4 d a b c n t w hD hB hR hA hn
          | false =>
            by_cases hm : a = -1
            · have hM : (a == -1) = true := beq_iff_eq.mpr hm
              have hM2 : (a != -1) = false := bne_eq_false_iff_eq.mpr hm
              rw [show instrB (n0 : Int) s 3 d a b c n t = (c == 0 && t.toList.isEmpty) by simp [instrB, hD, hB, hR, hA, hM]]
              exact i3_m A0 n0 c0 p v s A4 n4 c4 d a b c n t w hD hB hR hA hM hM2 hn
            · have hM : (a == -1) = false := beq_eq_false_iff_ne.mpr hm
              have hM2 : (a != -1) = true := bne_iff_ne.mpr hm
              rw [show instrB (n0 : Int) s 3 d a b c n t = false by simp [instrB, hD, hB, hR, hA, hM]]
              exact i3_X_no A0 n0 c0 p v s A4 n4 c4 d a b c n t w hD hB hR hA hM hM2 hn
  by_cases h4 : o = 4
  · subst h4
    cases hC : inB c s with
    | false =>
      rw [show instrB (n0 : Int) s 4 d a b c n t = false by simp [instrB, hC]]
      exact i4_C_no A0 n0 c0 p v s A4 n4 c4 d a b c n t w hC hn
    | true =>
      cases hB : inB b s with
      | false =>
        rw [show instrB (n0 : Int) s 4 d a b c n t = false by simp [instrB, hC, hB]]
        exact i4_B_no A0 n0 c0 p v s A4 n4 c4 d a b c n t w hC hB hn
      | true =>
        cases hR : inR n 0 ((n0 : Int) - 1) with
        | false =>
          rw [show instrB (n0 : Int) s 4 d a b c n t = false by simp [instrB, hC, hB, hR]]
          exact i4_R_no A0 n0 c0 p v s A4 n4 c4 d a b c n t w hC hB hR hn
        | true =>
          cases hA : inB a s with
          | true =>
            rw [show instrB (n0 : Int) s 4 d a b c n t = (d == 0 && t.toList.isEmpty) by simp [instrB, hC, hB, hR, hA]]
            exact i4_a A0 n0 c0 p v s A4 n4 c4 d a b c n t w hC hB hR hA hn
          | false =>
            by_cases hm : a = -1
            · have hM : (a == -1) = true := beq_iff_eq.mpr hm
              have hM2 : (a != -1) = false := bne_eq_false_iff_eq.mpr hm
              rw [show instrB (n0 : Int) s 4 d a b c n t = (d == 0 && t.toList.isEmpty) by simp [instrB, hC, hB, hR, hA, hM]]
              exact i4_m A0 n0 c0 p v s A4 n4 c4 d a b c n t w hC hB hR hA hM hM2 hn
            · have hM : (a == -1) = false := beq_eq_false_iff_ne.mpr hm
              have hM2 : (a != -1) = true := bne_iff_ne.mpr hm
              rw [show instrB (n0 : Int) s 4 d a b c n t = false by simp [instrB, hC, hB, hR, hA, hM]]
              exact i4_X_no A0 n0 c0 p v s A4 n4 c4 d a b c n t w hC hB hR hA hM hM2 hn
  by_cases h5 : o = 5
  · subst h5
    cases hD : inB d s with
    | false =>
      rw [show instrB (n0 : Int) s 5 d a b c n t = false by simp [instrB, hD]]
      exact i5_D_no A0 n0 c0 p v s A4 n4 c4 d a b c n t w hD hn
    | true =>
      rw [show instrB (n0 : Int) s 5 d a b c n t = (a == 0 && (b == 0 && (c == 0 && (n == 0 && t.toList.isEmpty)))) by simp [instrB, hD]]
      exact i5_yes A0 n0 c0 p v s A4 n4 c4 d a b c n t w hD hn
  by_cases h6 : o = 6
  · subst h6
    cases hA : inB a s with
    | false =>
      rw [show instrB (n0 : Int) s 6 d a b c n t = false by simp [instrB, hA]]
      exact i6_A_no A0 n0 c0 p v s A4 n4 c4 d a b c n t w hA hn
    | true =>
      rw [show instrB (n0 : Int) s 6 d a b c n t = (d == 0 && (b == 0 && (c == 0 && (n == 0 && t.toList.isEmpty)))) by simp [instrB, hA]]
      exact i6_yes A0 n0 c0 p v s A4 n4 c4 d a b c n t w hA hn
  rw [show instrB (n0 : Int) s o d a b c n t = false by simp [instrB, h0, h1, h2, h3, h4, h5, h6]]
  exact iother A0 n0 c0 p v s A4 n4 c4 o d a b c n t w (beq_eq_false_iff_ne.mpr h0) (beq_eq_false_iff_ne.mpr h1) (beq_eq_false_iff_ne.mpr h2) (beq_eq_false_iff_ne.mpr h3) (beq_eq_false_iff_ne.mpr h4) (beq_eq_false_iff_ne.mpr h5) (beq_eq_false_iff_ne.mpr h6) hn
theorem impl_isInstr.calls (A0_0 : Option Addr) (c0_0 : Nat) (l0_0 : List Int) (a0_1 : Int) (a0_2 : Int) (a0_3 : Int) (A0_4 : Option Addr) (c0_4 : Nat) (l0_4 : List (S49)) (a1_0 : Int) (a1_1 : Int) (a1_2 : Int) (a1_3 : Int) (a1_4 : Int) (a1_5 : Int) (a1_6 : ByteArray) (r : Bool) (w : World) (hr0_0 : Kd.C (Kd.int .i64) w A0_0 l0_0.length l0_0) (hc0_0 : l0_0.length ≤ c0_0) (hr0_4 : Kd.C k49 w A0_4 l0_4.length l0_4) (hc0_4 : l0_4.length ≤ c0_4) (h : impl_isInstr.f l0_0 a0_1 a0_2 a0_3 l0_4 a1_0 a1_1 a1_2 a1_3 a1_4 a1_5 a1_6 = some r) :
    Calls Try.prog 70 #[.agg #[.slice A0_0 l0_0.length c0_0, .int .i64 a0_1, .int .i64 a0_2, .int .i64 a0_3, .slice A0_4 l0_4.length c0_4], .agg #[.int .i64 a1_0, .int .i64 a1_1, .int .i64 a1_2, .int .i64 a1_3, .int .i64 a1_4, .int .i64 a1_5, .string a1_6]] w fun e w' => e = .returned (.bool r) ∧ Below w.heap.size w w' := by
  obtain rfl := Option.some.inj h
  exact isInstr_calls A0_0 l0_0.length c0_0 a0_1 a0_2 a0_3 A0_4 l0_4.length c0_4 a1_0 a1_1 a1_2 a1_3 a1_4 a1_5 a1_6 w (Kd.C_max hr0_0)
end Go.Proofs.Ytbbpmcignfhfmaa.P
