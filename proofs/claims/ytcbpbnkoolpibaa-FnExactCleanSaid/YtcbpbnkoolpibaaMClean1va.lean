/- Functions of the program and of the reference as plain functions, and that the Go code comes to their answers; several texts in one. No conditions beyond what each theorem says. -/
import Derived.Test.YtcbpbnkoolpibaaMCleanxGisA
import Derived.Test.YtcbpbnkoolpibaaMCleanxGisB
import Derived.Test.YtcbpbnkoolpibaaMCleanxGisC
import Derived.Test.YtcbpbnkoolpibaaMCleanxGisD
import Derived.Test.YtcbpbnkoolpibaaMClean0va
import Derived.Test.YtcbpbnkoolpibaaMCleanxF69
import Derived.Test.YtcbpbnkoolpibaaMClean0a
set_option linter.unusedVariables false
set_option linter.unusedSimpArgs false
namespace Go.Proofs.Ytcbpbnkoolpibaa.P
open RowKit YtcbpbnkoolpibaaW.wA YtcbpbnkoolpibaaW.wB YtcbpbnkoolpibaaW.wC
attribute [local go_sem high] eqA57
theorem isInstr_calls (A0 : Option Addr) (n0 c0 : Nat) (p v s : Int) (A4 : Option Addr) (n4 c4 : Nat) (o d a b c n : Int) (t : ByteArray) (w : World) (hn : n0 ≤ 9223372036854775807) :
    Calls Try.prog 76 #[.agg #[.slice A0 n0 c0, .int .i64 p, .int .i64 v, .int .i64 s, .slice A4 n4 c4], .agg #[.int .i64 o, .int .i64 d, .int .i64 a, .int .i64 b, .int .i64 c, .int .i64 n, .string t]] w fun e w' => e = .returned (.bool (instrB (n0 : Int) s o d a b c n t)) ∧ Below w.heap.size w w' := by
  by_cases h0 : o = 0
  · subst h0
    cases hD : inB d s with
    | false =>
      rw [show instrB (n0 : Int) s 0 d a b c n t = false by simp [instrB, hD]]
      exact i0_D_no A0 n0 c0 p v s A4 n4 c4 d a b c n t w hD hn
    | true =>
      rw [show instrB (n0 : Int) s 0 d a b c n t = (a == 0 && (b == 0 && (c == 0 && t.toList.isEmpty))) by simp [instrB, hD]]
      exact i0_yes A0 n0 c0 p v s A4 n4 c4 d a b c n t w hD hn
  by_cases h1 : o = 1
  · subst h1
    cases hD : inB d s with
    | false =>
      rw [show instrB (n0 : Int) s 1 d a b c n t = false by simp [instrB, hD]]
      exact i1_D_no A0 n0 c0 p v s A4 n4 c4 d a b c n t w hD hn
    | true =>
      cases hA : inB a s with
      | false =>
        rw [show instrB (n0 : Int) s 1 d a b c n t = false by simp [instrB, hD, hA]]
        exact i1_A_no A0 n0 c0 p v s A4 n4 c4 d a b c n t w hD hA hn
      | true =>
        rw [show instrB (n0 : Int) s 1 d a b c n t = (b == 0 && (c == 0 && (n == 0 && t.toList.isEmpty))) by simp [instrB, hD, hA]]
        exact i1_yes A0 n0 c0 p v s A4 n4 c4 d a b c n t w hD hA hn
  by_cases h2 : o = 2
  · subst h2
    cases hD : inB d s with
    | false =>
      rw [show instrB (n0 : Int) s 2 d a b c n t = false by simp [instrB, hD]]
      exact i2_D_no A0 n0 c0 p v s A4 n4 c4 d a b c n t w hD hn
    | true =>
      cases hA : inB a s with
      | false =>
        rw [show instrB (n0 : Int) s 2 d a b c n t = false by simp [instrB, hD, hA]]
        exact i2_A_no A0 n0 c0 p v s A4 n4 c4 d a b c n t w hD hA hn
      | true =>
        cases hB : inB b s with
        | false =>
          rw [show instrB (n0 : Int) s 2 d a b c n t = false by simp [instrB, hD, hA, hB]]
          exact i2_B_no A0 n0 c0 p v s A4 n4 c4 d a b c n t w hD hA hB hn
        | true =>
          cases hS : signB t with
          | false =>
            rw [show instrB (n0 : Int) s 2 d a b c n t = false by simp [instrB, hD, hA, hB, hS]]
            exact i2_S_no A0 n0 c0 p v s A4 n4 c4 d a b c n t w hD hA hB hS hn
          | true =>
            rw [show instrB (n0 : Int) s 2 d a b c n t = (c == 0 && n == 0) by simp [instrB, hD, hA, hB, hS]]
            exact i2_yes A0 n0 c0 p v s A4 n4 c4 d a b c n t w hD hA hB hS hn
  by_cases h3 : o = 3
  · subst h3
    cases hD : inB d s with
    | false =>
      rw [show instrB (n0 : Int) s 3 d a b c n t = false by simp [instrB, hD]]
      exact i3_D_no A0 n0 c0 p v s A4 n4 c4 d a b c n t w hD hn
    | true =>
      cases hB : inB b s with
      | false =>
        rw [show instrB (n0 : Int) s 3 d a b c n t = false by simp [instrB, hD, hB]]
        exact i3_B_no A0 n0 c0 p v s A4 n4 c4 d a b c n t w hD hB hn
      | true =>
        cases hR : inR n 0 ((n0 : Int) - 1) with
        | false =>
          rw [show instrB (n0 : Int) s 3 d a b c n t = false by simp [instrB, hD, hB, hR]]
          exact i3_R_no A0 n0 c0 p v s A4 n4 c4 d a b c n t w hD hB hR hn
        | true =>
          cases hA : inB a s with
          | true =>
            rw [show instrB (n0 : Int) s 3 d a b c n t = (c == 0 && t.toList.isEmpty) by simp [instrB, hD, hB, hR, hA]]
            exact i3_a A0 n0 c0 p v s A4 n4 c4 d a b c n t w hD hB hR hA hn
          | false =>
            by_cases hm : a = -1
            · have hM : (a == -1) = true := beq_iff_eq.mpr hm
              have hM2 : (a != -1) = false := bne_eq_false_iff_eq.mpr hm
              rw [show instrB (n0 : Int) s 3 d a b c n t = (c == 0 && t.toList.isEmpty) by simp [instrB, hD, hB, hR, hA, hM]]
              exact i3_m A0 n0 c0 p v s A4 n4 c4 d a b c n t w hD hB hR hA hM hM2 hn
            · have hM : (a == -1) = false := beq_eq_false_iff_ne.mpr hm
              have hM2 : (a != -1) = true := bne_iff_ne.mpr hm
              rw [show instrB (n0 : Int) s 3 d a b c n t = false by simp [instrB, hD, hB, hR, hA, hM]]
              exact i3_X_no A0 n0 c0 p v s A4 n4 c4 d a b c n t w hD hB hR hA hM hM2 hn
  by_cases h4 : o = 4
  · subst h4
    cases hC : inB c s with
    | false =>
      rw [show instrB (n0 : Int) s 4 d a b c n t = false by simp [instrB, hC]]
      exact i4_C_no A0 n0 c0 p v s A4 n4 c4 d a b c n t w hC hn
    | true =>
      cases hB : inB b s with
      | false =>
        rw [show instrB (n0 : Int) s 4 d a b c n t = false by simp [instrB, hC, hB]]
        exact i4_B_no A0 n0 c0 p v s A4 n4 c4 d a b c n t w hC hB hn
      | true =>
        cases hR : inR n 0 ((n0 : Int) - 1) with
        | false =>
          rw [show instrB (n0 : Int) s 4 d a b c n t = false by simp [instrB, hC, hB, hR]]
          exact i4_R_no A0 n0 c0 p v s A4 n4 c4 d a b c n t w hC hB hR hn
        | true =>
          cases hA : inB a s with
          | true =>
            rw [show instrB (n0 : Int) s 4 d a b c n t = (d == 0 && t.toList.isEmpty) by simp [instrB, hC, hB, hR, hA]]
            exact i4_a A0 n0 c0 p v s A4 n4 c4 d a b c n t w hC hB hR hA hn
          | false =>
            by_cases hm : a = -1
            · have hM : (a == -1) = true := beq_iff_eq.mpr hm
              have hM2 : (a != -1) = false := bne_eq_false_iff_eq.mpr hm
              rw [show instrB (n0 : Int) s 4 d a b c n t = (d == 0 && t.toList.isEmpty) by simp [instrB, hC, hB, hR, hA, hM]]
              exact i4_m A0 n0 c0 p v s A4 n4 c4 d a b c n t w hC hB hR hA hM hM2 hn
            · have hM : (a == -1) = false := beq_eq_false_iff_ne.mpr hm
              have hM2 : (a != -1) = true := bne_iff_ne.mpr hm
              rw [show instrB (n0 : Int) s 4 d a b c n t = false by simp [instrB, hC, hB, hR, hA, hM]]
              exact i4_X_no A0 n0 c0 p v s A4 n4 c4 d a b c n t w hC hB hR hA hM hM2 hn
  by_cases h5 : o = 5
  · subst h5
    cases hD : inB d s with
    | false =>
      rw [show instrB (n0 : Int) s 5 d a b c n t = false by simp [instrB, hD]]
      exact i5_D_no A0 n0 c0 p v s A4 n4 c4 d a b c n t w hD hn
    | true =>
      rw [show instrB (n0 : Int) s 5 d a b c n t = (a == 0 && (b == 0 && (c == 0 && (n == 0 && t.toList.isEmpty)))) by simp [instrB, hD]]
      exact i5_yes A0 n0 c0 p v s A4 n4 c4 d a b c n t w hD hn
  by_cases h6 : o = 6
  · subst h6
    cases hA : inB a s with
    | false =>
      rw [show instrB (n0 : Int) s 6 d a b c n t = false by simp [instrB, hA]]
      exact i6_A_no A0 n0 c0 p v s A4 n4 c4 d a b c n t w hA hn
    | true =>
      rw [show instrB (n0 : Int) s 6 d a b c n t = (d == 0 && (b == 0 && (c == 0 && (n == 0 && t.toList.isEmpty)))) by simp [instrB, hA]]
      exact i6_yes A0 n0 c0 p v s A4 n4 c4 d a b c n t w hA hn
  rw [show instrB (n0 : Int) s o d a b c n t = false by simp [instrB, h0, h1, h2, h3, h4, h5, h6]]
  exact iother A0 n0 c0 p v s A4 n4 c4 o d a b c n t w (beq_eq_false_iff_ne.mpr h0) (beq_eq_false_iff_ne.mpr h1) (beq_eq_false_iff_ne.mpr h2) (beq_eq_false_iff_ne.mpr h3) (beq_eq_false_iff_ne.mpr h4) (beq_eq_false_iff_ne.mpr h5) (beq_eq_false_iff_ne.mpr h6) hn
theorem impl_isInstr.calls (A0_0 : Option Addr) (c0_0 : Nat) (l0_0 : List Int) (a0_1 : Int) (a0_2 : Int) (a0_3 : Int) (A0_4 : Option Addr) (c0_4 : Nat) (l0_4 : List (S47)) (a1_0 : Int) (a1_1 : Int) (a1_2 : Int) (a1_3 : Int) (a1_4 : Int) (a1_5 : Int) (a1_6 : ByteArray) (r : Bool) (w : World) (hr0_0 : Kd.C (Kd.int .i64) w A0_0 l0_0.length l0_0) (hc0_0 : l0_0.length ≤ c0_0) (hr0_4 : Kd.C k47 w A0_4 l0_4.length l0_4) (hc0_4 : l0_4.length ≤ c0_4) (h : impl_isInstr.f l0_0 a0_1 a0_2 a0_3 l0_4 a1_0 a1_1 a1_2 a1_3 a1_4 a1_5 a1_6 = some r) :
    Calls Try.prog 76 #[.agg #[.slice A0_0 l0_0.length c0_0, .int .i64 a0_1, .int .i64 a0_2, .int .i64 a0_3, .slice A0_4 l0_4.length c0_4], .agg #[.int .i64 a1_0, .int .i64 a1_1, .int .i64 a1_2, .int .i64 a1_3, .int .i64 a1_4, .int .i64 a1_5, .string a1_6]] w fun e w' => e = .returned (.bool r) ∧ Below w.heap.size w w' := by
  obtain rfl := Option.some.inj h
  exact isInstr_calls A0_0 l0_0.length c0_0 a0_1 a0_2 a0_3 A0_4 l0_4.length c0_4 a1_0 a1_1 a1_2 a1_3 a1_4 a1_5 a1_6 w (Kd.C_max hr0_0)
end Go.Proofs.Ytcbpbnkoolpibaa.P
namespace Go.Proofs.Ytcbpbnkoolpibaa.Ok
open RowKit P YtcbpbnkoolpibaaW.wA YtcbpbnkoolpibaaW.wB Aux
theorem has_l0 (xs : List ByteArray) (s : ByteArray) (hn : xs.length < 9223372036854775807) (d : Nat) : ∀ i : Nat, i + d = xs.length → Ev (fun k => spec_l01Has.l0 k xs s (i : Int)) ((xs.drop i).any fun x => x.toList = s.toList) := by
  induction d with
  | zero =>
    intro i hi
    refine Ev.step (fun k => by rw [spec_l01Has.l0, if_neg (by omega)]) ?_
    rw [List.drop_eq_nil_of_le (by omega)]
    exact Ev.now _
  | succ d ih =>
    intro i hi
    have hd : xs.drop i = xs[i]'(by omega) :: xs.drop (i + 1) := List.drop_eq_getElem_cons (by omega)
    have hr := rdOf_lt ByteArray.empty xs i (by omega)
    rw [hd, List.any_cons]
    by_cases h : (xs[i]'(by omega)).toList = s.toList
    · refine Ev.step (f := fun _ => some true) (fun k => by rw [spec_l01Has.l0, if_pos (by omega), if_pos (by omega), hr, if_pos h]) ?_
      rw [decide_eq_true h, Bool.true_or]
      exact Ev.now _
    · refine Ev.step (f := fun k => spec_l01Has.l0 k xs s ((i + 1 : Nat) : Int)) (fun k => by rw [spec_l01Has.l0, if_pos (by omega), if_pos (by omega), hr, if_neg h, wrap_ok (by omega) (by omega), Int.natCast_succ]) ?_
      rw [decide_eq_false h, Bool.false_or]
      exact ih (i + 1) (by omega)
theorem has_ev (xs : List ByteArray) (s : ByteArray) (hn : xs.length < 9223372036854775807) : Ev (fun k => spec_l01Has.f k xs s) (xs.any fun x => x.toList = s.toList) := has_l0 xs s hn xs.length 0 (by omega)
theorem in_some (x a b : Int) : spec_l01In.f x a b = some (inR x a b) := by
  unfold spec_l01In.f inR
  by_cases h : x ≥ a
  · rw [if_pos h, decide_eq_true h, Bool.true_and]
  · rw [if_neg h, decide_eq_false h, Bool.false_and]
theorem inR_inB (x s : Int) : inR x 0 (s - 1) = inB x s := by
  unfold inR inB
  congr 1
  exact decide_eq_decide.2 (by omega)
theorem instr_ev (zs : List Int) (p v s : Int) (bs : List S47) (o d a b c n : Int) (t : ByteArray) (hs : 0 ≤ s) (hs2 : s ≤ 9223372036854775807) (hz : zs.length ≤ 9223372036854775807) :
    Ev (fun k => spec_l04InstrOk.f k zs p v s bs o d a b c n t) (instrB (zs.length : Int) s o d a b c n t) := by
  obtain ⟨N, hN⟩ := has_ev signs t (by simp [signs])
  refine ⟨N + 2, fun k hk => ?_⟩
  obtain ⟨m, rfl⟩ : ∃ m, k = m + 2 := ⟨k - 2, by omega⟩
  have hh := hN m (by omega)
  have w1 : wrap64 (s - 1) = s - 1 := wrap_ok (by omega) (by omega)
  have w2 : wrap64 ((zs.length : Int) - 1) = (zs.length : Int) - 1 := wrap_ok (by omega) (by omega)
  clear hN hk hs hs2 hz
  unfold spec_l04InstrOk.f
  have inS : ∀ x, inR x 0 (s - 1) = inB x s := fun x => inR_inB x s
  simp only [w1, w2, in_some, Option.bind_some, inS]
  clear w2
  rw [show (signs.any fun x => decide (x.toList = t.toList)) = signB t from rfl] at hh
  simp only [signs] at hh
  unfold instrB
  generalize hr : inR n 0 ((zs.length : Int) - 1) = r
  generalize hA : inB a s = A
  generalize hB : inB b s = B
  generalize hC : inB c s = C
  generalize hD : inB d s = D
  generalize hS : signB t = S at hh ⊢
  have L1 : ∀ X Y : Bool, (if X = true then some Y else some false) = some (X && Y) := fun X Y => by cases X <;> rfl
  have L2 : ∀ (x : Int) (Y : Bool), (if x = 0 then some Y else some false) = some ((x == 0) && Y) := fun x Y => by by_cases h : x = 0 <;> simp [h]
  have L3 : ∀ X Y : Bool, (if X = true then some false else some Y) = some (!X && Y) := fun X Y => by cases X <;> rfl
  have L4 : (!(c != 0)) = (c == 0) := by cases h : c == 0 <;> simp [bne, h]
  have ht : t.toList.isEmpty = decide (t.toList = []) := by cases t.toList <;> rfl
  rw [ht]
  clear ht
  by_cases h0 : o = 0
  · subst h0
    cases A <;> by_cases ha : a = -1 <;> cases B <;> by_cases ht : t.toList = [] <;> simp [spec_l04InstrOk.j0, spec_l04InstrOk.j1, ha, ht, L1, L2, L3, L4, Bool.and_comm, Bool.and_left_comm, Bool.and_assoc]
  by_cases h1 : o = 1
  · subst h1
    cases A <;> by_cases ha : a = -1 <;> cases B <;> by_cases ht : t.toList = [] <;> simp [spec_l04InstrOk.j0, spec_l04InstrOk.j1, ha, ht, L1, L2, L3, L4, Bool.and_comm, Bool.and_left_comm, Bool.and_assoc]
  by_cases h2 : o = 2
  · subst h2
    cases A <;> by_cases ha : a = -1 <;> cases B <;> simp [spec_l04InstrOk.j0, spec_l04InstrOk.j1, ha, hh, L1, L2, L3, L4, Bool.and_comm, Bool.and_left_comm, Bool.and_assoc]
  by_cases h3 : o = 3
  · subst h3
    cases A <;> by_cases ha : a = -1 <;> cases B <;> by_cases ht : t.toList = [] <;> simp [spec_l04InstrOk.j0, spec_l04InstrOk.j1, ha, ht, L1, L2, L3, L4, Bool.and_comm, Bool.and_left_comm, Bool.and_assoc]
  by_cases h4 : o = 4
  · subst h4
    cases A <;> by_cases ha : a = -1 <;> cases B <;> by_cases ht : t.toList = [] <;> simp [spec_l04InstrOk.j0, spec_l04InstrOk.j1, ha, ht, w1, in_some, inS, hC, L1, L2, L3, L4, Bool.and_comm, Bool.and_left_comm, Bool.and_assoc]
  by_cases h5 : o = 5
  · subst h5
    cases A <;> by_cases ha : a = -1 <;> cases B <;> by_cases ht : t.toList = [] <;> simp [spec_l04InstrOk.j0, spec_l04InstrOk.j1, ha, ht, L1, L2, L3, L4, Bool.and_comm, Bool.and_left_comm, Bool.and_assoc]
  by_cases h6 : o = 6
  · subst h6
    cases A <;> by_cases ha : a = -1 <;> cases B <;> by_cases ht : t.toList = [] <;> simp [spec_l04InstrOk.j0, spec_l04InstrOk.j1, ha, ht, L1, L2, L3, L4, Bool.and_comm, Bool.and_left_comm, Bool.and_assoc]
  cases A <;> by_cases ha : a = -1 <;> cases B <;> by_cases ht : t.toList = [] <;> simp [spec_l04InstrOk.j0, spec_l04InstrOk.j1, h0, h1, h2, h3, h4, h5, h6, ha, ht]
end Go.Proofs.Ytcbpbnkoolpibaa.Ok
