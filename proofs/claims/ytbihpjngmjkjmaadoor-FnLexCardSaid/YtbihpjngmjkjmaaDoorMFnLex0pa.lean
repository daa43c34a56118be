/- The reference's ReadInt. Conditions: a text that is not too long. -/
import Derived.Test.YtbihpjngmjkjmaaDoorMFnLex0ra
import Derived.Test.YtbihpjngmjkjmaaDoorMFnLex0sa
import Derived.Test.YtbihpjngmjkjmaaDoorMFnLex0qa
import Derived.Test.YtbihpjngmjkjmaaDoorMFnLex0a
namespace Go.Proofs.YtbihpjngmjkjmaaDoor.Dec
open Go.RowKit Go.Proofs.YtbihpjngmjkjmaaDoor.P Go.Proofs.YtbihpjngmjkjmaaDoorW.PrintWords Go.Proofs.YtbihpjngmjkjmaaDoorW.PrintLast Go.Proofs.YtbihpjngmjkjmaaDoor.Aux Go.Lib
set_option linter.unusedVariables false
set_option linter.unusedSimpArgs false
theorem ba_loop (s : ByteArray) : ∀ (d i : Nat) (r : List UInt8), i + d = s.size → ByteArray.toList.loop s i r = r.reverse ++ s.data.toList.drop i := by
  intro d
  induction d with
  | zero =>
    intro i r h
    rw [ByteArray.toList.loop, if_neg (by omega), List.drop_eq_nil_of_le (by rw [Array.length_toList]; show s.size ≤ i; omega), List.append_nil]
  | succ d ih =>
    intro i r h
    have hi : i < s.data.toList.length := by rw [Array.length_toList]; show i < s.size; omega
    rw [ByteArray.toList.loop, if_pos (by omega), ih (i + 1) _ (by omega), List.drop_eq_getElem_cons hi, List.reverse_cons, List.append_assoc]
    have : s.get! i = s.data.toList[i] := by
      rw [ByteArray.get!, Array.getElem_toList]
      exact getElem!_pos s.data i (by simpa using hi)
    rw [this]
    rfl
theorem ba_toList (s : ByteArray) : s.toList = s.data.toList := by
  rw [ByteArray.toList, ba_loop s s.size 0 [] (by omega)]
  simp
theorem ba_len (s : ByteArray) : s.data.toList.length = s.size := by rw [Array.length_toList]; rfl
theorem bt_list (s : ByteArray) (i : Nat) (h : i < s.data.toList.length) : bt s (i : Int) = (s.data.toList[i].toNat : Int) := by
  have h' : i < s.size := by rw [← ba_len]; exact h
  have := bt_at s (i : Int) (by simpa using h')
  rw [← this]
  simp [Array.getElem_toList]
  rfl
theorem digit_f (b : UInt8) : spec_l01Digit.f (b.toNat : Int) = some (digitVal b).isSome := by
  have hb := b.toNat_lt
  unfold spec_l01Digit.f spec_l01In.f digitVal
  rw [wrap_ok (by omega) (by omega)]
  by_cases h1 : (b.toNat : Int) ≥ 48
  · rw [if_pos h1]
    by_cases h2 : (b.toNat : Int) ≤ 57
    · rw [if_pos (by omega), decide_eq_true h2]
      rfl
    · rw [if_neg (by omega), decide_eq_false h2]
      rfl
  · rw [if_neg h1, if_neg (by omega)]
    rfl
/-- What stands at the end. -/
def rdFin (s t : ByteArray) (m : Int) : Int × Bool := if t.toList = s.toList then (if t.toList = ([] : List UInt8) then (0, false) else if (dt m).toList = s.toList then (m, true) else (0, false)) else (if t.toList = ([] : List UInt8) then (0, false) else if (dt (-m)).toList = s.toList then (-m, true) else (0, false))
theorem rd_loop (s t : ByteArray) (ht : t.size ≤ 6) (d : Nat) : ∀ (i n : Nat), i + d = t.size → decFrom 0 (t.data.toList.take i) = some n →
    Ev (fun k => spec_ReadInt.l0 k s t (n : Int) (i : Int)) (match decFrom 0 t.data.toList with | some m => rdFin s t m | none => (0, false)) := by
  induction d with
  | zero =>
    intro i n hi hn
    have hl := ba_len t
    rw [List.take_of_length_le (by omega)] at hn
    have hlt := decFrom_lt _ 0 n hn
    rw [hl] at hlt
    have hp : 10 ^ t.size ≤ 10 ^ 6 := Nat.pow_le_pow_right (by decide) ht
    have e6 : (10 : Nat) ^ 6 = 1000000 := by decide
    rw [hn]
    refine Ev.step (fun k => by rw [spec_ReadInt.l0, if_neg (by omega)]) ?_
    have hw : wrap64 (-(n : Int)) = -(n : Int) := wrap_ok (by omega) (by omega)
    rw [hw]
    show Ev _ (rdFin s t n)
    unfold rdFin
    by_cases h1 : t.toList = s.toList
    · rw [if_pos h1]
      refine Ev.ite_pos h1 ?_
      by_cases h2 : t.toList = ([] : List UInt8)
      · rw [if_pos h2]
        exact Ev.ite_pos h2 (Ev.now _)
      · rw [if_neg h2]
        refine Ev.ite_neg h2 (Ev.bind (dt_ev ⟨by omega, by omega⟩) ?_)
        by_cases h3 : (dt (n : Int)).toList = s.toList
        · rw [if_pos h3, if_pos h3]
          exact Ev.now _
        · rw [if_neg h3, if_neg h3]
          exact Ev.now _
    · rw [if_neg h1]
      refine Ev.ite_neg h1 ?_
      by_cases h2 : t.toList = ([] : List UInt8)
      · rw [if_pos h2]
        exact Ev.ite_pos h2 (Ev.now _)
      · rw [if_neg h2]
        refine Ev.ite_neg h2 (Ev.bind (dt_ev ⟨by omega, by omega⟩) ?_)
        by_cases h3 : (dt (-(n : Int))).toList = s.toList
        · rw [if_pos h3, if_pos h3]
          exact Ev.now _
        · rw [if_neg h3, if_neg h3]
          exact Ev.now _
  | succ d ih =>
    intro i n hi hn
    have hl := ba_len t
    have hil : i < t.data.toList.length := by omega
    have hlt := decFrom_lt _ 0 n hn
    rw [List.length_take, Nat.min_eq_left (by omega)] at hlt
    have hp : 10 ^ i ≤ 10 ^ 6 := Nat.pow_le_pow_right (by decide) (by omega)
    have e6 : (10 : Nat) ^ 6 = 1000000 := by decide
    have hb := bt_list t i hil
    have hg : ¬ ((t.size : Int) > 6) := by omega
    have hp1 : (i : Int) < (t.size : Int) := by omega
    have hp2 : 0 ≤ (i : Int) := by omega
    have hw : wrap64 ((i : Int) + 1) = ((i + 1 : Nat) : Int) := by rw [wrap_ok (by omega) (by omega)]; omega
    have hd := digit_f t.data.toList[i]
    cases hv : digitVal t.data.toList[i] with
    | none =>
      rw [hv] at hd
      have : decFrom 0 t.data.toList = none := by
        cases hx : decFrom 0 t.data.toList with
        | none => rfl
        | some m =>
          obtain ⟨e, he⟩ := digit_of_decFrom _ 0 m hx i _ (List.getElem?_eq_getElem hil)
          rw [hv] at he
          cases he
      rw [this]
      refine Ev.step (fun k => by rw [spec_ReadInt.l0, if_pos hp1, if_pos hp2, hb]) ?_
      exact Ev.const hd (Ev.ite_neg (by decide) (Ev.now _))
    | some e =>
      rw [hv] at hd
      have hn2 := decFrom_take _ i 0 n _ e hn (List.getElem?_eq_getElem hil) hv
      have key := ih (i + 1) (n * 10 + e) (by omega) hn2
      have hbv : (t.data.toList[i].toNat : Int) = 48 + e ∧ e < 10 := by
        unfold digitVal at hv
        split at hv
        · have := Option.some.inj hv
          omega
        · cases hv
      generalize (t.data.toList[i].toNat : Int) = bv at hd hb hbv
      obtain ⟨hb1, hb2⟩ := hbv
      refine Ev.step (fun k => by rw [spec_ReadInt.l0, if_pos hp1, if_pos hp2, hb]) ?_
      refine Ev.const hd (Ev.ite_pos rfl (Ev.ite_neg hg ?_))
      have w1 : wrap64 (wrap64 (wrap64 (10 * (n : Int)) + wrap64 bv) - 48) = ((n * 10 + e : Nat) : Int) := by
        rw [wrap_ok (i := 10 * (n : Int)) (by omega) (by omega), wrap_ok (i := bv) (by omega) (by omega), wrap_ok (i := 10 * (n : Int) + bv) (by omega) (by omega), wrap_ok (by omega) (by omega)]
        omega
      rw [w1, hw]
      exact key
theorem rd_long (s t : ByteArray) (ht : ¬ t.size ≤ 6) : Ev (fun k => spec_ReadInt.l0 k s t 0 0) (0, false) := by
  have hl := ba_len t
  have hb := bt_list t 0 (by omega)
  have hd := digit_f (t.data.toList[0]'(by omega))
  have hb' : bt t 0 = ((t.data.toList[0]'(by omega)).toNat : Int) := hb
  refine Ev.step (fun k => by rw [spec_ReadInt.l0, if_pos (by omega), if_pos (by decide), hb']) (Ev.const hd ?_)
  by_cases h : (digitVal (t.data.toList[0]'(by omega))).isSome = true
  · exact Ev.ite_pos h (Ev.ite_pos (by omega) (Ev.now _))
  · exact Ev.ite_neg h (Ev.now _)
/-- The text behind the sign. -/
def tailB (s : ByteArray) : ByteArray := if (s.size : Int) > 0 ∧ bt s 0 = 45 then s.extract 1 s.size else s
theorem tailB_list (s : ByteArray) : (tailB s).data.toList = behind s.data.toList := by
  have hl := ba_len s
  unfold tailB
  cases hs : s.data.toList with
  | nil =>
    rw [hs] at hl
    simp only [List.length_nil] at hl
    rw [if_neg (by omega), hs]
    rfl
  | cons b r =>
    have hb : bt s 0 = (b.toNat : Int) := by
      have := bt_list s 0 (by rw [hs]; simp)
      simpa [hs] using this
    rw [hs] at hl
    simp only [List.length_cons] at hl
    rw [hb]
    show _ = (if b.toNat = 45 then r else b :: r)
    by_cases h : b.toNat = 45
    · rw [if_pos ⟨by omega, by omega⟩, if_pos h, ByteArray.data_extract, Array.toList_extract, List.extract, hs]
      simp only [List.drop_succ_cons, List.drop_zero]
      exact List.take_of_length_le (by omega)
    · rw [if_neg (by omega), if_neg h, hs]
def rdS (s : ByteArray) : Int × Bool := if (tailB s).size ≤ 6 then (match decFrom 0 (tailB s).data.toList with | some m => rdFin s (tailB s) m | none => (0, false)) else (0, false)
theorem spec_read (s : ByteArray) (hs : s.size ≤ 1048576) : Ev (fun k => spec_ReadInt.f k s) (rdS s) := by
  have hl0 : Ev (fun k => spec_ReadInt.l0 k s (tailB s) 0 0) (rdS s) := by
    unfold rdS
    by_cases h : (tailB s).size ≤ 6
    · rw [if_pos h]
      exact rd_loop s (tailB s) h (tailB s).size 0 0 (by omega) rfl
    · rw [if_neg h]
      exact rd_long s _ h
  have hj1 : Ev (fun k => spec_ReadInt.j1 k s (tailB s)) (rdS s) := Ev.step (fun k => by rw [spec_ReadInt.j1]) hl0
  unfold spec_ReadInt.f
  by_cases h0 : (s.size : Int) > 0
  · refine Ev.ite_pos h0 (Ev.ite_pos (by omega) ?_)
    by_cases h1 : bt s 0 = 45
    · have e : tailB s = s.extract 1 s.size := if_pos ⟨h0, h1⟩
      rw [e] at hj1
      exact Ev.step (fun k => by rw [spec_ReadInt.j0, if_pos (by simpa using h1), if_pos (by omega)]) hj1
    · have e : tailB s = s := if_neg (fun z => h1 z.2)
      rw [e] at hj1
      exact Ev.step (fun k => by rw [spec_ReadInt.j0, if_neg (by simpa using h1)]) hj1
  · refine Ev.ite_neg h0 ?_
    have e : tailB s = s := if_neg (fun z => h0 z.1)
    rw [e] at hj1
    exact Ev.step (fun k => by rw [spec_ReadInt.j0, if_neg (by decide)]) hj1
def rdI (s : ByteArray) : Int × Bool := match atoiV s with
  | none => (0, false)
  | some v => if -999999 ≤ v ∧ v ≤ 999999 ∧ (⟨(Lib.itoa v).toArray⟩ : ByteArray).toList = s.toList then (v, true) else (0, false)
theorem impl_read (s : ByteArray) (hs : s.size ≤ 1048576) : impl_ReadInt.f s = some (rdI s) := by
  unfold impl_ReadInt.f rdI
  rw [if_pos hs]
  cases atoiV s with
  | none => rfl
  | some v =>
    show (if _ then some (v, true) else some ((0 : Int), false)) = some (if _ then (v, true) else (0, false))
    split <;> rfl
theorem dt_list (v : Int) : (dt v).data.toList = Lib.itoa v := rfl
theorem rdI_yes (s : ByteArray) (v : Int) (h0 : -999999 ≤ v) (h1 : v ≤ 999999) (h : s.data.toList = Lib.itoa v) : rdI s = (v, true) := by
  have ha : atoiV s = some v := by
    unfold atoiV
    rw [h, atoi_itoa v h0 h1]
  unfold rdI
  rw [ha]
  exact if_pos ⟨h0, h1, by rw [ba_toList, ba_toList]; exact h.symm⟩
theorem rdI_no (s : ByteArray) (h : ∀ v : Int, -999999 ≤ v → v ≤ 999999 → s.data.toList ≠ Lib.itoa v) : rdI s = (0, false) := by
  unfold rdI
  split
  · rfl
  · rename_i v hv
    exact if_neg (fun z => h v z.1 z.2.1 (by have := z.2.2; rw [ba_toList, ba_toList] at this; exact this.symm))
theorem read_same (s : ByteArray) : rdS s = rdI s := by
  have hT := tailB_list s
  have hTl := ba_len (tailB s)
  by_cases h : ∃ v : Int, -999999 ≤ v ∧ v ≤ 999999 ∧ s.data.toList = Lib.itoa v
  · obtain ⟨v, h0, h1, hv⟩ := h
    rw [rdI_yes s v h0 h1 hv]
    rw [hv, behind_itoa] at hT
    have h6 := digits_le6 v.natAbs (by omega)
    rw [hT] at hTl
    unfold rdS
    rw [if_pos (by omega), hT, decFrom_digits]
    show rdFin s (tailB s) (v.natAbs : Int) = (v, true)
    unfold rdFin
    simp only [ba_toList, hT, dt_list, hv]
    by_cases hn : v < 0
    · have e1 : Lib.itoa v = 45 :: decDigits v.natAbs := if_pos hn
      have e2 : -(v.natAbs : Int) = v := by omega
      rw [e2, if_neg (by rw [e1]; intro z; have := congrArg List.length z; simp at this), if_neg (digits_ne _), if_pos rfl]
    · have e2 : (v.natAbs : Int) = v := by omega
      have e1 : Lib.itoa v = decDigits v.natAbs := by unfold Lib.itoa; rw [if_neg hn, show v.toNat = v.natAbs by omega]
      rw [e2, if_pos e1.symm, if_neg (digits_ne _), if_pos rfl]
  · have hno : ∀ v : Int, -999999 ≤ v → v ≤ 999999 → s.data.toList ≠ Lib.itoa v := fun v a b c => h ⟨v, a, b, c⟩
    rw [rdI_no s hno]
    unfold rdS
    split
    · rename_i h6
      split
      · rename_i m hm
        have hlt := decFrom_lt _ 0 m hm
        rw [hTl] at hlt
        have hp : 10 ^ (tailB s).size ≤ 10 ^ 6 := Nat.pow_le_pow_right (by decide) h6
        have e6 : (10 : Nat) ^ 6 = 1000000 := by decide
        have n1 : ¬ (dt (m : Int)).toList = s.toList := fun z => hno m (by omega) (by omega) (by rw [ba_toList, ba_toList] at z; exact z.symm)
        have n2 : ¬ (dt (-(m : Int))).toList = s.toList := fun z => hno (-(m : Int)) (by omega) (by omega) (by rw [ba_toList, ba_toList] at z; exact z.symm)
        unfold rdFin
        rw [if_neg n1, if_neg n2]
        repeat' split
        all_goals rfl
      · rfl
    · rfl
end Go.Proofs.YtbihpjngmjkjmaaDoor.Dec
