/- The program's NameOk answers as the reference's, for every text. No conditions. -/
import Derived.Test.YthbonkpmaomhoaaPFnExactNameOkx2
import Derived.Test.YthbonkpmaomhoaaAid
namespace Go.Proofs.Ythbonkpmaomhoaa.Pure.FnExactNameOk_
open Go.RowKit Go.Proofs.Ythbonkpmaomhoaa.PFnExactNameOk Go.Proofs.YthbonkpmaomhoaaW.PrintWords Go.Proofs.YthbonkpmaomhoaaW.PrintLast Go.Proofs.Ythbonkpmaomhoaa.Aid
set_option linter.unusedVariables false
theorem has_l0 (xs : List ByteArray) (s : ByteArray) (hn : xs.length < 9223372036854775807) (d : Nat) : ∀ i : Nat, i + d = xs.length → Ev (fun k => spec_l01Has.l0 k xs s (i : Int)) ((xs.drop i).any fun x => x.toList = s.toList) := by
  induction d with
  | zero =>
    intro i hi
    refine Ev.step (fun k => by rw [spec_l01Has.l0, if_neg (by omega)]) ?_
    rw [List.drop_eq_nil_of_le (by omega)]
    exact Ev.now _
  | succ d ih =>
    intro i hi
    have hd : xs.drop i = xs[i]'(by omega) :: xs.drop (i + 1) := List.drop_eq_getElem_cons (by omega)
    have hr := rdOf_lt ByteArray.empty xs i (by omega)
    by_cases h : (xs[i]'(by omega)).toList = s.toList
    · refine Ev.step (f := fun _ => some true) (fun k => by rw [spec_l01Has.l0, if_pos (by omega), if_pos (by omega), hr, if_pos h]) ?_
      rw [hd, List.any_cons]
      simp only [h, decide_true, Bool.true_or]
      exact Ev.now _
    · refine Ev.step (fun k => by rw [spec_l01Has.l0, if_pos (by omega), if_pos (by omega), hr, if_neg h, wrap_ok (by omega) (by omega)]) ?_
      rw [hd, List.any_cons]
      simp only [h, decide_false, Bool.false_or]
      exact ih (i + 1) (by omega)
theorem has_f (xs : List ByteArray) (s : ByteArray) (hn : xs.length < 9223372036854775807) : Ev (fun k => spec_l01Has.f k xs s) (xs.any fun x => x.toList = s.toList) := has_l0 xs s hn xs.length 0 (by omega)
theorem index_l0 (xs : List ByteArray) (s : ByteArray) (hn : xs.length < 9223372036854775807) (d : Nat) : ∀ i : Nat, i + d = xs.length → ∃ r, Ev (fun k => slices_Index_string_string.l0 k xs s (xs.length : Int) (i : Int)) r ∧ decide (r ≥ 0) = (xs.drop i).any fun x => x.toList = s.toList := by
  induction d with
  | zero =>
    intro i hi
    refine ⟨-1, Ev.step (fun k => by rw [slices_Index_string_string.l0, if_neg (by omega)]) (Ev.now _), ?_⟩
    rw [List.drop_eq_nil_of_le (by omega)]
    rfl
  | succ d ih =>
    intro i hi
    have hd : xs.drop i = xs[i]'(by omega) :: xs.drop (i + 1) := List.drop_eq_getElem_cons (by omega)
    have hr := rdOf_lt ByteArray.empty xs i (by omega)
    by_cases h : s.toList = (xs[i]'(by omega)).toList
    · refine ⟨i, Ev.step (f := fun _ => some (i : Int)) (fun k => by rw [slices_Index_string_string.l0, if_pos (by omega), if_pos (by omega), if_pos (by omega), hr, if_pos h]) (Ev.now _), ?_⟩
      rw [hd, List.any_cons, decide_eq_true (show (i : Int) ≥ 0 by omega), decide_eq_true h.symm, Bool.true_or]
    · obtain ⟨r, h1, h2⟩ := ih (i + 1) (by omega)
      refine ⟨r, Ev.step (fun k => by rw [slices_Index_string_string.l0, if_pos (by omega), if_pos (by omega), if_pos (by omega), hr, if_neg h, wrap_ok (by omega) (by omega), Int.natCast_succ]) h1, ?_⟩
      rw [hd, List.any_cons, h2]
      have h' : ¬ (xs[i]'(by omega)).toList = s.toList := fun e => h e.symm
      simp only [h', decide_false, Bool.false_or]
theorem contains_f (xs : List ByteArray) (s : ByteArray) (hn : xs.length < 9223372036854775807) : Ev (fun k => slices_Contains_string_string.f k xs s) (xs.any fun x => x.toList = s.toList) := by
  obtain ⟨r, h1, h2⟩ := index_l0 xs s hn xs.length 0 (by omega)
  rw [List.drop_zero] at h2
  rw [← h2]
  exact Ev.bind (f := fun _ t => some (decide (t ≥ 0))) h1 (Ev.now _)
/-- Both answers of IsWord: whether a text is one of the words. -/
theorem isWord (s : ByteArray) : ∃ r, Ev (fun k => spec_IsWord.f k s) r ∧ Ev (fun k => impl_IsWord.f k s) r :=
  ⟨_, Ev.bind (f := fun _ t => some t) (has_f _ s (by simp)) (Ev.now _), Ev.bind (f := fun _ t => some t) (contains_f _ s (by simp)) (Ev.now _)⟩
theorem letter (s : ByteArray) (i : Int) : spec_l01Letter.f (bt s i) = impl_isSmall.f (bt s i) := by
  have h := bt_range s i
  unfold spec_l01Letter.f spec_l01In.f impl_isSmall.f
  rw [wrap_ok (by omega) (by omega)]
  by_cases h1 : bt s i ≥ 97
  · rw [if_pos h1]
    rfl
  · rw [if_neg h1]
    rfl
theorem digit (s : ByteArray) (i : Int) : spec_l01Digit.f (bt s i) = impl_isDigit.f (bt s i) := by
  have h := bt_range s i
  unfold spec_l01Digit.f spec_l01In.f impl_isDigit.f
  rw [wrap_ok (by omega) (by omega)]
  by_cases h1 : bt s i ≥ 48
  · rw [if_pos h1]
    rfl
  · rw [if_neg h1]
    rfl
theorem small_some (c : Int) : ∃ b, impl_isSmall.f c = some b := by unfold impl_isSmall.f; split <;> exact ⟨_, rfl⟩
theorem digit_some (c : Int) : ∃ b, impl_isDigit.f c = some b := by unfold impl_isDigit.f; split <;> exact ⟨_, rfl⟩
/-- The end of the reference's loop. -/
theorem at_end (s : ByteArray) (w : Bool) (hw : Ev (fun k => spec_IsWord.f k s) w) (b : Bool) (hb : spec_l01In.f (s.size : Int) 1 8 = some b) :
    Ev (fun k => (spec_l01In.f (s.size : Int) 1 8).bind fun t => if t = true then ((spec_IsWord.f k s).bind fun t => some (!t)) else some false) (b && !w) := by
  refine Ev.const hb ?_
  cases b with
  | true => exact Ev.ite_pos rfl (Ev.bind (f := fun _ t => some (!t)) hw (Ev.now _))
  | false => exact Ev.ite_neg (by simp) (Ev.now _)
theorem loops (s : ByteArray) (hn : s.size < 9223372036854775807) (w : Bool) (hw : Ev (fun k => spec_IsWord.f k s) w) (b : Bool) (hb : spec_l01In.f (s.size : Int) 1 8 = some b) (d : Nat) : ∀ i : Nat, i + d = s.size →
    ∃ (r : Int) (q : Bool), Ev (fun k => impl_nameLong.l0 k s (i : Int)) r ∧ Ev (fun k => spec_NameOk.l0 k s (i : Int)) q ∧ (r = (s.size : Int) → q = (b && !w)) ∧ (r ≠ (s.size : Int) → q = false) := by
  induction d with
  | zero =>
    intro i hi
    exact ⟨i, _, Ev.step (fun k => by rw [impl_nameLong.l0, if_neg (by omega)]) (Ev.now _), Ev.step (fun k => by rw [spec_NameOk.l0, if_neg (by omega)]) (at_end s w hw b hb), fun _ => rfl, fun h => absurd (show (i : Int) = (s.size : Int) by omega) h⟩
  | succ d ih =>
    intro i hi
    obtain ⟨r, q, h1, h2, h3, h4⟩ := ih (i + 1) (by omega)
    have hwr : wrap64 ((i : Int) + 1) = ((i + 1 : Nat) : Int) := wrap_ok (by omega) (by omega)
    obtain ⟨c, hc⟩ := small_some (bt s i)
    have hlt : (i : Int) < (s.size : Int) := by omega
    have hne : (i : Int) ≠ (s.size : Int) := by omega
    cases c with
    | true =>
      refine ⟨r, q, Ev.step (fun k => ?_) h1, Ev.step (fun k => ?_) h2, h3, h4⟩
      · rw [impl_nameLong.l0, if_pos hlt, if_pos (by omega), hc, Option.bind_some, if_pos rfl, hwr]
      · rw [spec_NameOk.l0, if_pos hlt, if_pos (by omega), letter, hc, Option.bind_some, if_pos rfl, hwr]
    | false =>
      by_cases h0 : i = 0
      · subst h0
        refine ⟨((0 : Nat) : Int), false, Ev.step (f := fun _ => some _) (fun k => ?_) (Ev.now _), Ev.step (f := fun _ => some _) (fun k => ?_) (Ev.now _), fun h => absurd h hne, fun _ => rfl⟩
        · rw [impl_nameLong.l0, if_pos hlt, if_pos (by omega), hc, Option.bind_some, if_neg (by simp), if_neg (by omega)]
        · rw [spec_NameOk.l0, if_pos hlt, if_pos (by omega), letter, hc, Option.bind_some, if_neg (by simp), if_pos (by omega)]
      · obtain ⟨e, he⟩ := digit_some (bt s i)
        cases e with
        | true =>
          refine ⟨r, q, Ev.step (fun k => ?_) h1, Ev.step (fun k => ?_) h2, h3, h4⟩
          · rw [impl_nameLong.l0, if_pos hlt, if_pos (by omega), hc, Option.bind_some, if_neg (by simp), if_pos (by omega), he, Option.bind_some, if_pos rfl, hwr]
          · rw [spec_NameOk.l0, if_pos hlt, if_pos (by omega), letter, hc, Option.bind_some, if_neg (by simp), if_neg (by omega), digit, he, Option.bind_some, if_pos rfl, hwr]
        | false =>
          refine ⟨i, false, Ev.step (f := fun _ => some _) (fun k => ?_) (Ev.now _), Ev.step (f := fun _ => some _) (fun k => ?_) (Ev.now _), fun h => absurd h hne, fun _ => rfl⟩
          · rw [impl_nameLong.l0, if_pos hlt, if_pos (by omega), hc, Option.bind_some, if_neg (by simp), if_pos (by omega), he, Option.bind_some, if_neg (by simp)]
          · rw [spec_NameOk.l0, if_pos hlt, if_pos (by omega), letter, hc, Option.bind_some, if_neg (by simp), if_neg (by omega), digit, he, Option.bind_some, if_neg (by simp)]
theorem nameOk (s : ByteArray) (hn : s.size < 9223372036854775807) : ∃ r, Ev (fun k => spec_NameOk.f k s) r ∧ Ev (fun k => impl_NameOk.f k s) r := by
  obtain ⟨w, w1, w2⟩ := isWord s
  obtain ⟨b, hb⟩ : ∃ b, spec_l01In.f (s.size : Int) 1 8 = some b := by unfold spec_l01In.f; split <;> exact ⟨_, rfl⟩
  have hb' : impl_in.f (s.size : Int) 1 8 = some b := hb
  obtain ⟨r, q, h1, h2, h3, h4⟩ := loops s hn w w1 b hb s.size 0 (by omega)
  refine ⟨q, h2, Ev.const hb' ?_⟩
  cases b with
  | false =>
    have : q = false := by
      by_cases h : r = (s.size : Int)
      · rw [h3 h]
        rfl
      · exact h4 h
    subst this
    exact Ev.ite_neg (by simp) (Ev.now _)
  | true =>
    refine Ev.ite_pos rfl (Ev.bind h1 ?_)
    by_cases h : r = (s.size : Int)
    · refine Ev.ite_pos h (Ev.bind (f := fun _ t => some (!t)) w2 ?_)
      rw [h3 h, Bool.true_and]
      exact Ev.now _
    · rw [h4 h]
      exact Ev.ite_neg h (Ev.now _)
end Go.Proofs.Ythbonkpmaomhoaa.Pure.FnExactNameOk_
namespace Go.Proofs.Ythbonkpmaomhoaa.Pure
open Go.RowKit Go.Proofs.Ythbonkpmaomhoaa.PFnExactNameOk Go.Proofs.YthbonkpmaomhoaaW.PrintWords Go.Proofs.YthbonkpmaomhoaaW.PrintLast Go.Proofs.Ythbonkpmaomhoaa.Aid
theorem FnExactNameOk : laws_FnExactNameOk.Pure := by
  intro s hs
  apply Ev.rounds (r := true)
  unfold laws_FnExactNameOk.f
  by_cases hl : (s.size : Int) > 1048576
  · exact Ev.ite_pos hl (Ev.now _)
  · obtain ⟨r, h1, h2⟩ := FnExactNameOk_.nameOk s (by omega)
    refine Ev.ite_neg hl (Ev.bind h1 (Ev.bind h2 ?_))
    simp only [bne_self_eq_false, Bool.false_eq_true, if_false]
    exact Ev.now _
end Go.Proofs.Ythbonkpmaomhoaa.Pure
