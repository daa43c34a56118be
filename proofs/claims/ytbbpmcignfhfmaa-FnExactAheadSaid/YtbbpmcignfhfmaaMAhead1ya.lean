/- The plain side of what is ok: steps and blocks. Conditions: as_ each lemma says. -/
import Derived.Test.YtbbpmcignfhfmaaMAheadxGis
import Derived.Test.YtbbpmcignfhfmaaMAheadxF69
import Derived.Test.YtbbpmcignfhfmaaMAhead0c
namespace Go.Proofs.Ytbbpmcignfhfmaa.Ok
open Go.RowKit Go.Proofs.Ytbbpmcignfhfmaa.P Go.Proofs.YtbbpmcignfhfmaaW.PrintWords Go.Proofs.YtbbpmcignfhfmaaW.PrintLast Go.Proofs.Ytbbpmcignfhfmaa.Aux
set_option linter.unusedVariables false
set_option linter.unusedSimpArgs false
theorem has_l0 (xs : List ByteArray) (s : ByteArray) (hn : xs.length < 9223372036854775807) (d : Nat) : ∀ i : Nat, i + d = xs.length → Ev (fun k => spec_l01Has.l0 k xs s (i : Int)) ((xs.drop i).any fun x => x.toList = s.toList) := by
  induction d with
  | zero =>
    intro i hi
    refine Ev.step (fun k => by rw [spec_l01Has.l0, if_neg (by omega)]) ?_
    rw [List.drop_eq_nil_of_le (by omega)]
    exact Ev.now _
  | succ d ih =>
    intro i hi
    have hd : xs.drop i = xs[i]'(by omega) :: xs.drop (i + 1) := List.drop_eq_getElem_cons (by omega)
    have hr := rdOf_lt ByteArray.empty xs i (by omega)
    rw [hd, List.any_cons]
    by_cases h : (xs[i]'(by omega)).toList = s.toList
    · refine Ev.step (f := fun _ => some true) (fun k => by rw [spec_l01Has.l0, if_pos (by omega), if_pos (by omega), hr, if_pos h]) ?_
      rw [decide_eq_true h, Bool.true_or]
      exact Ev.now _
    · refine Ev.step (f := fun k => spec_l01Has.l0 k xs s ((i + 1 : Nat) : Int)) (fun k => by rw [spec_l01Has.l0, if_pos (by omega), if_pos (by omega), hr, if_neg h, wrap_ok (by omega) (by omega), Int.natCast_succ]) ?_
      rw [decide_eq_false h, Bool.false_or]
      exact ih (i + 1) (by omega)
theorem has_ev (xs : List ByteArray) (s : ByteArray) (hn : xs.length < 9223372036854775807) : Ev (fun k => spec_l01Has.f k xs s) (xs.any fun x => x.toList = s.toList) := has_l0 xs s hn xs.length 0 (by omega)
theorem in_some (x a b : Int) : spec_l01In.f x a b = some (inR x a b) := by
  unfold spec_l01In.f inR
  by_cases h : x ≥ a
  · rw [if_pos h, decide_eq_true h, Bool.true_and]
  · rw [if_neg h, decide_eq_false h, Bool.false_and]
theorem inR_inB (x s : Int) : inR x 0 (s - 1) = inB x s := by
  unfold inR inB
  congr 1
  exact decide_eq_decide.2 (by omega)
theorem instr_ev (zs : List Int) (p v s : Int) (bs : List S49) (o d a b c n : Int) (t : ByteArray) (hs : 0 ≤ s) (hs2 : s ≤ 9223372036854775807) (hz : zs.length ≤ 9223372036854775807) :
    Ev (fun k => spec_l04InstrOk.f k zs p v s bs o d a b c n t) (instrB (zs.length : Int) s o d a b c n t) := by
  obtain ⟨N, hN⟩ := has_ev signs t (by simp [signs])
  refine ⟨N + 2, fun k hk => ?_⟩
  obtain ⟨m, rfl⟩ : ∃ m, k = m + 2 := ⟨k - 2, by omega⟩
  have hh := hN m (by omega)
  have w1 : wrap64 (s - 1) = s - 1 := wrap_ok (by omega) (by omega)
  have w2 : wrap64 ((zs.length : Int) - 1) = (zs.length : Int) - 1 := wrap_ok (by omega) (by omega)
  clear hN hk hs hs2 hz
  unfold spec_l04InstrOk.f
  have inS : ∀ x, inR x 0 (s - 1) = inB x s := fun x => inR_inB x s
  simp only [w1, w2, in_some, Option.bind_some, inS]
  clear w2
  rw [show (signs.any fun x => decide (x.toList = t.toList)) = signB t from rfl] at hh
  simp only [signs] at hh
  unfold instrB
  generalize hr : inR n 0 ((zs.length : Int) - 1) = r
  generalize hA : inB a s = A
  generalize hB : inB b s = B
  generalize hC : inB c s = C
  generalize hD : inB d s = D
  generalize hS : signB t = S at hh ⊢
  have L1 : ∀ X Y : Bool, (if X = true then some Y else some false) = some (X && Y) := fun X Y => by cases X <;> rfl
  have L2 : ∀ (x : Int) (Y : Bool), (if x = 0 then some Y else some false) = some ((x == 0) && Y) := fun x Y => by by_cases h : x = 0 <;> simp [h]
  have L3 : ∀ X Y : Bool, (if X = true then some false else some Y) = some (!X && Y) := fun X Y => by cases X <;> rfl
  have L4 : (!(c != 0)) = (c == 0) := by cases h : c == 0 <;> simp [bne, h]
  have ht : t.toList.isEmpty = decide (t.toList = []) := by cases t.toList <;> rfl
  rw [ht]
  clear ht
  by_cases h0 : o = 0
  · subst h0
    cases A <;> by_cases ha : a = -1 <;> cases B <;> by_cases ht : t.toList = [] <;> simp [spec_l04InstrOk.j0, spec_l04InstrOk.j1, ha, ht, L1, L2, L3, L4, Bool.and_comm, Bool.and_left_comm, Bool.and_assoc]
  by_cases h1 : o = 1
  · subst h1
    cases A <;> by_cases ha : a = -1 <;> cases B <;> by_cases ht : t.toList = [] <;> simp [spec_l04InstrOk.j0, spec_l04InstrOk.j1, ha, ht, L1, L2, L3, L4, Bool.and_comm, Bool.and_left_comm, Bool.and_assoc]
  by_cases h2 : o = 2
  · subst h2
    cases A <;> by_cases ha : a = -1 <;> cases B <;> simp [spec_l04InstrOk.j0, spec_l04InstrOk.j1, ha, hh, L1, L2, L3, L4, Bool.and_comm, Bool.and_left_comm, Bool.and_assoc]
  by_cases h3 : o = 3
  · subst h3
    cases A <;> by_cases ha : a = -1 <;> cases B <;> by_cases ht : t.toList = [] <;> simp [spec_l04InstrOk.j0, spec_l04InstrOk.j1, ha, ht, L1, L2, L3, L4, Bool.and_comm, Bool.and_left_comm, Bool.and_assoc]
  by_cases h4 : o = 4
  · subst h4
    cases A <;> by_cases ha : a = -1 <;> cases B <;> by_cases ht : t.toList = [] <;> simp [spec_l04InstrOk.j0, spec_l04InstrOk.j1, ha, ht, w1, in_some, inS, hC, L1, L2, L3, L4, Bool.and_comm, Bool.and_left_comm, Bool.and_assoc]
  by_cases h5 : o = 5
  · subst h5
    cases A <;> by_cases ha : a = -1 <;> cases B <;> by_cases ht : t.toList = [] <;> simp [spec_l04InstrOk.j0, spec_l04InstrOk.j1, ha, ht, L1, L2, L3, L4, Bool.and_comm, Bool.and_left_comm, Bool.and_assoc]
  by_cases h6 : o = 6
  · subst h6
    cases A <;> by_cases ha : a = -1 <;> cases B <;> by_cases ht : t.toList = [] <;> simp [spec_l04InstrOk.j0, spec_l04InstrOk.j1, ha, ht, L1, L2, L3, L4, Bool.and_comm, Bool.and_left_comm, Bool.and_assoc]
  cases A <;> by_cases ha : a = -1 <;> cases B <;> by_cases ht : t.toList = [] <;> simp [spec_l04InstrOk.j0, spec_l04InstrOk.j1, h0, h1, h2, h3, h4, h5, h6, ha, ht]
end Go.Proofs.Ytbbpmcignfhfmaa.Ok
