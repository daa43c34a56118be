/- The plain side of what is ok: blocks. Conditions: as each lemma says. -/
import Derived.Test.YtbbpmcignfhfmaaMMaxSlotxF74
import Derived.Test.YtbbpmcignfhfmaaMMaxSlot1wa
import Derived.Test.YtbbpmcignfhfmaaMMaxSlot1ya
import Derived.Test.YtbbpmcignfhfmaaMMaxSlotxF72
namespace Go.Proofs.Ytbbpmcignfhfmaa.Ok
open Go.RowKit Go.Proofs.Ytbbpmcignfhfmaa.P Go.Proofs.YtbbpmcignfhfmaaW.PrintWords Go.Proofs.YtbbpmcignfhfmaaW.PrintLast Go.Proofs.Ytbbpmcignfhfmaa.Aux
set_option linter.unusedVariables false
set_option linter.unusedSimpArgs false
/-- What isBlock answers. -/
def blockB (z s nb : Int) (code : List S39) (j a to_ el : Int) : Bool :=
  if (code.any fun x => !instrB z s x.f0 x.f1 x.f2 x.f3 x.f4 x.f5 x.f6) then false
  else if s < 0 then false
  else if j = 0 then inR to_ 0 (nb - 1) && (a == 0 && el == 0)
  else if j = 1 then inR to_ 0 (nb - 1) && (inR el 0 (nb - 1) && inB a s)
  else if j = 2 then inB a s && (to_ == 0 && el == 0)
  else false
def tailB (s nb : Int) (j a to_ el : Int) : Bool :=
  if j = 0 then inR to_ 0 (nb - 1) && (a == 0 && el == 0)
  else if j = 1 then inR to_ 0 (nb - 1) && (inR el 0 (nb - 1) && inB a s)
  else if j = 2 then inB a s && (to_ == 0 && el == 0)
  else false
theorem rdII' (xs : List S39) (i : Nat) (h : i < xs.length) : rd_T39 xs (i : Int) = xs[i] := by simp [rd_T39, List.getD_eq_getElem?_getD, List.getElem?_eq_getElem h]
theorem block_l0 (zs : List Int) (p v s : Int) (bs : List S49) (code : List S39) (j a to_ el : Int) (hs : 0 ≤ s) (hs2 : s ≤ 9223372036854775807) (hz : zs.length ≤ 9223372036854775807) (hb : bs.length ≤ 9223372036854775807) (hn : code.length < 9223372036854775807) (d : Nat) : ∀ i : Nat, i + d = code.length →
    Ev (fun k => spec_l04BlockOk.l0 k (i : Int) zs p v s bs code j a to_ el) (if ((code.drop i).any fun x => !instrB (zs.length : Int) s x.f0 x.f1 x.f2 x.f3 x.f4 x.f5 x.f6) then false else tailB s (bs.length : Int) j a to_ el) := by
  induction d with
  | zero =>
    intro i hi
    rw [List.drop_eq_nil_of_le (by omega)]
    refine ⟨1, fun k hk => ?_⟩
    obtain ⟨m, rfl⟩ : ∃ m, k = m + 1 := ⟨k - 1, by omega⟩
    have w1 : wrap64 (s - 1) = s - 1 := wrap_ok (by omega) (by omega)
    have w2 : wrap64 ((bs.length : Int) - 1) = (bs.length : Int) - 1 := wrap_ok (by omega) (by omega)
    have inS : ∀ x, inR x 0 (s - 1) = inB x s := fun x => inR_inB x s
    have hc : ¬ (i : Int) < (code.length : Int) := by omega
    have L1 : ∀ X Y : Bool, (if X = true then some Y else some false) = some (X && Y) := fun X Y => by cases X <;> rfl
    have L2 : ∀ (x : Int) (Y : Bool), (if x = 0 then some Y else some false) = some ((x == 0) && Y) := fun x Y => by by_cases h : x = 0 <;> simp [h]
    clear hi hk hs hs2 hz hb hn
    simp only [spec_l04BlockOk.l0, if_neg hc, w1, w2, in_some, inS, Option.bind_some, List.any_nil]
    unfold tailB
    generalize inR to_ 0 ((bs.length : Int) - 1) = T
    generalize inR el 0 ((bs.length : Int) - 1) = E
    generalize inB a s = A
    by_cases h0 : j = 0
    · simp [h0, L1, L2, Bool.and_comm, Bool.and_left_comm, Bool.and_assoc]
    by_cases h1 : j = 1
    · simp [h1, L1, L2, Bool.and_comm, Bool.and_left_comm, Bool.and_assoc]
    by_cases h2 : j = 2
    · simp [h2, L1, L2, Bool.and_comm, Bool.and_left_comm, Bool.and_assoc]
    simp [h0, h1, h2]
  | succ d ih =>
    intro i hi
    have hd : code.drop i = code[i]'(by omega) :: code.drop (i + 1) := List.drop_eq_getElem_cons (by omega)
    have hr := rdII' code i (by omega)
    rw [hd, List.any_cons]
    have hi2 := instr_ev zs p v s bs (code[i]'(by omega)).f0 (code[i]'(by omega)).f1 (code[i]'(by omega)).f2 (code[i]'(by omega)).f3 (code[i]'(by omega)).f4 (code[i]'(by omega)).f5 (code[i]'(by omega)).f6 hs hs2 hz
    cases hq : instrB (zs.length : Int) s (code[i]'(by omega)).f0 (code[i]'(by omega)).f1 (code[i]'(by omega)).f2 (code[i]'(by omega)).f3 (code[i]'(by omega)).f4 (code[i]'(by omega)).f5 (code[i]'(by omega)).f6 with
    | false =>
      rw [hq] at hi2
      refine Ev.step (fun k => by rw [spec_l04BlockOk.l0, if_pos (by omega), if_pos (by omega), hr]) (Ev.bind hi2 (f := fun k t => if t = true then spec_l04BlockOk.l0 k (wrap64 ((i : Int) + 1)) zs p v s bs code j a to_ el else some false) ?_)
      exact Ev.ite_neg (by simp) (Ev.now _)
    | true =>
      rw [hq] at hi2
      refine Ev.step (fun k => by rw [spec_l04BlockOk.l0, if_pos (by omega), if_pos (by omega), hr]) (Ev.bind hi2 (f := fun k t => if t = true then spec_l04BlockOk.l0 k (wrap64 ((i : Int) + 1)) zs p v s bs code j a to_ el else some false) ?_)
      rw [wrap_ok (by omega) (by omega), ← Int.natCast_succ]
      exact Ev.ite_pos rfl (ih (i + 1) (by omega))
theorem block_ev (zs : List Int) (p v s : Int) (bs : List S49) (code : List S39) (j a to_ el : Int) (hs : 0 ≤ s) (hs2 : s ≤ 9223372036854775807) (hz : zs.length ≤ 9223372036854775807) (hb : bs.length ≤ 9223372036854775807) (hn : code.length < 9223372036854775807) :
    Ev (fun k => spec_l04BlockOk.f k zs p v s bs code j a to_ el) (blockB (zs.length : Int) s (bs.length : Int) code j a to_ el) := by
  have h := block_l0 zs p v s bs code j a to_ el hs hs2 hz hb hn code.length 0 (by omega)
  rw [List.drop_zero] at h
  unfold blockB
  rw [if_neg (show ¬ s < 0 by omega)]
  exact h
theorem blockB_low (z s nb : Int) (code : List S39) (j a to_ el : Int) (hs : s < 0) : blockB z s nb code j a to_ el = false := by
  unfold blockB
  rw [if_pos hs]
  split <;> rfl
theorem in_some' (x a b : Int) : impl_in.f x a b = some (inR x a b) := by
  unfold impl_in.f inR
  by_cases h : x ≥ a
  · rw [if_pos h, decide_eq_true h, Bool.true_and]
  · rw [if_neg h, decide_eq_false h, Bool.false_and]
theorem isBlock_ev (zs : List Int) (p v s : Int) (bs : List S49) (code : List S39) (j a to_ el : Int) (hb : bs.length ≤ 9223372036854775807) :
    Ev (fun k => impl_isBlock.f k zs p v s bs code j a to_ el) (blockB (zs.length : Int) s (bs.length : Int) code j a to_ el) := by
  have w2 : wrap64 ((bs.length : Int) - 1) = (bs.length : Int) - 1 := wrap_ok (by omega) (by omega)
  have L1 : ∀ X Y : Bool, (if X = true then some Y else some false) = some (X && Y) := fun X Y => by cases X <;> rfl
  have L2 : ∀ (x : Int) (Y : Bool), (if x = 0 then some Y else some false) = some ((x == 0) && Y) := fun x Y => by by_cases h : x = 0 <;> simp [h]
  have L5 : ∀ Y : Bool, (if a < s then some Y else some false) = some (decide (a < s) && Y) := fun Y => by by_cases h : a < s <;> simp [h]
  refine ⟨1, fun k hk => ?_⟩
  obtain ⟨m, rfl⟩ : ∃ m, k = m + 1 := ⟨k - 1, by omega⟩
  clear hk hb
  unfold impl_isBlock.f impl_Instr_106.f blockB
  simp only [Option.bind_some, w2, in_some', impl_isBlock.j0]
  have hA : inB a s = (decide (0 ≤ a) && decide (a < s)) := rfl
  rw [hA]
  generalize (code.any fun x => !instrB (zs.length : Int) s x.f0 x.f1 x.f2 x.f3 x.f4 x.f5 x.f6) = K
  generalize inR to_ 0 ((bs.length : Int) - 1) = T
  generalize inR el 0 ((bs.length : Int) - 1) = E
  cases K with
  | true => simp
  | false =>
    by_cases hs : s < 0
    · by_cases ha : a ≥ 0 <;> simp [hs, ha]
    by_cases ha : a ≥ 0
    · have ha' : 0 ≤ a := ha
      by_cases h0 : j = 0
      · simp [h0, hs, ha, ha', L1, L2, L5, Bool.and_comm, Bool.and_left_comm, Bool.and_assoc]
      by_cases h1 : j = 1
      · simp [h1, hs, ha, ha', L1, L2, L5, Bool.and_comm, Bool.and_left_comm, Bool.and_assoc]
      by_cases h2 : j = 2
      · simp [h2, hs, ha, ha', L1, L2, L5, Bool.and_comm, Bool.and_left_comm, Bool.and_assoc]
      simp [h0, h1, h2, hs, ha]
    · have ha' : ¬ 0 ≤ a := ha
      by_cases h0 : j = 0
      · simp [h0, hs, ha, ha', L1, L2, L5, Bool.and_comm, Bool.and_left_comm, Bool.and_assoc]
      by_cases h1 : j = 1
      · simp [h1, hs, ha, ha', L1, L2, L5, Bool.and_comm, Bool.and_left_comm, Bool.and_assoc]
      by_cases h2 : j = 2
      · simp [h2, hs, ha, ha', L1, L2, L5, Bool.and_comm, Bool.and_left_comm, Bool.and_assoc]
      simp [h0, h1, h2, hs, ha]
end Go.Proofs.Ytbbpmcignfhfmaa.Ok
