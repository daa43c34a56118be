/- The program's Next answers as the reference's, for every block; it writes into none, and its answer is new memory. No conditions. -/
import Derived.Test.YthbonkpmaomhoaaF14
import Derived.Test.YthbonkpmaomhoaaAux
import Derived.Test.YthbonkpmaomhoaaOpenT
namespace Go.Proofs.Ythbonkpmaomhoaa.Pure.FnExactNext_
open Go.RowKit Go.Proofs.Ythbonkpmaomhoaa.P Go.Proofs.YthbonkpmaomhoaaW.PrintWords Go.Proofs.YthbonkpmaomhoaaW.PrintLast Go.Proofs.Ythbonkpmaomhoaa.Aux Go.Proofs.Ythbonkpmaomhoaa.Opens
set_option linter.unusedVariables false
set_option linter.unusedSimpArgs false
theorem sz_loop (xs : List S33) (hw : ∀ x ∈ xs, W33 x) (hn : xs.length ≤ 9223372036854775807) (d : Nat) : ∀ (i : Nat) (n : Int), i + d = xs.length → 0 ≤ n → n ≤ 1048576 → ∃ z, Ev (fun k => laws_szInstrS.l0 k xs n (i : Int)) z := by
  induction d with
  | zero =>
    intro i n hi h0 h1
    exact ⟨_, Ev.step (fun k => by rw [laws_szInstrS.l0, if_neg (by omega)]) (Ev.now _)⟩
  | succ d ih =>
    intro i n hi h0 h1
    have hr : rd_T33 xs (i : Int) = xs[i]'(by omega) := by simp [rd_T33, List.getD_eq_getElem?_getD, List.getElem?_eq_getElem (show i < xs.length by omega)]
    have hs := (hw _ (List.getElem_mem (show i < xs.length by omega))).2.2.2.2.2.2
    unfold maxLen at hs
    by_cases h : n - (xs[i]'(by omega)).f6.size < 0
    · refine ⟨-1, Ev.step (f := fun _ => some (-1)) (fun k => ?_) (Ev.now _)⟩
      rw [laws_szInstrS.l0, if_pos (by omega), if_pos (by omega), hr]
      unfold laws_szInstr.f
      rw [wrap_ok (by omega) (by omega), if_pos h]
      rfl
    · obtain ⟨z, hz⟩ := ih (i + 1) (n - (xs[i]'(by omega)).f6.size) (by omega) (by omega) (by omega)
      refine ⟨z, Ev.step (fun k => ?_) hz⟩
      rw [laws_szInstrS.l0, if_pos (by omega), if_pos (by omega), hr]
      unfold laws_szInstr.f
      rw [wrap_ok (i := n - (xs[i]'(by omega)).f6.size) (by omega) (by omega), if_neg h, Option.bind_some, if_neg h, wrap_ok (by omega) (by omega)]
      rfl
theorem sz_ev (xs : List S33) (a b c d : Int) (hl : xs.length ≤ maxLen) (hw : ∀ x ∈ xs, W33 x) : ∃ z, Ev (fun k => laws_szBlock.f k xs a b c d 1048576) z ∧ (0 ≤ z → xs.length ≤ 1048576) := by
  unfold maxLen at hl
  unfold laws_szBlock.f laws_szInstrS.f
  rw [wrap_ok (i := 1048576 - (xs.length : Int)) (by omega) (by omega)]
  by_cases h : 1048576 - (xs.length : Int) < 0
  · refine ⟨-1, ?_, fun h => by omega⟩
    simp only [if_pos h, Option.bind_some]
    exact Ev.ite_pos (by omega) (Ev.now _)
  · simp only [if_neg h]
    obtain ⟨z, hz⟩ := sz_loop xs hw hl xs.length 0 (1048576 - (xs.length : Int)) (by omega) (by omega) (by omega)
    by_cases h2 : z < 0
    · exact ⟨-1, Ev.bind hz (Ev.ite_pos h2 (Ev.now _)), fun h => by omega⟩
    · exact ⟨z, Ev.bind hz (Ev.ite_neg h2 (Ev.now _)), fun _ => by omega⟩
def conv (x : S33) : S36 := ⟨x.f0, x.f1, x.f2, x.f3, x.f4, x.f5, x.f6⟩
theorem to_loop (xs : List S33) (hn : xs.length ≤ 1048576) (d : Nat) : ∀ i : Nat, i + d = xs.length → Ev (fun k => laws_toInstrS.l0 k xs ((xs.take i).map conv ++ List.replicate (xs.length - i) z36) (i : Int)) (xs.map conv) := by
  induction d with
  | zero =>
    intro i hi
    refine Ev.step (fun k => by rw [laws_toInstrS.l0, if_neg (by omega)]) ?_
    rw [List.take_of_length_le (by omega), show xs.length - i = 0 by omega, List.replicate_zero, List.append_nil]
    exact Ev.now _
  | succ d ih =>
    intro i hi
    have hr : rd_T33 xs (i : Int) = xs[i]'(by omega) := by simp [rd_T33, List.getD_eq_getElem?_getD, List.getElem?_eq_getElem (show i < xs.length by omega)]
    have hf := fill_length xs conv z36 i (by omega)
    have hs := set_fill xs conv z36 i (by omega)
    refine Ev.step (fun k => ?_) (ih (i + 1) (by omega))
    rw [laws_toInstrS.l0, if_pos (by omega), if_pos (by omega), hr]
    unfold laws_toInstr.f
    rw [Option.bind_some, if_pos (by omega), wrap_ok (by omega) (by omega), Int.toNat_natCast, ← hs]
    rfl
theorem to_ev (xs : List S33) (a b c d : Int) (hn : xs.length ≤ 1048576) : Ev (fun k => laws_toBlock.f k xs a b c d) (xs.map conv, a, b, c, d) := by
  refine Ev.bind (f := fun _ t => some (t, a, b, c, d)) (a := xs.map conv) ?_ (Ev.now _)
  refine Ev.congr (fun k => by rw [laws_toInstrS.f, if_pos (by omega), if_pos (by omega), Int.toNat_natCast]) ?_
  have h := to_loop xs hn xs.length 0 (by omega)
  simpa using h
theorem eqIns_loop (xs : List S36) (hn : xs.length ≤ 1048576) (d : Nat) : ∀ i : Nat, i + d = xs.length → Ev (fun k => laws_eqInstrS.l0 k xs xs (i : Int)) true := by
  induction d with
  | zero =>
    intro i hi
    exact Ev.step (fun k => by rw [laws_eqInstrS.l0, if_neg (by omega)]) (Ev.now _)
  | succ d ih =>
    intro i hi
    refine Ev.step (fun k => ?_) (ih (i + 1) (by omega))
    rw [laws_eqInstrS.l0, if_pos (by omega), if_pos (by omega), if_pos (by omega)]
    unfold laws_eqInstr.f
    simp only [if_true, Option.bind_some]
    rw [wrap_ok (by omega) (by omega)]
    rfl
theorem eqBlock_ev (xs : List S36) (a b c d : Int) (hn : xs.length ≤ 1048576) : Ev (fun k => laws_eqBlock.f k xs a b c d xs a b c d) true := by
  unfold laws_eqBlock.f laws_eqInstrS.f
  simp only [if_true]
  exact Ev.bind (eqIns_loop xs hn xs.length 0 (by omega)) (Ev.ite_pos rfl (Ev.now _))
theorem mt_ev (n : Int) (hn : n ≤ 9223372036854775807) : ∃ r, Ev (fun k => laws_markText.f k n) r := markText_ev laws_markText.f laws_markText.l0 (fun _ _ => rfl) (fun _ _ _ => rfl) n hn
/-- The six numbers of one element, marked. -/
def six (x0 : List S36) (i : Nat) (m : Int) : List S36 :=
  let y1 := x0.set i (⟨m, (rd_T36 x0 i).f1, (rd_T36 x0 i).f2, (rd_T36 x0 i).f3, (rd_T36 x0 i).f4, (rd_T36 x0 i).f5, (rd_T36 x0 i).f6⟩ : S36)
  let y2 := y1.set i (⟨(rd_T36 y1 i).f0, m + 1, (rd_T36 y1 i).f2, (rd_T36 y1 i).f3, (rd_T36 y1 i).f4, (rd_T36 y1 i).f5, (rd_T36 y1 i).f6⟩ : S36)
  let y3 := y2.set i (⟨(rd_T36 y2 i).f0, (rd_T36 y2 i).f1, m + 1 + 1, (rd_T36 y2 i).f3, (rd_T36 y2 i).f4, (rd_T36 y2 i).f5, (rd_T36 y2 i).f6⟩ : S36)
  let y4 := y3.set i (⟨(rd_T36 y3 i).f0, (rd_T36 y3 i).f1, (rd_T36 y3 i).f2, m + 1 + 1 + 1, (rd_T36 y3 i).f4, (rd_T36 y3 i).f5, (rd_T36 y3 i).f6⟩ : S36)
  let y5 := y4.set i (⟨(rd_T36 y4 i).f0, (rd_T36 y4 i).f1, (rd_T36 y4 i).f2, (rd_T36 y4 i).f3, m + 1 + 1 + 1 + 1, (rd_T36 y4 i).f5, (rd_T36 y4 i).f6⟩ : S36)
  y5.set i (⟨(rd_T36 y5 i).f0, (rd_T36 y5 i).f1, (rd_T36 y5 i).f2, (rd_T36 y5 i).f3, (rd_T36 y5 i).f4, m + 1 + 1 + 1 + 1 + 1, (rd_T36 y5 i).f6⟩ : S36)
theorem six_length (x0 : List S36) (i : Nat) (m : Int) : (six x0 i m).length = x0.length := by simp [six]
theorem mark_loop (d : Nat) : ∀ (xs : List S36) (i : Nat) (m : Int), i + d = xs.length → xs.length ≤ 1048576 → 0 ≤ m → m + 7 * d < 4611686018427387904 → ∃ r, Ev (fun k => laws_markInstrS.l0 k xs m (i : Int)) (m + 7 * d, r) := by
  induction d with
  | zero =>
    intro xs i m hi hn h0 hm
    refine ⟨xs, Ev.step (fun k => by rw [laws_markInstrS.l0, if_neg (by omega)]) ?_⟩
    rw [show m + 7 * ((0 : Nat) : Int) = m by omega]
    exact Ev.now _
  | succ d ih =>
    intro xs i m hi hn h0 hm
    obtain ⟨t, ht⟩ := mt_ev (m + 1 + 1 + 1 + 1 + 1 + 1) (by omega)
    have key : ∀ ys : List S36, ys.length = xs.length → ∃ r, Ev (fun k => (laws_markText.f k (m + 1 + 1 + 1 + 1 + 1 + 1)).bind fun t_ => laws_markInstrS.l0 k (ys.set i (⟨(rd_T36 ys i).f0, (rd_T36 ys i).f1, (rd_T36 ys i).f2, (rd_T36 ys i).f3, (rd_T36 ys i).f4, (rd_T36 ys i).f5, t_⟩ : S36)) (m + 1 + 1 + 1 + 1 + 1 + 1 + 1) ((i + 1 : Nat) : Int)) (m + 7 * ((d + 1 : Nat) : Int), r) := by
      intro ys hy
      obtain ⟨r, hr⟩ := ih (ys.set i (⟨(rd_T36 ys i).f0, (rd_T36 ys i).f1, (rd_T36 ys i).f2, (rd_T36 ys i).f3, (rd_T36 ys i).f4, (rd_T36 ys i).f5, t⟩ : S36)) (i + 1) (m + 1 + 1 + 1 + 1 + 1 + 1 + 1) (by simp; omega) (by simp; omega) (by omega) (by omega)
      rw [show m + 1 + 1 + 1 + 1 + 1 + 1 + 1 + 7 * (d : Int) = m + 7 * ((d + 1 : Nat) : Int) by omega] at hr
      exact ⟨r, Ev.bind ht hr⟩
    obtain ⟨r, hr⟩ := key (six xs i m) (six_length xs i m)
    clear key
    have h1 : (i : Int) < (xs.length : Int) := by omega
    have h2 : 0 ≤ (i : Int) := by omega
    obtain ⟨w1, w2, w3, w4, w5, w6, w7, wi⟩ : (wrap64 (m + 1) = m + 1) ∧ (wrap64 (m + 1 + 1) = m + 1 + 1) ∧ (wrap64 (m + 1 + 1 + 1) = m + 1 + 1 + 1) ∧ (wrap64 (m + 1 + 1 + 1 + 1) = m + 1 + 1 + 1 + 1) ∧ (wrap64 (m + 1 + 1 + 1 + 1 + 1) = m + 1 + 1 + 1 + 1 + 1) ∧ (wrap64 (m + 1 + 1 + 1 + 1 + 1 + 1) = m + 1 + 1 + 1 + 1 + 1 + 1) ∧ (wrap64 (m + 1 + 1 + 1 + 1 + 1 + 1 + 1) = m + 1 + 1 + 1 + 1 + 1 + 1 + 1) ∧ wrap64 ((i : Int) + 1) = ((i + 1 : Nat) : Int) :=
      ⟨wrap_ok (by omega) (by omega), wrap_ok (by omega) (by omega), wrap_ok (by omega) (by omega), wrap_ok (by omega) (by omega), wrap_ok (by omega) (by omega), wrap_ok (by omega) (by omega), wrap_ok (by omega) (by omega), wrap_ok (by omega) (by omega)⟩
    refine ⟨r, Ev.step (fun k => ?_) hr⟩
    rw [laws_markInstrS.l0, if_pos h1, if_pos h2]
    simp only [Option.bind_some, Int.toNat_natCast, w1, w2, w3, w4, w5, w6, w7, wi]
    rfl
theorem mark_ev (xs : List S36) (a b c d : Int) (hn : xs.length ≤ 1048576) : ∃ r, Ev (fun k => laws_markBlock.f k xs a b c d 1) (1 + 7 * (xs.length : Int), r) := by
  obtain ⟨r, hr⟩ := mark_loop xs.length xs 0 1 (by omega) hn (by omega) (by omega)
  have hf : Ev (fun k => laws_markInstrS.f k xs 1) (1 + 7 * (xs.length : Int), r) := hr
  refine ⟨r, ?_⟩
  show Ev (fun k => (laws_markInstrS.f k xs 1).bind fun bt => some (bt.1, bt.2)) (1 + 7 * (xs.length : Int), r)
  exact Ev.bind hf (Ev.now _)
def next (j t e : Int) : List Int := if j = 0 then [t] else if j = 1 then [t, e] else []
theorem next_length (j t e : Int) : (next j t e).length ≤ 2 := by
  unfold next
  repeat' split
  all_goals simp
theorem spec_some (xs : List S36) (j a t e : Int) : spec_Next.f xs j a t e = some (next j t e) := by
  unfold spec_Next.f spec_l05Next.f next
  repeat' split
  all_goals rfl
theorem impl_some (xs : List S36) (j a t e : Int) : impl_Next.f xs j a t e = some (next j t e) := by
  unfold impl_Next.f impl_nextOf.f next
  repeat' split
  all_goals rfl
theorem ints_ev (l m : List Int) (hl : l.length ≤ 1048576) : Ev (fun k => laws_eqIntS.f k l m) (decide (l = m)) := eqInts_ev laws_eqIntS.f laws_eqIntS.l0 (fun _ _ _ => rfl) (fun _ _ _ _ => rfl) l m (by omega)
theorem marks_ev (l : List Int) (hl : l.length ≤ 1048576) : Ev (fun k => laws_markIntS.f k l 1) (1 + l.length, seqFrom 1 l.length) := markInts_ev laws_markIntS.f laws_markIntS.l0 (fun _ _ _ => rfl) (fun _ _ _ _ => rfl) l 1 (by omega) (by omega)
theorem held_ev (n : Nat) (hl : n ≤ 1048576) : Ev (fun k => laws_heldIntS.f k (seqFrom 1 n) 1) (1 + n) := heldInts_ev laws_heldIntS.f laws_heldIntS.l0 (fun _ _ _ => rfl) (fun _ _ _ _ => rfl) 1 n (by omega) (by omega)
end Go.Proofs.Ythbonkpmaomhoaa.Pure.FnExactNext_
namespace Go.Proofs.Ythbonkpmaomhoaa.Pure
open Go.RowKit Go.Proofs.Ythbonkpmaomhoaa.P Go.Proofs.YthbonkpmaomhoaaW.PrintWords Go.Proofs.YthbonkpmaomhoaaW.PrintLast Go.Proofs.Ythbonkpmaomhoaa.Aux Go.Proofs.Ythbonkpmaomhoaa.Opens
theorem FnExactNext : ∀ (l0_0 : List (S33)) (a0_1 : Int) (a0_2 : Int) (a0_3 : Int) (a0_4 : Int), (l0_0.length ≤ maxLen ∧ ∀ x_ ∈ l0_0, W33 x_) → (Lit.int .i64 a0_1).wf = true → (Lit.int .i64 a0_2).wf = true → (Lit.int .i64 a0_3).wf = true → (Lit.int .i64 a0_4).wf = true → ∃ k, laws_FnExactNext.f k l0_0 a0_1 a0_2 a0_3 a0_4 = some true := by
  intro xs j a t e hxs _ _ _ _
  apply Ev.rounds (r := true)
  unfold laws_FnExactNext.f
  obtain ⟨z, hz, hz1⟩ := FnExactNext_.sz_ev xs j a t e hxs.1 hxs.2
  refine Ev.bind hz ?_
  by_cases h1 : z < 0
  · exact Ev.ite_pos h1 (Ev.now _)
  have hl := hz1 (by omega)
  have hn := FnExactNext_.next_length j t e
  have tg := FnExactNext_.to_ev xs j a t e hl
  have hm : (xs.map FnExactNext_.conv).length ≤ 1048576 := by simpa using hl
  obtain ⟨r, hr⟩ := FnExactNext_.mark_ev (xs.map FnExactNext_.conv) j a t e hm
  have eq1 := FnExactNext_.ints_ev (FnExactNext_.next j t e) (FnExactNext_.next j t e) (by omega)
  have held := FnExactNext_.held_ev (FnExactNext_.next j t e).length (by omega)
  refine Ev.ite_neg h1 (Ev.bind tg (Ev.const (FnExactNext_.spec_some _ _ _ _ _) (Ev.bind tg (Ev.const (FnExactNext_.impl_some _ _ _ _ _) (Ev.bind eq1 ?_)))))
  refine Ev.ite_pos (by simp) (Ev.bind tg (Ev.bind (FnExactNext_.eqBlock_ev _ _ _ _ _ hm) ?_))
  refine Ev.ite_pos rfl (Ev.bind hr (Ev.ite_neg (by simp only; omega) (Ev.bind eq1 ?_)))
  refine Ev.ite_pos (by simp) (Ev.bind (FnExactNext_.marks_ev (FnExactNext_.next j t e) (by omega)) (Ev.bind held (Ev.ite_neg (by omega) (Ev.ite_pos rfl ?_))))
  refine Ev.bind tg (Ev.const (FnExactNext_.impl_some _ _ _ _ _) (Ev.bind eq1 (Ev.ite_pos (by simp) (Ev.bind held ?_))))
  exact Ev.ite_neg (by omega) (Ev.ite_pos rfl (Ev.now _))
end Go.Proofs.Ythbonkpmaomhoaa.Pure
