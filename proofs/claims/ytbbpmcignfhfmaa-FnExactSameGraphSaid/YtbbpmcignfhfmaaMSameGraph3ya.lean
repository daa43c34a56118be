/- The plain side of graphs: how big they are, their copies, that they are alike to themselves. Conditions: as each lemma says. -/
import Derived.Test.YtbbpmcignfhfmaaMSameGraph0a
import Derived.Test.YtbbpmcignfhfmaaMSameGraph0b
import Derived.Test.YtbbpmcignfhfmaaMSameGraph3a
import Derived.Test.YtbbpmcignfhfmaaMSameGraph0ya
namespace Go.Proofs.Ytbbpmcignfhfmaa.Gr
open Go.RowKit Go.Proofs.Ytbbpmcignfhfmaa.P Go.Proofs.YtbbpmcignfhfmaaW.PrintWords Go.Proofs.YtbbpmcignfhfmaaW.PrintLast Go.Proofs.Ytbbpmcignfhfmaa.Aux Go.Proofs.Ytbbpmcignfhfmaa.Opens
set_option linter.unusedVariables false
set_option linter.unusedSimpArgs false
theorem rdLI (xs : List S36) (i : Nat) (h : i < xs.length) : rd_T36 xs (i : Int) = xs[i] := by simp [rd_T36, List.getD_eq_getElem?_getD, List.getElem?_eq_getElem h]
theorem rdII (xs : List S39) (i : Nat) (h : i < xs.length) : rd_T39 xs (i : Int) = xs[i] := by simp [rd_T39, List.getD_eq_getElem?_getD, List.getElem?_eq_getElem h]
theorem rdLB (xs : List S44) (i : Nat) (h : i < xs.length) : rd_T44 xs (i : Int) = xs[i] := by simp [rd_T44, List.getD_eq_getElem?_getD, List.getElem?_eq_getElem h]
theorem rdIB (xs : List S49) (i : Nat) (h : i < xs.length) : rd_T49 xs (i : Int) = xs[i] := by simp [rd_T49, List.getD_eq_getElem?_getD, List.getElem?_eq_getElem h]
/-- What is known of a list of steps that came in. -/
def OkC (xs : List S36) : Prop := xs.length ≤ maxLen ∧ ∀ x ∈ xs, W36 x
theorem szI_loop (xs : List S36) (hw : ∀ x ∈ xs, W36 x) (hn : xs.length ≤ 9223372036854775807) (d : Nat) : ∀ (i : Nat) (n : Int), i + d = xs.length → 0 ≤ n → n ≤ 1048576 → ∃ z, Ev (fun k => laws_szInstrS.l0 k xs n (i : Int)) z ∧ z ≤ n := by
  induction d with
  | zero =>
    intro i n hi h0 h1
    exact ⟨_, Ev.step (fun k => by rw [laws_szInstrS.l0, if_neg (by omega)]) (Ev.now _), Int.le_refl _⟩
  | succ d ih =>
    intro i n hi h0 h1
    have hr := rdLI xs i (by omega)
    have hs := (hw _ (List.getElem_mem (show i < xs.length by omega))).2.2.2.2.2.2
    unfold maxLen at hs
    by_cases h : n - (xs[i]'(by omega)).f6.size < 0
    · refine ⟨-1, Ev.step (f := fun _ => some (-1)) (fun k => ?_) (Ev.now _), by omega⟩
      rw [laws_szInstrS.l0, if_pos (by omega), if_pos (by omega), hr]
      unfold laws_szInstr.f
      rw [wrap_ok (by omega) (by omega), if_pos h]
      rfl
    · obtain ⟨z, hz, hle⟩ := ih (i + 1) (n - (xs[i]'(by omega)).f6.size) (by omega) (by omega) (by omega)
      refine ⟨z, Ev.step (fun k => ?_) hz, by omega⟩
      rw [laws_szInstrS.l0, if_pos (by omega), if_pos (by omega), hr]
      unfold laws_szInstr.f
      rw [wrap_ok (i := n - (xs[i]'(by omega)).f6.size) (by omega) (by omega), if_neg h, Option.bind_some, if_neg h, wrap_ok (by omega) (by omega)]
      rfl
theorem szBlock_ev (b : S44) (hb : OkC b.f0) (n : Int) (h0 : 0 ≤ n) (h1 : n ≤ 1048576) : ∃ z, Ev (fun k => laws_szBlock.f k b.f0 b.f1 b.f2 b.f3 b.f4 n) z ∧ z ≤ n ∧ (0 ≤ z → (b.f0.length : Int) ≤ n - z) := by
  have hl := hb.1
  unfold maxLen at hl
  unfold laws_szBlock.f laws_szInstrS.f
  rw [wrap_ok (i := n - (b.f0.length : Int)) (by omega) (by omega)]
  by_cases h : n - (b.f0.length : Int) < 0
  · refine ⟨-1, ?_, by omega, fun h => by omega⟩
    simp only [if_pos h, Option.bind_some]
    exact Ev.ite_pos (by omega) (Ev.now _)
  · simp only [if_neg h]
    obtain ⟨z, hz, hle⟩ := szI_loop b.f0 hb.2 hl b.f0.length 0 (n - (b.f0.length : Int)) (by omega) (by omega) (by omega)
    by_cases h2 : z < 0
    · exact ⟨-1, Ev.bind hz (Ev.ite_pos h2 (Ev.now _)), by omega, fun h => by omega⟩
    · exact ⟨z, Ev.bind hz (Ev.ite_neg h2 (Ev.now _)), by omega, fun _ => by omega⟩
/-- How many steps a list of blocks has. -/
def steps : List S44 → Nat
  | [] => 0
  | b :: bs => b.f0.length + steps bs
theorem steps_mem (bs : List S44) (b : S44) (h : b ∈ bs) : b.f0.length ≤ steps bs := by
  induction bs with
  | nil => cases h
  | cons c cs ih =>
    rcases List.mem_cons.1 h with rfl | h
    · simp [steps]
    · have := ih h
      simp [steps]
      omega
theorem szB_loop (bs : List S44) (hw : ∀ b ∈ bs, OkC b.f0) (hn : bs.length ≤ 9223372036854775807) (d : Nat) : ∀ (i : Nat) (n : Int), i + d = bs.length → 0 ≤ n → n ≤ 1048576 →
    ∃ z, Ev (fun k => laws_szBlockS.l0 k bs n (i : Int)) z ∧ z ≤ n ∧ (0 ≤ z → (steps (bs.drop i) : Int) ≤ n - z) := by
  induction d with
  | zero =>
    intro i n hi h0 h1
    refine ⟨_, Ev.step (fun k => by rw [laws_szBlockS.l0, if_neg (by omega)]) (Ev.now _), Int.le_refl _, fun _ => ?_⟩
    rw [List.drop_eq_nil_of_le (by omega)]
    simp [steps]
  | succ d ih =>
    intro i n hi h0 h1
    have hr := rdLB bs i (by omega)
    have hd : bs.drop i = bs[i]'(by omega) :: bs.drop (i + 1) := List.drop_eq_getElem_cons (by omega)
    obtain ⟨y, hy, hy1, hy2⟩ := szBlock_ev (bs[i]'(by omega)) (hw _ (List.getElem_mem (show i < bs.length by omega))) n h0 h1
    by_cases h : y < 0
    · refine ⟨-1, Ev.step (fun k => ?_) (Ev.bind hy (f := fun k t => if t < 0 then some (-1) else laws_szBlockS.l0 k bs t ((i + 1 : Nat) : Int)) (Ev.ite_pos h (Ev.now _))), by omega, fun h => by omega⟩
      rw [laws_szBlockS.l0, if_pos (by omega), if_pos (by omega), hr, wrap_ok (by omega) (by omega)]
      rfl
    · obtain ⟨z, hz, hle, hs⟩ := ih (i + 1) y (by omega) (by omega) (by omega)
      refine ⟨z, Ev.step (fun k => ?_) (Ev.bind hy (f := fun k t => if t < 0 then some (-1) else laws_szBlockS.l0 k bs t ((i + 1 : Nat) : Int)) (Ev.ite_neg h hz)), by omega, fun h => ?_⟩
      · rw [laws_szBlockS.l0, if_pos (by omega), if_pos (by omega), hr, wrap_ok (by omega) (by omega)]
        rfl
      · have := hs h
        have := hy2 (by omega)
        rw [hd]
        simp only [steps]
        omega
/-- What the law knows of a graph that is small enough. -/
structure Small (zs : List Int) (bs : List S44) : Prop where
  sizes : zs.length ≤ 1048576
  blocks : bs.length ≤ 1048576
  steps : steps bs ≤ 1048576
theorem Small.code {zs : List Int} {bs : List S44} (h : Small zs bs) : ∀ b ∈ bs, b.f0.length ≤ 1048576 := fun b hb => Nat.le_trans (steps_mem bs b hb) h.steps
theorem sz_ev (zs : List Int) (a b c : Int) (bs : List S44) (hz : zs.length ≤ maxLen) (hb : bs.length ≤ maxLen ∧ ∀ x ∈ bs, W44 x) (n : Int) (h0 : 0 ≤ n) (h1 : n ≤ 1048576) :
    ∃ z, Ev (fun k => laws_szGraph.f k zs a b c bs n) z ∧ z ≤ n ∧ (0 ≤ z → Small zs bs) := by
  have hbl := hb.1
  unfold maxLen at hz hbl
  unfold laws_szGraph.f laws_szIntS.f
  rw [wrap_ok (i := n - (zs.length : Int)) (by omega) (by omega)]
  by_cases h : n - (zs.length : Int) < 0
  · refine ⟨-1, ?_, by omega, fun h => by omega⟩
    simp only [if_pos h, Option.bind_some]
    exact Ev.ite_pos (by omega) (Ev.now _)
  · simp only [if_neg h, Option.bind_some]
    unfold laws_szBlockS.f
    rw [wrap_ok (i := n - (zs.length : Int) - (bs.length : Int)) (by omega) (by omega)]
    by_cases h2 : n - (zs.length : Int) - (bs.length : Int) < 0
    · simp only [if_pos h2, Option.bind_some]
      exact ⟨-1, Ev.ite_pos (by omega) (Ev.now _), by omega, fun h => by omega⟩
    · simp only [if_neg h2]
      obtain ⟨z, hz1, hz2, hz3⟩ := szB_loop bs (fun x hx => (hb.2 x hx).1) hbl bs.length 0 (n - (zs.length : Int) - (bs.length : Int)) (by omega) (by omega) (by omega)
      by_cases h3 : z < 0
      · exact ⟨-1, Ev.bind hz1 (Ev.ite_pos h3 (Ev.now _)), by omega, fun h => by omega⟩
      · refine ⟨z, Ev.bind hz1 (Ev.ite_neg h3 (Ev.now _)), by omega, fun h => ?_⟩
        have h4 := hz3 (by omega)
        rw [List.drop_zero] at h4
        exact ⟨by omega, by omega, by omega⟩
def conv (x : S36) : S39 := ⟨x.f0, x.f1, x.f2, x.f3, x.f4, x.f5, x.f6⟩
def convB (b : S44) : S49 := ⟨b.f0.map conv, b.f1, b.f2, b.f3, b.f4⟩
theorem toI_loop (xs : List S36) (hn : xs.length ≤ 1048576) (d : Nat) : ∀ i : Nat, i + d = xs.length → Ev (fun k => laws_toInstrS.l0 k xs ((xs.take i).map conv ++ List.replicate (xs.length - i) z39) (i : Int)) (xs.map conv) := by
  induction d with
  | zero =>
    intro i hi
    refine Ev.step (fun k => by rw [laws_toInstrS.l0, if_neg (by omega)]) ?_
    rw [List.take_of_length_le (by omega), show xs.length - i = 0 by omega, List.replicate_zero, List.append_nil]
    exact Ev.now _
  | succ d ih =>
    intro i hi
    have hr := rdLI xs i (by omega)
    have hf := fill_length xs conv z39 i (by omega)
    have hs := set_fill xs conv z39 i (by omega)
    refine Ev.step (fun k => ?_) (ih (i + 1) (by omega))
    rw [laws_toInstrS.l0, if_pos (by omega), if_pos (by omega), hr]
    unfold laws_toInstr.f
    rw [Option.bind_some, if_pos (by omega), wrap_ok (by omega) (by omega), Int.toNat_natCast, ← hs]
    rfl
theorem toI_ev (xs : List S36) (hn : xs.length ≤ 1048576) : Ev (fun k => laws_toInstrS.f k xs) (xs.map conv) := by
  refine Ev.congr (fun k => by rw [laws_toInstrS.f, if_pos (by omega), if_pos (by omega), Int.toNat_natCast]) ?_
  have h := toI_loop xs hn xs.length 0 (by omega)
  simpa using h
theorem toBlock_ev (b : S44) (hn : b.f0.length ≤ 1048576) : Ev (fun k => laws_toBlock.f k b.f0 b.f1 b.f2 b.f3 b.f4) ((convB b).f0, (convB b).f1, (convB b).f2, (convB b).f3, (convB b).f4) :=
  Ev.bind (f := fun _ t => some (t, b.f1, b.f2, b.f3, b.f4)) (toI_ev b.f0 hn) (Ev.now _)
theorem toB_loop (bs : List S44) (hn : bs.length ≤ 1048576) (hc : ∀ b ∈ bs, b.f0.length ≤ 1048576) (d : Nat) : ∀ i : Nat, i + d = bs.length → Ev (fun k => laws_toBlockS.l0 k bs ((bs.take i).map convB ++ List.replicate (bs.length - i) z49) (i : Int)) (bs.map convB) := by
  induction d with
  | zero =>
    intro i hi
    refine Ev.step (fun k => by rw [laws_toBlockS.l0, if_neg (by omega)]) ?_
    rw [List.take_of_length_le (by omega), show bs.length - i = 0 by omega, List.replicate_zero, List.append_nil]
    exact Ev.now _
  | succ d ih =>
    intro i hi
    have hr := rdLB bs i (by omega)
    have hf := fill_length bs convB z49 i (by omega)
    have hs := set_fill bs convB z49 i (by omega)
    have ht := toBlock_ev (bs[i]'(by omega)) (hc _ (List.getElem_mem (show i < bs.length by omega)))
    have hi' := ih (i + 1) (by omega)
    rw [← hs] at hi'
    refine Ev.step (fun k => ?_) (Ev.bind ht (f := fun k t => laws_toBlockS.l0 k bs (((bs.take i).map convB ++ List.replicate (bs.length - i) z49).set i (⟨t.1, t.2.1, t.2.2.1, t.2.2.2.1, t.2.2.2.2⟩ : S49)) ((i + 1 : Nat) : Int)) hi')
    rw [laws_toBlockS.l0, if_pos (by omega), if_pos (by omega), hr]
    simp only [if_pos (show (i : Int) < ((((bs.take i).map convB ++ List.replicate (bs.length - i) z49).length : Nat) : Int) by omega), wrap_ok (i := (i : Int) + 1) (by omega) (by omega), Int.toNat_natCast]
    rfl
theorem toB_ev (bs : List S44) (hn : bs.length ≤ 1048576) (hc : ∀ b ∈ bs, b.f0.length ≤ 1048576) : Ev (fun k => laws_toBlockS.f k bs) (bs.map convB) := by
  refine Ev.congr (fun k => by rw [laws_toBlockS.f, if_pos (by omega), if_pos (by omega), Int.toNat_natCast]) ?_
  have h := toB_loop bs hn hc bs.length 0 (by omega)
  simpa using h
theorem ints_ev (l m : List Int) (hl : l.length ≤ 1048576) : Ev (fun k => laws_eqIntS.f k l m) (decide (l = m)) := eqInts_ev laws_eqIntS.f laws_eqIntS.l0 (fun _ _ _ => rfl) (fun _ _ _ _ => rfl) l m (by omega)
theorem to_ev (zs : List Int) (a b c : Int) (bs : List S44) (h : Small zs bs) : Ev (fun k => laws_toGraph.f k zs a b c bs) (zs, a, b, c, bs.map convB) :=
  Ev.bind (copyInts_ev laws_toIntS.f laws_toIntS.l0 (fun _ _ => rfl) (fun _ _ _ _ => rfl) zs (by have := h.sizes; omega)) (Ev.bind (f := fun _ t => some (zs, a, b, c, t)) (toB_ev bs h.blocks h.code) (Ev.now _))
theorem eqI_loop (xs : List S39) (hn : xs.length ≤ 4294967296) (d : Nat) : ∀ i : Nat, i + d = xs.length → Ev (fun k => laws_eqInstrS.l0 k xs xs (i : Int)) true := by
  induction d with
  | zero =>
    intro i hi
    exact Ev.step (fun k => by rw [laws_eqInstrS.l0, if_neg (by omega)]) (Ev.now _)
  | succ d ih =>
    intro i hi
    refine Ev.step (fun k => ?_) (ih (i + 1) (by omega))
    rw [laws_eqInstrS.l0, if_pos (by omega), if_pos (by omega), if_pos (by omega)]
    unfold laws_eqInstr.f
    simp only [if_true, Option.bind_some]
    rw [wrap_ok (by omega) (by omega)]
    rfl
theorem eqBlock_ev (xs : List S39) (a b c d : Int) (hn : xs.length ≤ 4294967296) : Ev (fun k => laws_eqBlock.f k xs a b c d xs a b c d) true := by
  unfold laws_eqBlock.f laws_eqInstrS.f
  simp only [if_true]
  exact Ev.bind (eqI_loop xs hn xs.length 0 (by omega)) (Ev.ite_pos rfl (Ev.now _))
theorem eqB_loop (bs : List S49) (hn : bs.length ≤ 4294967296) (hc : ∀ b ∈ bs, b.f0.length ≤ 4294967296) (d : Nat) : ∀ i : Nat, i + d = bs.length → Ev (fun k => laws_eqBlockS.l0 k bs bs (i : Int)) true := by
  induction d with
  | zero =>
    intro i hi
    exact Ev.step (fun k => by rw [laws_eqBlockS.l0, if_neg (by omega)]) (Ev.now _)
  | succ d ih =>
    intro i hi
    have hr := rdIB bs i (by omega)
    refine Ev.step (fun k => ?_) (Ev.bind (eqBlock_ev (bs[i]'(by omega)).f0 (bs[i]'(by omega)).f1 (bs[i]'(by omega)).f2 (bs[i]'(by omega)).f3 (bs[i]'(by omega)).f4 (hc _ (List.getElem_mem (show i < bs.length by omega)))) (f := fun k t => if t = true then laws_eqBlockS.l0 k bs bs ((i + 1 : Nat) : Int) else some false) (Ev.ite_pos rfl (ih (i + 1) (by omega))))
    rw [laws_eqBlockS.l0, if_pos (by omega), if_pos (by omega), if_pos (by omega), hr, wrap_ok (by omega) (by omega)]
    rfl
theorem eqG_ev (zs : List Int) (a b c : Int) (bs : List S49) (hz : zs.length ≤ 1048576) (hn : bs.length ≤ 4294967296) (hc : ∀ b ∈ bs, b.f0.length ≤ 4294967296) : Ev (fun k => laws_eqGraph.f k zs a b c bs zs a b c bs) true := by
  unfold laws_eqGraph.f laws_eqBlockS.f
  simp only [if_true]
  exact Ev.bind (ints_ev zs zs hz) (Ev.ite_pos (by simp) (Ev.bind (eqB_loop bs hn hc bs.length 0 (by omega)) (Ev.ite_pos rfl (Ev.now _))))
theorem conv_code {zs : List Int} {bs : List S44} (h : Small zs bs) : ∀ b ∈ bs.map convB, b.f0.length ≤ 1048576 := by
  intro b hb
  obtain ⟨x, hx, rfl⟩ := List.mem_map.1 hb
  have := h.code x hx
  simpa [convB] using this
theorem eq_ev (zs : List Int) (a b c : Int) (bs : List S44) (h : Small zs bs) : Ev (fun k => laws_eqGraph.f k zs a b c (bs.map convB) zs a b c (bs.map convB)) true :=
  eqG_ev zs a b c _ h.sizes (by have := h.blocks; simp; omega) (fun b hb => by have := conv_code h b hb; omega)
end Go.Proofs.Ytbbpmcignfhfmaa.Gr
