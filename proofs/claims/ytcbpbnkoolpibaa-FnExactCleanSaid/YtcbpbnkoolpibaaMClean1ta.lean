/- Marks of a graph with what they leave behind, and that it is held. No program walk. Conditions: not too many. -/
import Derived.Test.YtcbpbnkoolpibaaMCleanxGmarkc
import Derived.Test.YtcbpbnkoolpibaaMClean0ta
import Derived.Test.YtcbpbnkoolpibaaMClean0d
set_option linter.unusedVariables false
set_option linter.unusedSimpArgs false
namespace Go.Proofs.Ytcbpbnkoolpibaa.Gr
open RowKit P YtcbpbnkoolpibaaW.wA YtcbpbnkoolpibaaW.wB Aux
def mkI (a : Int) (t : ByteArray) : S57 := ⟨a, a + 1, a + 1 + 1, a + 1 + 1 + 1, a + 1 + 1 + 1 + 1, a + 1 + 1 + 1 + 1 + 1, t⟩
theorem wraps7 (a : Int) (h0 : 0 ≤ a) (h1 : a ≤ 4611686018427387904) : wrap64 (a + 1) = a + 1 ∧ wrap64 (a + 1 + 1) = a + 1 + 1 ∧ wrap64 (a + 1 + 1 + 1) = a + 1 + 1 + 1 ∧ wrap64 (a + 1 + 1 + 1 + 1) = a + 1 + 1 + 1 + 1 ∧ wrap64 (a + 1 + 1 + 1 + 1 + 1) = a + 1 + 1 + 1 + 1 + 1 ∧ wrap64 (a + 1 + 1 + 1 + 1 + 1 + 1) = a + 1 + 1 + 1 + 1 + 1 + 1 ∧ wrap64 (a + 1 + 1 + 1 + 1 + 1 + 1 + 1) = a + 7 := by
  refine ⟨wrap_ok (by omega) (by omega), wrap_ok (by omega) (by omega), wrap_ok (by omega) (by omega), wrap_ok (by omega) (by omega), wrap_ok (by omega) (by omega), wrap_ok (by omega) (by omega), ?_⟩
  rw [wrap_ok (by omega) (by omega)]
  omega
theorem wrapN (i : Nat) (h : i ≤ 4611686018427387904) : wrap64 ((i : Int) + 1) = ((i + 1 : Nat) : Int) := by
  rw [wrap_ok (by omega) (by omega)]
  omega
theorem rdSetI (xs : List S57) (i : Nat) (h : i < xs.length) (v : S57) : r57 (xs.set i v) (i : Int) = v := by
  rw [rdII _ i (by rw [List.length_set]; exact h), List.getElem_set_self]
theorem markI_step (k : Nat) (xs : List S57) (i : Nat) (a : Int) (hi : i < xs.length) (hl : xs.length ≤ 4294967296) (h0 : 0 ≤ a) (h1 : a ≤ 4611686018427387904) :
    laws_markInstrS.l0 (k + 1) xs a (i : Int) = (laws_markText.f k (a + 1 + 1 + 1 + 1 + 1 + 1)).bind fun t => laws_markInstrS.l0 k (xs.set i (mkI a t)) (a + 7) ((i + 1 : Nat) : Int) := by
  have hp : (i : Int) < (xs.length : Int) := by omega
  have hq : 0 ≤ (i : Int) := by omega
  have rs := rdSetI xs i hi
  have e8 := wrapN i (by omega)
  obtain ⟨e1, e2, e3, e4, e5, e6, e7⟩ := wraps7 a h0 h1
  rw [laws_markInstrS.l0, if_pos hp, if_pos hq]
  rw [e1, e2, e3, e4, e5, e6, e7, e8, Int.toNat_natCast]
  rw [Option.bind_some]
  simp only [rs, List.set_set]
  rw [Option.bind_some]
  simp only [rs, List.set_set]
  rw [Option.bind_some]
  simp only [rs, List.set_set]
  rw [Option.bind_some]
  simp only [rs, List.set_set]
  rw [Option.bind_some]
  simp only [rs, List.set_set]
  rw [Option.bind_some]
  simp only [rs, List.set_set]
  rfl
theorem heldI_step (k : Nat) (ys : List S57) (i : Nat) (a : Int) (t : ByteArray) (hi : i < ys.length) (hl : ys.length ≤ 4294967296) (h0 : 0 ≤ a) (h1 : a ≤ 4611686018427387904) (hy : r57 ys (i : Int) = mkI a t) :
    laws_heldInstrS.l0 (k + 1) ys a (i : Int) = (laws_markText.f k (a + 1 + 1 + 1 + 1 + 1 + 1)).bind fun t' => if t.toList = t'.toList then laws_heldInstrS.l0 k ys (a + 7) ((i + 1 : Nat) : Int) else none := by
  have hp : (i : Int) < (ys.length : Int) := by omega
  have hq : 0 ≤ (i : Int) := by omega
  have e8 := wrapN i (by omega)
  obtain ⟨e1, e2, e3, e4, e5, e6, e7⟩ := wraps7 a h0 h1
  rw [laws_heldInstrS.l0, if_pos hp, if_pos hq, hy]
  simp only [mkI, e1, e2, e3, e4, e5, e6, e7, e8, if_true]
theorem markC_l0 (d : Nat) : ∀ (xs : List S57) (i : Nat) (a : Int), i + d = xs.length → xs.length ≤ 4294967296 → 0 ≤ a → a + 7 * d ≤ 1099511627776 →
    ∃ ys, Ev (fun k => laws_markInstrS.l0 k xs a (i : Int)) (a + 7 * d, ys) ∧ ys.length = xs.length ∧ (∀ j, j < i → ys[j]? = xs[j]?) ∧ Ev (fun k => laws_heldInstrS.l0 k ys a (i : Int)) (a + 7 * d) := by
  induction d with
  | zero =>
    intro xs i a hi hl h0 h1
    refine ⟨xs, ?_, rfl, fun _ _ => rfl, ?_⟩
    · refine Ev.step (f := fun _ => some (a, xs)) (fun k => by rw [laws_markInstrS.l0, if_neg (by omega)]) ?_
      simpa using Ev.now (a, xs)
    · refine Ev.step (f := fun _ => some a) (fun k => by rw [laws_heldInstrS.l0, if_neg (by omega)]) ?_
      simpa using Ev.now a
  | succ d ih =>
    intro xs i a hi hl h0 h1
    have hlt : i < xs.length := by omega
    obtain ⟨t, ht⟩ := text_ev (a + 1 + 1 + 1 + 1 + 1 + 1) (by omega)
    obtain ⟨ys, g1, g2, g3, g4⟩ := ih (xs.set i (mkI a t)) (i + 1) (a + 7) (by rw [List.length_set]; omega) (by rw [List.length_set]; exact hl) (by omega) (by omega)
    rw [List.length_set] at g2
    have ea : a + 7 + 7 * (d : Int) = a + 7 * ((d + 1 : Nat) : Int) := by omega
    rw [ea] at g1 g4
    refine ⟨ys, ?_, g2, fun j hj => ?_, ?_⟩
    · exact Ev.step (fun k => markI_step k xs i a hlt hl h0 (by omega)) (Ev.bind ht g1)
    · rw [g3 j (by omega), List.getElem?_set_ne (by omega)]
    · have hy : r57 ys (i : Int) = mkI a t := by
        have h := g3 i (by omega)
        rw [List.getElem?_set_self hlt, List.getElem?_eq_getElem (by omega)] at h
        rw [rdII ys i (by omega)]
        exact Option.some.inj h
      exact Ev.step (fun k => heldI_step k ys i a t (by omega) (by omega) h0 (by omega) hy) (Ev.bind ht (Ev.ite_pos (g := fun _ => none) rfl g4))
theorem markC_ev (xs : List S57) (a : Int) (hl : xs.length ≤ 4294967296) (h0 : 0 ≤ a) (h1 : a + 7 * xs.length ≤ 1099511627776) :
    ∃ ys, Ev (fun k => laws_markInstrS.f k xs a) (a + 7 * xs.length, ys) ∧ ys.length = xs.length ∧ Ev (fun k => laws_heldInstrS.f k ys a) (a + 7 * xs.length) := by
  obtain ⟨ys, g1, g2, g3, g4⟩ := markC_l0 xs.length xs 0 a (by omega) hl h0 h1
  exact ⟨ys, Ev.congr (fun k => by rw [laws_markInstrS.f]; rfl) g1, g2, Ev.congr (fun k => by rw [laws_heldInstrS.f]; rfl) g4⟩
theorem markBc_ev : ∀ (bs : List S47) (a : Int), 0 ≤ a → mkSteps bs ≤ 4294967296 → bs.length ≤ 4294967296 → a + 7 * (mkSteps bs : Int) + 4 * (bs.length : Int) ≤ 1099511627776 →
    ∃ r bs', Ev (fun k => markBc k bs a) (r, bs') ∧ 0 ≤ r ∧ bs'.length = bs.length ∧ ∀ pre : List S47, pre.length + bs.length ≤ 4294967296 → Ev (fun k => laws_heldBlockS.l0 k (pre ++ bs') a (pre.length : Int)) r := by
  intro bs
  induction bs with
  | nil =>
    intro a h0 _ _ _
    refine ⟨a, [], Ev.now (a, []), h0, rfl, fun pre hp => ?_⟩
    exact Ev.step (f := fun _ => some a) (fun k => by rw [laws_heldBlockS.l0, if_neg (by simp)]) (Ev.now _)
  | cons b bs ih =>
    intro a h0 hs hb h1
    simp only [mkSteps, List.length_cons] at hs h1 hb
    obtain ⟨ys, hy, hyl, hh⟩ := markC_ev b.f0 a (by omega) h0 (by omega)
    generalize hp : a + 7 * (b.f0.length : Int) = p at hy hh
    have hp0 : 0 ≤ p := by omega
    obtain ⟨r, bs', g1, g2, g3, g4⟩ := ih (p + 1 + 1 + 1 + 1) (by omega) (by omega) (by omega) (by omega)
    have wr : wrap64 (p + 1) = p + 1 ∧ wrap64 (p + 1 + 1) = p + 1 + 1 ∧ wrap64 (p + 1 + 1 + 1) = p + 1 + 1 + 1 ∧ wrap64 (p + 1 + 1 + 1 + 1) = p + 1 + 1 + 1 + 1 := ⟨wrap_ok (by omega) (by omega), wrap_ok (by omega) (by omega), wrap_ok (by omega) (by omega), wrap_ok (by omega) (by omega)⟩
    have WR := Zs0.mk wr
    clear wr
    refine ⟨r, mkB ys p :: bs', ?_, g2, by rw [List.length_cons, List.length_cons, g3], fun pre hpre => ?_⟩
    · refine Ev.congr (fun k => by rw [markBc]) (Ev.bind hy ?_)
      obtain ⟨w1, w2, w3, w4⟩ := WR.out
      simp only [w1, w2, w3, w4]
      exact Ev.bind g1 (Ev.now _)
    · rw [List.length_cons] at hpre
      have g5 := g4 (pre ++ [mkB ys p]) (by rw [List.length_append, List.length_singleton]; omega)
      rw [List.append_assoc, List.length_append, List.length_singleton] at g5
      have hlt : pre.length < (pre ++ mkB ys p :: bs').length := by rw [List.length_append, List.length_cons]; omega
      have hrd : r47 (pre ++ mkB ys p :: bs') (pre.length : Int) = mkB ys p := by
        rw [rdIB _ pre.length hlt]
        simp
      have hp1 : (pre.length : Int) < ((pre ++ mkB ys p :: bs').length : Int) := by omega
      have hp2 : 0 ≤ (pre.length : Int) := by omega
      have hp3 : ¬ p < 0 := by omega
      have e8 := wrapN pre.length (by omega)
      obtain ⟨w1, w2, w3, w4⟩ := WR.out
      refine Ev.step (fun k => ?_) (Ev.bind hh (f := fun k t => if t < 0 then none else if p = t then (if p + 1 = wrap64 (t + 1) then (if p + 1 + 1 = wrap64 (wrap64 (t + 1) + 1) then (if p + 1 + 1 + 1 = wrap64 (wrap64 (wrap64 (t + 1) + 1) + 1) then laws_heldBlockS.l0 k (pre ++ mkB ys p :: bs') (wrap64 (wrap64 (wrap64 (wrap64 (t + 1) + 1) + 1) + 1)) ((pre.length + 1 : Nat) : Int) else none) else none) else none) else none) ?_)
      · rw [laws_heldBlockS.l0, if_pos hp1, if_pos hp2, hrd, e8]
        simp only [mkB, w1, w2, w3]
      · simp only [w1, w2, w3, w4, if_true]
        exact Ev.ite_neg (f := fun _ => none) hp3 g5
theorem markGc_ev (zs : List Int) (bs : List S47) (hz : zs.length ≤ 1048576) (hs : mkSteps bs ≤ 4294967296) (hb : bs.length ≤ 4294967296) :
    ∃ r z' b', Ev (fun k => markGc k zs bs 1) (r, z', b') ∧ 0 ≤ r ∧ ∀ p v s, Ev (fun k => laws_heldGraph.f k z' p v s b' 1) r := by
  obtain ⟨r, b', g1, g2, g3, g4⟩ := markBc_ev bs (1 + (zs.length : Int)) (by omega) hs hb (by omega)
  have mk : Ev (fun k => laws_markIntS.f k zs 1) (1 + (zs.length : Int), seqFrom 1 zs.length) := markInts_ev laws_markIntS.f laws_markIntS.l0 (fun _ _ _ => rfl) (fun _ _ _ _ => by rw [laws_markIntS.l0]) zs 1 (by omega) (by omega)
  have hd : Ev (fun k => laws_heldIntS.f k (seqFrom 1 zs.length) 1) (1 + (zs.length : Int)) := heldInts_ev laws_heldIntS.f laws_heldIntS.l0 (fun _ _ _ => rfl) (fun _ _ _ _ => by rw [laws_heldIntS.l0]) 1 zs.length (by omega) (by omega)
  refine ⟨r, seqFrom 1 zs.length, b', Ev.bind mk (Ev.bind g1 (Ev.now _)), g2, fun p v s => ?_⟩
  have g5 := g4 [] (by simpa using hb)
  refine Ev.bind hd (Ev.ite_neg (f := fun _ => none) (by omega) (Ev.bind (g := fun k => laws_heldBlockS.f k b' (1 + (zs.length : Int))) (Ev.congr (fun k => by rw [laws_heldBlockS.f]; rfl) g5) (Ev.ite_neg (f := fun _ => none) (by omega) (Ev.now _))))
end Go.Proofs.Ytcbpbnkoolpibaa.Gr
