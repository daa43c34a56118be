/- The numbers behind marks: how far they come. Conditions: not too many. -/
import Derived.Test.YtcbpbnkoolpibaaMBlocks1a
import Derived.Test.YtcbpbnkoolpibaaMBlocks0ua
namespace Go.Proofs.Ytcbpbnkoolpibaa.Gr
open Go.RowKit Go.Proofs.Ytcbpbnkoolpibaa.P Go.Proofs.YtcbpbnkoolpibaaW.PrintWords Go.Proofs.YtcbpbnkoolpibaaW.PrintLast Go.Proofs.Ytcbpbnkoolpibaa.Aux
set_option linter.unusedVariables false
set_option linter.unusedSimpArgs false
theorem text_ev (n : Int) (hn : n ≤ 9223372036854775807) : ∃ r, Ev (fun k => laws_markText.f k n) r := markText_ev laws_markText.f laws_markText.l0 (fun _ _ => by unfold laws_markText.f; rfl) (fun _ _ _ => by rw [laws_markText.l0]) n hn
theorem markI_l0 (d : Nat) : ∀ (xs : List S57) (i : Nat) (a : Int), i + d = xs.length → xs.length ≤ 4294967296 → 0 ≤ a → a + 7 * d ≤ 1099511627776 → ∃ ys, Ev (fun k => laws_markInstrS.l0 k xs a (i : Int)) (a + 7 * d, ys) := by
  induction d with
  | zero =>
    intro xs i a hi hl h0 h1
    refine ⟨xs, Ev.step (f := fun _ => some (a, xs)) (fun k => by rw [laws_markInstrS.l0, if_neg (by omega)]) ?_⟩
    simpa using Ev.now (a, xs)
  | succ d ih =>
    intro xs i a hi hl h0 h1
    obtain ⟨t, ht⟩ := text_ev (a + 1 + 1 + 1 + 1 + 1 + 1) (by omega)
    have key : ∀ zs : List S57, zs.length = xs.length → ∃ ys, Ev (fun k => laws_markInstrS.l0 k zs (a + 7) ((i + 1 : Nat) : Int)) (a + 7 * ((d + 1 : Nat) : Int), ys) := fun zs hz => by
      obtain ⟨ys, h⟩ := ih zs (i + 1) (a + 7) (by omega) (by omega) (by omega) (by omega)
      refine ⟨ys, ?_⟩
      rw [show a + 7 * ((d + 1 : Nat) : Int) = a + 7 + 7 * (d : Int) by omega]
      exact h
    have hp : (i : Int) < (xs.length : Int) := by omega
    have hq : 0 ≤ (i : Int) := by omega
    obtain ⟨e1, e2, e3, e4, e5, e6, e7, e8⟩ : wrap64 (a + 1) = a + 1 ∧ wrap64 (a + 1 + 1) = a + 1 + 1 ∧ wrap64 (a + 1 + 1 + 1) = a + 1 + 1 + 1 ∧ wrap64 (a + 1 + 1 + 1 + 1) = a + 1 + 1 + 1 + 1 ∧ wrap64 (a + 1 + 1 + 1 + 1 + 1) = a + 1 + 1 + 1 + 1 + 1 ∧ wrap64 (a + 1 + 1 + 1 + 1 + 1 + 1) = a + 1 + 1 + 1 + 1 + 1 + 1 ∧ wrap64 (a + 1 + 1 + 1 + 1 + 1 + 1 + 1) = a + 7 ∧ wrap64 ((i : Int) + 1) = ((i + 1 : Nat) : Int) := by
      refine ⟨wrap_ok (by omega) (by omega), wrap_ok (by omega) (by omega), wrap_ok (by omega) (by omega), wrap_ok (by omega) (by omega), wrap_ok (by omega) (by omega), wrap_ok (by omega) (by omega), ?_, ?_⟩
      · rw [wrap_ok (by omega) (by omega)]
        omega
      · rw [wrap_ok (by omega) (by omega)]
        omega
    have fin : ∀ (zs : List S57), zs.length = xs.length → ∃ ys, Ev (fun k => laws_markInstrS.l0 k zs (wrap64 (wrap64 (wrap64 (wrap64 (wrap64 (wrap64 (wrap64 (a + 1) + 1) + 1) + 1) + 1) + 1) + 1)) (wrap64 ((i : Int) + 1))) (a + 7 * ((d + 1 : Nat) : Int), ys) := fun zs hz => by
      rw [e1, e2, e3, e4, e5, e6, e7, e8]
      exact key zs hz
    obtain ⟨t, ht⟩ : ∃ t, Ev (fun k => laws_markText.f k (wrap64 (wrap64 (wrap64 (wrap64 (wrap64 (wrap64 (a + 1) + 1) + 1) + 1) + 1) + 1))) t := ⟨t, by rw [e1, e2, e3, e4, e5, e6]; exact ht⟩
    have comb : ∀ Z : List S57, (∀ r, Ev (fun k => laws_markInstrS.l0 k Z (wrap64 (wrap64 (wrap64 (wrap64 (wrap64 (wrap64 (wrap64 (a + 1) + 1) + 1) + 1) + 1) + 1) + 1)) (wrap64 ((i : Int) + 1))) r → Ev (fun k => laws_markInstrS.l0 k xs a (i : Int)) r) → Z.length = xs.length → ∃ ys, Ev (fun k => laws_markInstrS.l0 k xs a (i : Int)) (a + 7 * ((d + 1 : Nat) : Int), ys) := fun Z F hZ => by
      obtain ⟨ys, h2⟩ := fin Z hZ
      exact ⟨ys, F _ h2⟩
    apply comb
    · intro r hr
      refine Ev.step (fun k => by rw [laws_markInstrS.l0, if_pos hp, if_pos hq]) ?_
      exact Ev.const rfl (Ev.const rfl (Ev.const rfl (Ev.const rfl (Ev.const rfl (Ev.const rfl (Ev.bind ht hr))))))
    · simp only [List.length_set]
theorem markI_ev (xs : List S57) (a : Int) (hl : xs.length ≤ 4294967296) (h0 : 0 ≤ a) (h1 : a + 7 * xs.length ≤ 1099511627776) : ∃ ys, Ev (fun k => laws_markInstrS.f k xs a) (a + 7 * xs.length, ys) := by
  obtain ⟨ys, h⟩ := markI_l0 xs.length xs 0 a (by omega) hl h0 h1
  exact ⟨ys, Ev.congr (fun k => by rw [laws_markInstrS.f]; rfl) h⟩
/-- How many steps the blocks hold. -/
def mkSteps : List S47 → Nat
  | [] => 0
  | b :: bs => b.f0.length + mkSteps bs
theorem markB_ev : ∀ (bs : List S47) (a : Int), 0 ≤ a → mkSteps bs ≤ 4294967296 → a + 7 * (mkSteps bs : Int) + 4 * (bs.length : Int) ≤ 1099511627776 → ∃ r, Ev (fun k => markB k bs a) r ∧ 0 ≤ r := by
  intro bs
  induction bs with
  | nil => intro a h0 _ _; exact ⟨a, Ev.now a, h0⟩
  | cons b bs ih =>
    intro a h0 hs h1
    simp only [mkSteps, List.length_cons] at hs h1
    obtain ⟨ys, hy⟩ := markI_ev b.f0 a (by omega) h0 (by omega)
    obtain ⟨w1, w2, w3, w4⟩ : wrap64 (a + 7 * (b.f0.length : Int) + 1) = a + 7 * (b.f0.length : Int) + 1 ∧ wrap64 (a + 7 * (b.f0.length : Int) + 1 + 1) = a + 7 * (b.f0.length : Int) + 1 + 1 ∧ wrap64 (a + 7 * (b.f0.length : Int) + 1 + 1 + 1) = a + 7 * (b.f0.length : Int) + 1 + 1 + 1 ∧ wrap64 (a + 7 * (b.f0.length : Int) + 1 + 1 + 1 + 1) = a + 7 * (b.f0.length : Int) + 1 + 1 + 1 + 1 :=
      ⟨wrap_ok (by omega) (by omega), wrap_ok (by omega) (by omega), wrap_ok (by omega) (by omega), wrap_ok (by omega) (by omega)⟩
    obtain ⟨r, hr, hp⟩ := ih (a + 7 * (b.f0.length : Int) + 1 + 1 + 1 + 1) (by clear w1 w2 w3 w4; omega) (by clear w1 w2 w3 w4; omega) (by clear w1 w2 w3 w4; omega)
    refine ⟨r, ?_, hp⟩
    refine Ev.congr (fun k => by rw [markB]) (Ev.bind hy ?_)
    simp only [w1, w2, w3, w4]
    exact hr
theorem mkSteps_conv : ∀ bs : List S67, mkSteps (bs.map convB) = steps bs := by
  intro bs
  induction bs with
  | nil => rfl
  | cons b bs ih =>
    simp only [List.map_cons, mkSteps, ih, steps, convB, List.length_map]
theorem markG_ev (zs : List Int) (bs : List S67) (h : Small zs bs) : ∃ r, Ev (fun k => laws_markGraph.f k zs (bs.map convB) 1) r ∧ 0 ≤ r := by
  have h1 := h.sizes
  have h2 := h.blocks
  have h3 := h.steps
  obtain ⟨r, hr, hp⟩ := markB_ev (bs.map convB) (1 + (zs.length : Int)) (by omega) (by rw [mkSteps_conv]; omega) (by rw [mkSteps_conv, List.length_map]; omega)
  refine ⟨r, ?_, hp⟩
  unfold laws_markGraph.f
  exact Ev.bind (markInts_ev laws_markIntS.f laws_markIntS.l0 (fun _ _ _ => rfl) (fun _ _ _ _ => by rw [laws_markIntS.l0]) zs 1 (by omega) (by omega)) hr
end Go.Proofs.Ytcbpbnkoolpibaa.Gr
