/- What InstrOk's law answers: it is true. Conditions: what came in is well made. -/
import Derived.Test.YtbbpmcignfhfmaaMInstrOkxF6
import Derived.Test.YtbbpmcignfhfmaaMInstrOk1a
namespace Go.Proofs.Ytbbpmcignfhfmaa.Pure
open Go.RowKit Go.Proofs.Ytbbpmcignfhfmaa.P Go.Proofs.YtbbpmcignfhfmaaW.PrintWords Go.Proofs.YtbbpmcignfhfmaaW.PrintLast Go.Proofs.Ytbbpmcignfhfmaa.Aux Go.Proofs.Ytbbpmcignfhfmaa.Opens Go.Proofs.Ytbbpmcignfhfmaa.Gr Go.Proofs.Ytbbpmcignfhfmaa.Ok
set_option linter.unusedVariables false
theorem InstrOk_same (zs : List Int) (p v s : Int) (bs : List S49) (o d a b c n : Int) (t : ByteArray) (hz : zs.length ≤ 1048576) (hs : (Lit.int .i64 s).wf = true) :
    Ev (fun k => spec_InstrOk.f k zs p v s bs o d a b c n t) (instrB (zs.length : Int) s o d a b c n t) := by
  have hs := i64_wf hs
  unfold spec_InstrOk.f
  by_cases h : s > 0
  · exact Ev.ite_pos h (Ev.bind (instr_ev zs p v s bs o d a b c n t (by omega) (by omega) (by omega)) (Ev.now _))
  · rw [instrB_low _ _ _ _ _ _ _ _ _ (by omega)]
    exact Ev.ite_neg h (Ev.now _)
theorem FnExactInstrOk : ∀ (l0_0 : List (Int)) (a0_1 : Int) (a0_2 : Int) (a0_3 : Int) (l0_4 : List (S44)) (a1_0 : Int) (a1_1 : Int) (a1_2 : Int) (a1_3 : Int) (a1_4 : Int) (a1_5 : Int) (a1_6 : ByteArray), (l0_0.length ≤ maxLen ∧ ∀ x_ ∈ l0_0, (Lit.int .i64 x_).wf = true) → (Lit.int .i64 a0_1).wf = true → (Lit.int .i64 a0_2).wf = true → (Lit.int .i64 a0_3).wf = true → (l0_4.length ≤ maxLen ∧ ∀ x_ ∈ l0_4, W44 x_) → (Lit.int .i64 a1_0).wf = true → (Lit.int .i64 a1_1).wf = true → (Lit.int .i64 a1_2).wf = true → (Lit.int .i64 a1_3).wf = true → (Lit.int .i64 a1_4).wf = true → (Lit.int .i64 a1_5).wf = true → a1_6.size ≤ maxLen → ∃ k, laws_FnExactInstrOk.f k l0_0 a0_1 a0_2 a0_3 l0_4 a1_0 a1_1 a1_2 a1_3 a1_4 a1_5 a1_6 = some true := by
  intro zs p v s bs o d a b c n t hzs hp hv hs hbs ho hd ha hb hc hn ht
  apply Ev.rounds (r := true)
  unfold laws_FnExactInstrOk.f
  obtain ⟨z, hz, _, hz1⟩ := sz_ev zs p v s bs hzs.1 hbs 1048576 (by omega) (by omega)
  refine Ev.bind hz ?_
  by_cases h1 : z < 0
  · exact Ev.ite_pos h1 (Ev.now _)
  have hsm := hz1 (by omega)
  refine Ev.ite_neg h1 ?_
  have hI : ∃ y, laws_szInstr.f o d a b c n t z = some y := by
    unfold laws_szInstr.f
    split
    · exact ⟨_, rfl⟩
    · exact ⟨_, rfl⟩
  obtain ⟨y, hy⟩ := hI
  refine Ev.const hy ?_
  by_cases h2 : y < 0
  · exact Ev.ite_pos h2 (Ev.now _)
  have tg := to_ev zs p v s bs hsm
  have hlen := hsm.sizes
  refine Ev.ite_neg h2 (Ev.bind tg (Ev.const rfl (Ev.bind (InstrOk_same zs p v s (bs.map convB) o d a b c n t hlen hs) (Ev.bind tg (Ev.const rfl (Ev.const (a := instrB (zs.length : Int) s o d a b c n t) rfl ?_))))))
  refine Ev.ite_neg (by simp) (Ev.bind tg (Ev.bind (eq_ev zs p v s bs hsm) ?_))
  exact Ev.ite_pos rfl (Ev.now _)
end Go.Proofs.Ytbbpmcignfhfmaa.Pure
