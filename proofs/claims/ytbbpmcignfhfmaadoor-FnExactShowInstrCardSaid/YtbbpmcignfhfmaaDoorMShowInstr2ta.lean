/- What ShowInstr's law answers: it is true. Conditions: what came in is well made. -/
import Derived.Test.YtbbpmcignfhfmaaDoorMShowInstrxF3
import Derived.Test.YtbbpmcignfhfmaaDoorMShowInstr0xa
import Derived.Test.YtbbpmcignfhfmaaDoorMShowInstr1ya
import Derived.Test.YtbbpmcignfhfmaaDoorMShowInstr1va
namespace Go.Proofs.YtbbpmcignfhfmaaDoor.Pure
open Go.RowKit Go.Proofs.YtbbpmcignfhfmaaDoor.P Go.Proofs.YtbbpmcignfhfmaaDoorW.PrintWords Go.Proofs.YtbbpmcignfhfmaaDoorW.PrintLast Go.Proofs.YtbbpmcignfhfmaaDoor.Aux Go.Proofs.YtbbpmcignfhfmaaDoor.Opens Go.Proofs.YtbbpmcignfhfmaaDoor.Gr
set_option linter.unusedVariables false
theorem FnExactShowInstr : ∀ (l0_0 : List (Int)) (a0_1 : Int) (a0_2 : Int) (a0_3 : Int) (l0_4 : List (S57)) (a1_0 : Int) (a1_1 : Int) (a1_2 : Int) (a1_3 : Int) (a1_4 : Int) (a1_5 : Int) (a1_6 : ByteArray), (l0_0.length ≤ maxLen ∧ ∀ x_ ∈ l0_0, (Lit.int .i64 x_).wf = true) → (Lit.int .i64 a0_1).wf = true → (Lit.int .i64 a0_2).wf = true → (Lit.int .i64 a0_3).wf = true → (l0_4.length ≤ maxLen ∧ ∀ x_ ∈ l0_4, W57 x_) → (Lit.int .i64 a1_0).wf = true → (Lit.int .i64 a1_1).wf = true → (Lit.int .i64 a1_2).wf = true → (Lit.int .i64 a1_3).wf = true → (Lit.int .i64 a1_4).wf = true → (Lit.int .i64 a1_5).wf = true → a1_6.size ≤ maxLen → ∃ k, laws_FnExactShowInstr.f k l0_0 a0_1 a0_2 a0_3 l0_4 a1_0 a1_1 a1_2 a1_3 a1_4 a1_5 a1_6 = some true := by
  intro zs p v s bs o d a b c n t hzs hp hv hs hbs ho hd ha hb hc hn ht
  apply Ev.rounds (r := true)
  unfold laws_FnExactShowInstr.f
  obtain ⟨z, hz, hzn, hz1⟩ := sz_ev zs p v s bs hzs.1 hbs 1048576 (by omega) (by omega)
  refine Ev.bind hz ?_
  by_cases h1 : z < 0
  · exact Ev.ite_pos h1 (Ev.now _)
  have hsm := hz1 (by omega)
  refine Ev.ite_neg h1 ?_
  unfold maxLen at ht
  have hI : ∃ y, laws_szInstr.f o d a b c n t z = some y ∧ (¬ y < 0 → t.size ≤ 1048576) := by
    unfold laws_szInstr.f
    rw [wrap_ok (i := z - (t.size : Int)) (by omega) (by omega)]
    split
    · exact ⟨_, rfl, fun h => absurd (by decide) h⟩
    · rename_i h
      exact ⟨_, rfl, fun _ => by omega⟩
  obtain ⟨y, hy, hyt⟩ := hI
  refine Ev.const hy ?_
  by_cases h2 : y < 0
  · exact Ev.ite_pos h2 (Ev.now _)
  have htz := hyt h2
  have tg := to_ev zs p v s bs hsm
  have hlen := hsm.sizes
  have i1 := Dec.i64_wf hd
  have i2 := Dec.i64_wf ha
  have i3 := Dec.i64_wf hb
  have i4 := Dec.i64_wf hc
  have i5 := Dec.i64_wf hn
  have tv := Dec.text_ev (o := o) (t := t) i1 i2 i3 i4 i5 (by omega)
  have sv := Dec.show_ev (o := o) (t := t) i1 i2 i3 i4 i5 (by omega)
  have hok := Ok.InstrOk_same zs p v s (bs.map convB) o d a b c n t hlen hs
  have both : ∃ R, Ev (fun k => spec_ShowInstr.f k zs p v s (bs.map convB) o d a b c n t) R ∧ Ev (fun k => impl_ShowInstr.f k zs p v s (bs.map convB) o d a b c n t) R := by
    unfold spec_ShowInstr.f impl_ShowInstr.f
    cases hq : instrB (zs.length : Int) s o d a b c n t with
    | true =>
      rw [hq] at hok
      exact ⟨_, Ev.bind hok (Ev.ite_pos rfl (Ev.bind tv (Ev.now _))), Ev.const (a := true) (by unfold impl_isInstr.f; rw [hq]) (Ev.ite_pos rfl (Ev.bind sv (Ev.now _)))⟩
    | false =>
      rw [hq] at hok
      exact ⟨_, Ev.bind hok (Ev.ite_neg (by decide) (Ev.now _)), Ev.const (a := false) (by unfold impl_isInstr.f; rw [hq]) (Ev.ite_neg (by decide) (Ev.now _))⟩
  obtain ⟨R, r1, r2⟩ := both
  refine Ev.ite_neg h2 (Ev.bind tg (Ev.const rfl (Ev.bind r1 (Ev.bind tg (Ev.const rfl (Ev.bind r2 (Ev.ite_pos rfl ?_)))))))
  exact Ev.bind tg (Ev.bind (eq_ev zs p v s bs hsm) (Ev.ite_pos rfl (Ev.now _)))
end Go.Proofs.YtbbpmcignfhfmaaDoor.Pure
