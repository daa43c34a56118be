/- The contract of impl.alias: what the Go code answers of two places, for every two places. No conditions. -/
import Derived.Test.YthbonkpmaomhoaaF0
import Derived.Test.YthbonkpmaomhoaaFE29
namespace Go.Proofs.Ythbonkpmaomhoaa.P
open Go.RowKit Go.Proofs.YthbonkpmaomhoaaW.PrintWords Go.Proofs.YthbonkpmaomhoaaW.PrintLast Go.Proofs.YthbonkpmaomhoaaW.PrintMore
set_option linter.unusedVariables false
set_option linter.unusedSimpArgs false
attribute [local go_sem high] eqA29
def impl_alias.f (a0_0 : Int) (a0_1 : Int) (a0_2 : Int) (a0_3 : Int) (a1_0 : Int) (a1_1 : Int) (a1_2 : Int) (a1_3 : Int) : Option (Int) := if a0_0 = a1_0 then (if a0_1 = a1_1 then (if a0_2 = a1_2 then (if a0_3 = a1_3 then some 2 else some 0) else some 1) else some 1) else some 0
theorem impl_alias.calls (a0_0 : Int) (a0_1 : Int) (a0_2 : Int) (a0_3 : Int) (a1_0 : Int) (a1_1 : Int) (a1_2 : Int) (a1_3 : Int) (r : Int) (w : World) (h : impl_alias.f a0_0 a0_1 a0_2 a0_3 a1_0 a1_1 a1_2 a1_3 = some r) :
    Calls Try.prog 58 #[.agg #[.int .i64 a0_0, .int .i64 a0_1, .int .i64 a0_2, .int .i64 a0_3], .agg #[.int .i64 a1_0, .int .i64 a1_1, .int .i64 a1_2, .int .i64 a1_3]] w fun e w' => e = .returned (.int .i64 r) ∧ Below w.heap.size w w' := by
  have hu := Try.underlying29
  unfold impl_alias.f at h
  by_cases c0 : a0_0 = a1_0
  · have p0 : (a0_0 == a1_0) = true := beq_iff_eq.mpr c0
    have q0 : (a0_0 != a1_0) = false := bne_eq_false_iff_eq.mpr c0
    rw [if_pos c0] at h
    clear c0
    by_cases c1 : a0_1 = a1_1
    · have p1 : (a0_1 == a1_1) = true := beq_iff_eq.mpr c1
      rw [if_pos c1] at h
      clear c1
      by_cases c2 : a0_2 = a1_2
      · have p2 : (a0_2 == a1_2) = true := beq_iff_eq.mpr c2
        rw [if_pos c2] at h
        clear c2
        by_cases c3 : a0_3 = a1_3
        · have p3 : (a0_3 == a1_3) = true := beq_iff_eq.mpr c3
          rw [if_pos c3] at h
          clear c3
          obtain rfl := Option.some.inj h
          clear h
          go_enter Try.func58, Try.ntmps58
          go_wp2
          repeat (go_quiet (fail); try go_wp2)
          go_ret
          exact ⟨rfl, by repeat (first | exact Below.refl _ _ | apply below_alloc | apply pw_below_drewN | apply below_drew1)⟩
        · have p3 : (a0_3 == a1_3) = false := beq_eq_false_iff_ne.mpr c3
          rw [if_neg c3] at h
          clear c3
          obtain rfl := Option.some.inj h
          clear h
          go_enter Try.func58, Try.ntmps58
          go_wp2
          repeat (go_quiet (fail); try go_wp2)
          go_ret
          exact ⟨rfl, by repeat (first | exact Below.refl _ _ | apply below_alloc | apply pw_below_drewN | apply below_drew1)⟩
      · have p2 : (a0_2 == a1_2) = false := beq_eq_false_iff_ne.mpr c2
        rw [if_neg c2] at h
        clear c2
        obtain rfl := Option.some.inj h
        clear h
        go_enter Try.func58, Try.ntmps58
        go_wp2
        repeat (go_quiet (fail); try go_wp2)
        go_ret
        exact ⟨rfl, by repeat (first | exact Below.refl _ _ | apply below_alloc | apply pw_below_drewN | apply below_drew1)⟩
    · have p1 : (a0_1 == a1_1) = false := beq_eq_false_iff_ne.mpr c1
      rw [if_neg c1] at h
      clear c1
      obtain rfl := Option.some.inj h
      clear h
      go_enter Try.func58, Try.ntmps58
      go_wp2
      repeat (go_quiet (fail); try go_wp2)
      go_ret
      exact ⟨rfl, by repeat (first | exact Below.refl _ _ | apply below_alloc | apply pw_below_drewN | apply below_drew1)⟩
  · have p0 : (a0_0 == a1_0) = false := beq_eq_false_iff_ne.mpr c0
    have q0 : (a0_0 != a1_0) = true := bne_iff_ne.mpr c0
    rw [if_neg c0] at h
    clear c0
    obtain rfl := Option.some.inj h
    clear h
    go_enter Try.func58, Try.ntmps58
    go_wp2
    repeat (go_quiet (fail); try go_wp2)
    go_ret
    exact ⟨rfl, by repeat (first | exact Below.refl _ _ | apply below_alloc | apply pw_below_drewN | apply below_drew1)⟩
end Go.Proofs.Ythbonkpmaomhoaa.P
