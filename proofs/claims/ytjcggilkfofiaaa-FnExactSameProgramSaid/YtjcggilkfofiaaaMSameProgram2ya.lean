/- Whether two programs are alike, as_ the program says it: the contract of impl.SameProgram. No conditions. -/
import Derived.Test.YtjcggilkfofiaaaMSameProgramxGsame2
import Derived.Test.YtjcggilkfofiaaaMSameProgram0c
namespace Go.Proofs.Ytjcggilkfofiaaa.P
open Go.RowKit Go.Proofs.Ytjcggilkfofiaaa.Ex Go.Proofs.YtjcggilkfofiaaaW.PrintWords Go.Proofs.YtjcggilkfofiaaaW.PrintLast Go.Proofs.YtjcggilkfofiaaaW.PrintMore Go.Proofs.Ytjcggilkfofiaaa.Aux
set_option linter.unusedVariables false
set_option linter.unusedSimpArgs false
/-- The same with the length at hand, as_ slices.Equal has it. -/
theorem eqInts_loop_m (G : Nat → List Int → List Int → Int → Int → Option Bool)
    (hG : ∀ k x0 x1 n i, G (k + 1) x0 x1 n i = if i < n then (if 0 ≤ i then (if i < (x0.length : Int) then (if i < (x1.length : Int) then (if (rd x0 i) = (rd x1 i) then G k x0 x1 n (wrap64 (i + 1)) else some false) else none) else none) else none) else some true)
    (xs ys : List Int) (hl : xs.length = ys.length) (hn : xs.length ≤ 9223372036854775807) (d : Nat) : ∀ i : Nat, i + d = xs.length → Ev (fun k => G k xs ys (xs.length : Int) (i : Int)) (decide (xs.drop i = ys.drop i)) := by
  induction d with
  | zero =>
    intro i hi
    refine Ev.step (fun k => by rw [hG, if_neg (by omega)]) ?_
    rw [List.drop_eq_nil_of_le (by omega), List.drop_eq_nil_of_le (by omega)]
    exact Ev.now _
  | succ d ih =>
    intro i hi
    have hx : xs.drop i = xs[i]'(by omega) :: xs.drop (i + 1) := List.drop_eq_getElem_cons (by omega)
    have hy : ys.drop i = ys[i]'(by omega) :: ys.drop (i + 1) := List.drop_eq_getElem_cons (by omega)
    have r1 := rd_lt xs i (by omega)
    have r2 := rd_lt ys i (by omega)
    rw [hx, hy]
    by_cases h : xs[i]'(by omega) = ys[i]'(by omega)
    · refine Ev.step (fun k => by rw [hG, if_pos (by omega), if_pos (by omega), if_pos (by omega), if_pos (by omega), r1, r2, if_pos h, wrap_ok (by omega) (by omega)]) ?_
      simp only [List.cons.injEq, h, true_and]
      exact ih (i + 1) (by omega)
    · refine Ev.step (f := fun _ => some false) (fun k => by rw [hG, if_pos (by omega), if_pos (by omega), if_pos (by omega), if_pos (by omega), r1, r2, if_neg h]) ?_
      simp only [List.cons.injEq, h, false_and, decide_false]
      exact Ev.now _
theorem equalI_ex (l m : List Int) (hl : l.length ≤ 9223372036854775807) : ∃ k, slices_Equal_int_int.f k l m = some (decide (l = m)) := by
  by_cases hn : l.length = m.length
  · have h := eqInts_loop_m slices_Equal_int_int.l0 (fun k x0 x1 n i => by rw [slices_Equal_int_int.l0]) l m hn hl l.length 0 (by omega)
    rw [List.drop_zero, List.drop_zero] at h
    obtain ⟨k, hk⟩ := h.rounds
    exact ⟨k, by rw [slices_Equal_int_int.f, if_pos (by omega)]; exact hk⟩
  · have : decide (l = m) = false := decide_eq_false fun e => hn (by rw [e])
    exact ⟨0, by rw [slices_Equal_int_int.f, if_neg (by omega), this]⟩
theorem equalI_calls (A : Option Addr) (c : Nat) (l : List Int) (B : Option Addr) (d : Nat) (m : List Int) (w : World) (hr : Kd.C (Kd.int .i64) w A l.length l) (hc : l.length ≤ c) (hq : Kd.C (Kd.int .i64) w B m.length m) (hd : m.length ≤ d) :
    Calls Try.prog 50 #[.slice A l.length c, .slice B m.length d] w fun e w' => e = .returned (.bool (decide (l = m))) ∧ Drawn0 w w' := by
  obtain ⟨k, hk⟩ := equalI_ex l m (Kd.C_max hr)
  exact slices_Equal_int_int.calls k A c l B d m _ w hr hc hq hd hk
def impl_SameProgram.f (l0 : List Int) (p v : Int) (b0 : List S62) (l1 : List Int) (p' v' : Int) (b1 : List S62) : Option Bool := some (decide (l0 = l1) && decide (p = p') && decide (v = v') && eqSs b0 b1)
set_option maxRecDepth 100000 in
set_option maxHeartbeats 4000000 in
theorem impl_SameProgram.calls (A0_0 : Option Addr) (c0_0 : Nat) (l0_0 : List Int) (a0_1 a0_2 : Int) (A0_3 : Option Addr) (c0_3 : Nat) (l0_3 : List S62) (A1_0 : Option Addr) (c1_0 : Nat) (l1_0 : List Int) (a1_1 a1_2 : Int) (A1_3 : Option Addr) (c1_3 : Nat) (l1_3 : List S62) (r : Bool) (w : World)
    (hr0_0 : Kd.C (Kd.int .i64) w A0_0 l0_0.length l0_0) (hc0_0 : l0_0.length ≤ c0_0) (hr0_3 : Kd.C k62 w A0_3 l0_3.length l0_3) (hc0_3 : l0_3.length ≤ c0_3) (hr1_0 : Kd.C (Kd.int .i64) w A1_0 l1_0.length l1_0) (hc1_0 : l1_0.length ≤ c1_0) (hr1_3 : Kd.C k62 w A1_3 l1_3.length l1_3) (hc1_3 : l1_3.length ≤ c1_3)
    (h : impl_SameProgram.f l0_0 a0_1 a0_2 l0_3 l1_0 a1_1 a1_2 l1_3 = some r) :
    Calls Try.prog 20 #[.agg #[.slice A0_0 l0_0.length c0_0, .int .i64 a0_1, .int .i64 a0_2, .slice A0_3 l0_3.length c0_3], .agg #[.slice A1_0 l1_0.length c1_0, .int .i64 a1_1, .int .i64 a1_2, .slice A1_3 l1_3.length c1_3]] w fun e w' => e = .returned (.bool r) ∧ Below w.heap.size w w' := by
  have hu40 := Try.underlying40
  have hev := Option.some.inj h
  have hq := Zs0.mk (fun (W : World) (hW : Below w.heap.size w W) => equalI_calls A0_0 c0_0 l0_0 A1_0 c1_0 l1_0 W (Kd.C_below hr0_0 hW) hc0_0 (Kd.C_below hr1_0 hW) hc1_0)
  have hs := Zs0.mk (fun (W : World) (hW : Below w.heap.size w W) => equalS_top A0_3 c0_3 l0_3 A1_3 c1_3 l1_3 W (Kd.C_below hr0_3 hW) hc0_3 (Kd.C_below hr1_3 hW) hc1_3)
  clear hr0_0 hr0_3 hr1_0 hr1_3 h
  by_cases e0 : l0_0 = l1_0
  · subst e0
    have hq1 : decide (l0_0 = l0_0) = true := decide_eq_true rfl
    rw [hq1] at hq
    clear hq1
    by_cases e1 : a0_1 = a1_1
    · subst e1
      by_cases e2 : a0_2 = a1_2
      · subst e2
        obtain rfl : eqSs l0_3 l1_3 = r := by rw [← hev]; simp
        clear hev
        cases h3 : eqSs l0_3 l1_3 with
        | true =>
          rw [h3] at hs
          clear h3
          go_enter Try.func20, Try.ntmps20
          go_wp2_with fail
          go_at_call 50; (with_reducible refine (hq.out _ (by (with_reducible repeat (first | apply blA | apply pbN | apply bl1)); exact Below.refl _ _)).mono ?_); rintro e w1 ⟨rfl, hd1⟩; obtain ⟨⟨nd, rfl⟩⟩ := hd1
          go_wp2_with fail
          go_at_call 51; (with_reducible refine (hs.out _ (by (with_reducible repeat (first | apply blA | apply pbN | apply bl1)); exact Below.refl _ _)).mono ?_); rintro e w2 ⟨rfl, hb'⟩; have HB := Zs0.mk (blT (by (with_reducible repeat (first | apply blA | apply pbN | apply bl1)); exact Below.refl _ _) hb'); clear hb'
          go_wp2
          go_ret
          exact ⟨rfl, HB.out⟩
        | false =>
          rw [h3] at hs
          clear h3
          go_enter Try.func20, Try.ntmps20
          go_wp2_with fail
          go_at_call 50; (with_reducible refine (hq.out _ (by (with_reducible repeat (first | apply blA | apply pbN | apply bl1)); exact Below.refl _ _)).mono ?_); rintro e w1 ⟨rfl, hd1⟩; obtain ⟨⟨nd, rfl⟩⟩ := hd1
          go_wp2_with fail
          go_at_call 51; (with_reducible refine (hs.out _ (by (with_reducible repeat (first | apply blA | apply pbN | apply bl1)); exact Below.refl _ _)).mono ?_); rintro e w2 ⟨rfl, hb'⟩; have HB := Zs0.mk (blT (by (with_reducible repeat (first | apply blA | apply pbN | apply bl1)); exact Below.refl _ _) hb'); clear hb'
          go_wp2
          go_ret
          exact ⟨rfl, HB.out⟩
      · obtain rfl : false = r := by rw [← hev]; simp [e2]
        have q2 : (a0_2 == a1_2) = false := beq_eq_false_iff_ne.2 e2
        clear hev hs
        go_enter Try.func20, Try.ntmps20
        go_wp2_with fail
        go_at_call 50; (with_reducible refine (hq.out _ (by (with_reducible repeat (first | apply blA | apply pbN | apply bl1)); exact Below.refl _ _)).mono ?_); rintro e w1 ⟨rfl, hd1⟩; obtain ⟨⟨nd, rfl⟩⟩ := hd1
        go_wp2
        go_ret
        exact ⟨rfl, (by (with_reducible repeat (first | apply blA | apply pbN | apply bl1)); exact Below.refl _ _)⟩
    · obtain rfl : false = r := by rw [← hev]; simp [e1]
      have q1 : (a0_1 == a1_1) = false := beq_eq_false_iff_ne.2 e1
      clear hev hs
      go_enter Try.func20, Try.ntmps20
      go_wp2_with fail
      go_at_call 50; (with_reducible refine (hq.out _ (by (with_reducible repeat (first | apply blA | apply pbN | apply bl1)); exact Below.refl _ _)).mono ?_); rintro e w1 ⟨rfl, hd1⟩; obtain ⟨⟨nd, rfl⟩⟩ := hd1
      go_wp2
      go_ret
      exact ⟨rfl, (by (with_reducible repeat (first | apply blA | apply pbN | apply bl1)); exact Below.refl _ _)⟩
  · obtain rfl : false = r := by rw [← hev]; simp [e0]
    have hq1 : decide (l0_0 = l1_0) = false := decide_eq_false e0
    rw [hq1] at hq
    clear hq1 hev hs e0
    go_enter Try.func20, Try.ntmps20
    go_wp2_with fail
    go_at_call 50; (with_reducible refine (hq.out _ (by (with_reducible repeat (first | apply blA | apply pbN | apply bl1)); exact Below.refl _ _)).mono ?_); rintro e w1 ⟨rfl, hd1⟩; obtain ⟨⟨nd, rfl⟩⟩ := hd1
    go_wp2
    go_ret
    exact ⟨rfl, (by (with_reducible repeat (first | apply blA | apply pbN | apply bl1)); exact Below.refl _ _)⟩
end Go.Proofs.Ytjcggilkfofiaaa.P
