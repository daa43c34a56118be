/- Functions of the program and of the reference as plain functions, and that the Go code comes to their answers; several texts in one. No conditions beyond what each theorem says. -/
import Derived.Test.YtbbpmcignfhfmaaMBlockOk0a
import Derived.Test.YtbbpmcignfhfmaaMBlockOkxF74
import Derived.Test.YtbbpmcignfhfmaaMBlockOk1wa
import Derived.Test.YtbbpmcignfhfmaaMBlockOk1ya
import Derived.Test.YtbbpmcignfhfmaaMBlockOkxF72
namespace Go.Proofs.Ytbbpmcignfhfmaa.P
open Go.RowKit Go.Proofs.YtbbpmcignfhfmaaW.PrintWords Go.Proofs.YtbbpmcignfhfmaaW.PrintLast Go.Proofs.YtbbpmcignfhfmaaW.PrintMore
attribute [local go_sem] max2_int min2_int max_two min_two max_three min_three max_four min_four   -- for this text's walks alone
set_option linter.unusedVariables false
set_option linter.unusedSimpArgs false

/-! ### impl_BlockOk: function 32 -/
def impl_BlockOk.f (k : Nat) (l0_0 : List Int) (a0_1 : Int) (a0_2 : Int) (a0_3 : Int) (l0_4 : List (S49)) (l1_0 : List (S39)) (a1_1 : Int) (a1_2 : Int) (a1_3 : Int) (a1_4 : Int) : Option (Bool) := (impl_isBlock.f k l0_0 a0_1 a0_2 a0_3 l0_4 l1_0 a1_1 a1_2 a1_3 a1_4).bind fun t103 => (some t103)
theorem impl_BlockOk.mono : ∀ a0 a1 a2 a3 a4 a5 a6 a7 a8 a9 k, LeO (impl_BlockOk.f k a0 a1 a2 a3 a4 a5 a6 a7 a8 a9) (impl_BlockOk.f (k + 1) a0 a1 a2 a3 a4 a5 a6 a7 a8 a9) := by
  intro a0 a1 a2 a3 a4 a5 a6 a7 a8 a9 k
  unfold impl_BlockOk.f
  repeat' first
      | (with_reducible exact impl_isBlock.mono _ _ _ _ _ _ _ _ _ _ _)
      | (with_reducible exact LeO.refl _)
      | (with_reducible exact LeO.none _)
      | (with_reducible refine LeO.ite ?_ ?_)
      | (with_reducible refine LeO.bind ?_ (fun _ => ?_))
      | exact impl_isBlock.mono _ _ _ _ _ _ _ _ _ _ _
      | exact LeO.none _
      | refine LeO.ite ?_ ?_
      | refine LeO.bind ?_ (fun _ => ?_)
set_option maxHeartbeats 8000000 in
set_option maxRecDepth 100000 in
theorem impl_BlockOk.calls (k : Nat) (A0_0 : Option Addr) (c0_0 : Nat) (l0_0 : List Int) (a0_1 : Int) (a0_2 : Int) (a0_3 : Int) (A0_4 : Option Addr) (c0_4 : Nat) (l0_4 : List (S49)) (A1_0 : Option Addr) (c1_0 : Nat) (l1_0 : List (S39)) (a1_1 : Int) (a1_2 : Int) (a1_3 : Int) (a1_4 : Int) (r : Bool) (w : World) (hr0_0 : Kd.C (Kd.int .i64) w A0_0 l0_0.length l0_0) (hc0_0 : l0_0.length ≤ c0_0) (hr0_4 : Kd.C k49 w A0_4 l0_4.length l0_4) (hc0_4 : l0_4.length ≤ c0_4) (hr1_0 : Kd.C k39 w A1_0 l1_0.length l1_0) (hc1_0 : l1_0.length ≤ c1_0) (h : impl_BlockOk.f k l0_0 a0_1 a0_2 a0_3 l0_4 l1_0 a1_1 a1_2 a1_3 a1_4 = some r) :
    Calls Try.prog 32 #[.agg #[.slice A0_0 l0_0.length c0_0, .int .i64 a0_1, .int .i64 a0_2, .int .i64 a0_3, .slice A0_4 l0_4.length c0_4], .agg #[.slice A1_0 l1_0.length c1_0, .int .i64 a1_1, .int .i64 a1_2, .int .i64 a1_3, .int .i64 a1_4]] w fun e w' => e = .returned (.bool r) ∧ Below w.heap.size w w' := by
  have hu30 := Try.underlying30
  have hu49 := Try.underlying49
  have HR0_0 := Aside0.mk hr0_0
  have HC0_0 := Aside0.mk hc0_0
  clear hr0_0 hc0_0
  have HR0_4 := Aside0.mk hr0_4
  have HC0_4 := Aside0.mk hc0_4
  clear hr0_4 hc0_4
  have HR1_0 := Aside0.mk hr1_0
  have HC1_0 := Aside0.mk hc1_0
  clear hr1_0 hc1_0
  have HB := Aside0.mk (Below.refl w.heap.size w)
  have H : ((impl_isBlock.f k l0_0 a0_1 a0_2 a0_3 l0_4 l1_0 a1_1 a1_2 a1_3 a1_4).bind fun t103 => (some t103)) = some r := h
  clear h
  replace H := Option.bind_eq_some_iff.mp H
  obtain ⟨t103, A30, H⟩ := H
  replace H : (some t103) = some r := H
  have A3 := Aside0.mk A30
  clear A30
  obtain rfl := Option.some.inj H
  go_enter Try.func32, Try.ntmps32
  go_wp2_with (first | ((with_reducible refine gate_dst (N := 2) rfl ?_); refine box_event ?hg (N := 2) ?hd (cs := #[.slice A0_0 l0_0.length c0_0, .int .i64 a0_1, .int .i64 a0_2, .int .i64 a0_3, .slice A0_4 l0_4.length c0_4]) (t := 30) ?hr ?_; (case hd => rfl); (case hg => rfl); (case hr => first | (go_simp; done) | (go_simp; rfl)); intro gb101 hg w4 hbox hb; have n0_ := Aside0.mk (below_step (by repeat (first | (with_reducible first | exact HB.out | apply below_alloc | apply pw_below_drewN | apply below_drew1) | exact HB.out)) hb); have n1_ := Aside0.mk (hbox); have n2_ := Aside0.mk ((by rw [hg]; exact (below_size (by repeat (first | (with_reducible first | exact HB.out | apply below_alloc | apply pw_below_drewN | apply below_drew1) | exact HB.out))) : w.heap.size ≤ gb101)); have n3_ := Aside0.mk ((by rw [hg]; exact (below_size (by repeat (first | (with_reducible first | exact HB.out | apply below_alloc | apply pw_below_drewN | apply below_drew1) | exact HB.out))) : w.heap.size ≤ gb101)); clear HB; have HB := n0_; have BK101 := n1_; have GW101 := n2_; have GE101 := n3_; clear n0_ n1_ n2_ n3_; clear hb hbox hg) | ((with_reducible refine gate_dst (N := 3) rfl ?_); refine box_event ?hg (N := 3) ?hd (cs := #[.slice A1_0 l1_0.length c1_0, .int .i64 a1_1, .int .i64 a1_2, .int .i64 a1_3, .int .i64 a1_4]) (t := 49) ?hr ?_; (case hd => rfl); (case hg => rfl); (case hr => first | (go_simp; done) | (go_simp; rfl)); intro gb102 hg w5 hbox hb; have n0_ := Aside0.mk (blk_below (g := gb101) (o := .cells #[.slice A0_0 l0_0.length c0_0, .int .i64 a0_1, .int .i64 a0_2, .int .i64 a0_3, .slice A0_4 l0_4.length c0_4] 30 (0, 0)) (by (with_reducible repeat (first | refine blk_drewN ?_ _ | refine blk_drew ?_ | refine blk_alloc ?_ _)); exact BK101.out) hb); have n1_ := Aside0.mk (below_step (by repeat (first | (with_reducible first | exact HB.out | apply below_alloc | apply pw_below_drewN | apply below_drew1 | refine below_set ?_ GE101.out) | exact HB.out)) hb); have n2_ := Aside0.mk (hbox); have n3_ := Aside0.mk ((by rw [hg]; exact (below_size (by repeat (first | (with_reducible first | exact HB.out | apply below_alloc | apply pw_below_drewN | apply below_drew1 | refine below_set ?_ GE101.out) | exact HB.out))) : w.heap.size ≤ gb102)); have n4_ := Aside0.mk ((by rw [hg]; exact (below_size (by repeat (first | (with_reducible first | exact HB.out | apply below_alloc | apply pw_below_drewN | apply below_drew1 | refine below_set ?_ GE101.out) | exact HB.out))) : w.heap.size ≤ gb102)); have n5_ := Aside0.mk ((by rw [hg]; exact Nat.ne_of_lt (blk_lt (g := gb101) (o := .cells #[.slice A0_0 l0_0.length c0_0, .int .i64 a0_1, .int .i64 a0_2, .int .i64 a0_3, .slice A0_4 l0_4.length c0_4] 30 (0, 0)) (by (with_reducible repeat (first | refine blk_drewN ?_ _ | refine blk_drew ?_ | refine blk_alloc ?_ _)); exact BK101.out)) : gb101 ≠ gb102)); have n6_ := Aside0.mk ((by rw [hg]; exact Nat.ne_of_gt (blk_lt (g := gb101) (o := .cells #[.slice A0_0 l0_0.length c0_0, .int .i64 a0_1, .int .i64 a0_2, .int .i64 a0_3, .slice A0_4 l0_4.length c0_4] 30 (0, 0)) (by (with_reducible repeat (first | refine blk_drewN ?_ _ | refine blk_drew ?_ | refine blk_alloc ?_ _)); exact BK101.out)) : gb102 ≠ gb101)); clear BK101; clear HB; have BK101 := n0_; have HB := n1_; have BK102 := n2_; have GW102 := n3_; have GE102 := n4_; have NB101_102 := n5_; have NB102_101 := n6_; clear n0_ n1_ n2_ n3_ n4_ n5_ n6_; clear hb hbox hg; have hnb6 := NB101_102.out; have hnc6 := NB102_101.out; obtain ⟨hcz7_0, hcz7_1, hcz7_2, hcz7_3, hcz7_4, hfz7_0, hfz7_1, hfz7_2, hfz7_3, hfz7_4⟩ := bx5 BK101.out; obtain ⟨hcz8_0, hcz8_1, hcz8_2, hcz8_3, hcz8_4, hfz8_0, hfz8_1, hfz8_2, hfz8_3, hfz8_4⟩ := bx5 BK102.out) | ((with_reducible refine gate_callee (f := 74) rfl ?_); refine goesL_ (some 7) rfl rfl Try.func74 (by kernel_rfl) rfl #[.agg #[.slice A0_0 l0_0.length c0_0, .int .i64 a0_1, .int .i64 a0_2, .int .i64 a0_3, .slice A0_4 l0_4.length c0_4], .agg #[.slice A1_0 l1_0.length c1_0, .int .i64 a1_1, .int .i64 a1_2, .int .i64 a1_3, .int .i64 a1_4]] rfl (by (try simp only [List.map_toArray, List.map_cons, List.map_nil]); first | done | rfl | (simp only [List.length_drop, List.length_take]; rfl)) ?_; (with_reducible refine (impl_isBlock.calls k _ _ l0_0 a0_1 a0_2 a0_3 _ _ l0_4 _ _ l1_0 a1_1 a1_2 a1_3 a1_4 t103 _ ?side1 ?side2 ?side3 ?side4 ?side5 ?side6 A3.out).mono ?_); (case side1 => repeat (first | exact (Kd.C_below HR0_0.out HB.out) | (with_reducible refine Kd.C_alloc ?_ _) | (with_reducible refine Kd.C_drewN ?_ _) | (with_reducible refine Kd.C_drew ?_))); (case side2 => exact HC0_0.out); (case side3 => repeat (first | exact (Kd.C_below HR0_4.out HB.out) | (with_reducible refine Kd.C_alloc ?_ _) | (with_reducible refine Kd.C_drewN ?_ _) | (with_reducible refine Kd.C_drew ?_))); (case side4 => exact HC0_4.out); (case side5 => repeat (first | exact (Kd.C_below HR1_0.out HB.out) | (with_reducible refine Kd.C_alloc ?_ _) | (with_reducible refine Kd.C_drewN ?_ _) | (with_reducible refine Kd.C_drew ?_))); (case side6 => exact HC1_0.out); rintro e w9 ⟨rfl, hb⟩; refine ⟨_, rfl, ?_⟩; have n0_ := Aside0.mk (blk_below (g := gb101) (o := .cells #[.slice A0_0 l0_0.length c0_0, .int .i64 a0_1, .int .i64 a0_2, .int .i64 a0_3, .slice A0_4 l0_4.length c0_4] 30 (0, 0)) (by (with_reducible repeat (first | refine blk_drewN ?_ _ | refine blk_drew ?_ | refine blk_alloc ?_ _)); exact BK101.out) hb); have n1_ := Aside0.mk (blk_below (g := gb102) (o := .cells #[.slice A1_0 l1_0.length c1_0, .int .i64 a1_1, .int .i64 a1_2, .int .i64 a1_3, .int .i64 a1_4] 49 (0, 0)) (by (with_reducible repeat (first | refine blk_drewN ?_ _ | refine blk_drew ?_ | refine blk_alloc ?_ _)); exact BK102.out) hb); have n2_ := Aside0.mk (below_step (by repeat (first | (with_reducible first | exact HB.out | apply below_alloc | apply pw_below_drewN | apply below_drew1 | refine below_set ?_ GE101.out | refine below_set ?_ GE102.out) | exact HB.out)) hb); clear BK101; clear BK102; clear HB; have BK101 := n0_; have BK102 := n1_; have HB := n2_; clear n0_ n1_ n2_; (try clear hb); (try clear hb2); (try clear hk); (try clear hi)))
  go_ret
  exact ⟨by first | rfl | (simp [errW_none, errW_some] <;> rfl) | (simp [*, errW_none, errW_some] <;> rfl), by repeat (first | (with_reducible first | exact HB.out | apply below_alloc | apply pw_below_drewN | apply below_drew1 | refine below_set ?_ GE101.out | refine below_set ?_ GE102.out) | exact HB.out)⟩

end Go.Proofs.Ytbbpmcignfhfmaa.P
namespace Go.Proofs.Ytbbpmcignfhfmaa.Ok
open Go.RowKit Go.Proofs.Ytbbpmcignfhfmaa.P Go.Proofs.YtbbpmcignfhfmaaW.PrintWords Go.Proofs.YtbbpmcignfhfmaaW.PrintLast Go.Proofs.Ytbbpmcignfhfmaa.Aux
set_option linter.unusedVariables false
set_option linter.unusedSimpArgs false
/-- What isBlock answers. -/
def blockB (z s nb : Int) (code : List S39) (j a to_ el : Int) : Bool :=
  if (code.any fun x => !instrB z s x.f0 x.f1 x.f2 x.f3 x.f4 x.f5 x.f6) then false
  else if s < 0 then false
  else if j = 0 then inR to_ 0 (nb - 1) && (a == 0 && el == 0)
  else if j = 1 then inR to_ 0 (nb - 1) && (inR el 0 (nb - 1) && inB a s)
  else if j = 2 then inB a s && (to_ == 0 && el == 0)
  else false
def tailB (s nb : Int) (j a to_ el : Int) : Bool :=
  if j = 0 then inR to_ 0 (nb - 1) && (a == 0 && el == 0)
  else if j = 1 then inR to_ 0 (nb - 1) && (inR el 0 (nb - 1) && inB a s)
  else if j = 2 then inB a s && (to_ == 0 && el == 0)
  else false
theorem rdII' (xs : List S39) (i : Nat) (h : i < xs.length) : rd_T39 xs (i : Int) = xs[i] := by simp [rd_T39, List.getD_eq_getElem?_getD, List.getElem?_eq_getElem h]
theorem block_l0 (zs : List Int) (p v s : Int) (bs : List S49) (code : List S39) (j a to_ el : Int) (hs : 0 ≤ s) (hs2 : s ≤ 9223372036854775807) (hz : zs.length ≤ 9223372036854775807) (hb : bs.length ≤ 9223372036854775807) (hn : code.length < 9223372036854775807) (d : Nat) : ∀ i : Nat, i + d = code.length →
    Ev (fun k => spec_l04BlockOk.l0 k (i : Int) zs p v s bs code j a to_ el) (if ((code.drop i).any fun x => !instrB (zs.length : Int) s x.f0 x.f1 x.f2 x.f3 x.f4 x.f5 x.f6) then false else tailB s (bs.length : Int) j a to_ el) := by
  induction d with
  | zero =>
    intro i hi
    rw [List.drop_eq_nil_of_le (by omega)]
    refine ⟨1, fun k hk => ?_⟩
    obtain ⟨m, rfl⟩ : ∃ m, k = m + 1 := ⟨k - 1, by omega⟩
    have w1 : wrap64 (s - 1) = s - 1 := wrap_ok (by omega) (by omega)
    have w2 : wrap64 ((bs.length : Int) - 1) = (bs.length : Int) - 1 := wrap_ok (by omega) (by omega)
    have inS : ∀ x, inR x 0 (s - 1) = inB x s := fun x => inR_inB x s
    have hc : ¬ (i : Int) < (code.length : Int) := by omega
    have L1 : ∀ X Y : Bool, (if X = true then some Y else some false) = some (X && Y) := fun X Y => by cases X <;> rfl
    have L2 : ∀ (x : Int) (Y : Bool), (if x = 0 then some Y else some false) = some ((x == 0) && Y) := fun x Y => by by_cases h : x = 0 <;> simp [h]
    clear hi hk hs hs2 hz hb hn
    simp only [spec_l04BlockOk.l0, if_neg hc, w1, w2, in_some, inS, Option.bind_some, List.any_nil]
    unfold tailB
    generalize inR to_ 0 ((bs.length : Int) - 1) = T
    generalize inR el 0 ((bs.length : Int) - 1) = E
    generalize inB a s = A
    by_cases h0 : j = 0
    · simp [h0, L1, L2, Bool.and_comm, Bool.and_left_comm, Bool.and_assoc]
    by_cases h1 : j = 1
    · simp [h1, L1, L2, Bool.and_comm, Bool.and_left_comm, Bool.and_assoc]
    by_cases h2 : j = 2
    · simp [h2, L1, L2, Bool.and_comm, Bool.and_left_comm, Bool.and_assoc]
    simp [h0, h1, h2]
  | succ d ih =>
    intro i hi
    have hd : code.drop i = code[i]'(by omega) :: code.drop (i + 1) := List.drop_eq_getElem_cons (by omega)
    have hr := rdII' code i (by omega)
    rw [hd, List.any_cons]
    have hi2 := instr_ev zs p v s bs (code[i]'(by omega)).f0 (code[i]'(by omega)).f1 (code[i]'(by omega)).f2 (code[i]'(by omega)).f3 (code[i]'(by omega)).f4 (code[i]'(by omega)).f5 (code[i]'(by omega)).f6 hs hs2 hz
    cases hq : instrB (zs.length : Int) s (code[i]'(by omega)).f0 (code[i]'(by omega)).f1 (code[i]'(by omega)).f2 (code[i]'(by omega)).f3 (code[i]'(by omega)).f4 (code[i]'(by omega)).f5 (code[i]'(by omega)).f6 with
    | false =>
      rw [hq] at hi2
      refine Ev.step (fun k => by rw [spec_l04BlockOk.l0, if_pos (by omega), if_pos (by omega), hr]) (Ev.bind hi2 (f := fun k t => if t = true then spec_l04BlockOk.l0 k (wrap64 ((i : Int) + 1)) zs p v s bs code j a to_ el else some false) ?_)
      exact Ev.ite_neg (by simp) (Ev.now _)
    | true =>
      rw [hq] at hi2
      refine Ev.step (fun k => by rw [spec_l04BlockOk.l0, if_pos (by omega), if_pos (by omega), hr]) (Ev.bind hi2 (f := fun k t => if t = true then spec_l04BlockOk.l0 k (wrap64 ((i : Int) + 1)) zs p v s bs code j a to_ el else some false) ?_)
      rw [wrap_ok (by omega) (by omega), ← Int.natCast_succ]
      exact Ev.ite_pos rfl (ih (i + 1) (by omega))
theorem block_ev (zs : List Int) (p v s : Int) (bs : List S49) (code : List S39) (j a to_ el : Int) (hs : 0 ≤ s) (hs2 : s ≤ 9223372036854775807) (hz : zs.length ≤ 9223372036854775807) (hb : bs.length ≤ 9223372036854775807) (hn : code.length < 9223372036854775807) :
    Ev (fun k => spec_l04BlockOk.f k zs p v s bs code j a to_ el) (blockB (zs.length : Int) s (bs.length : Int) code j a to_ el) := by
  have h := block_l0 zs p v s bs code j a to_ el hs hs2 hz hb hn code.length 0 (by omega)
  rw [List.drop_zero] at h
  unfold blockB
  rw [if_neg (show ¬ s < 0 by omega)]
  exact h
theorem blockB_low (z s nb : Int) (code : List S39) (j a to_ el : Int) (hs : s < 0) : blockB z s nb code j a to_ el = false := by
  unfold blockB
  rw [if_pos hs]
  split <;> rfl
theorem in_some' (x a b : Int) : impl_in.f x a b = some (inR x a b) := by
  unfold impl_in.f inR
  by_cases h : x ≥ a
  · rw [if_pos h, decide_eq_true h, Bool.true_and]
  · rw [if_neg h, decide_eq_false h, Bool.false_and]
theorem isBlock_ev (zs : List Int) (p v s : Int) (bs : List S49) (code : List S39) (j a to_ el : Int) (hb : bs.length ≤ 9223372036854775807) :
    Ev (fun k => impl_isBlock.f k zs p v s bs code j a to_ el) (blockB (zs.length : Int) s (bs.length : Int) code j a to_ el) := by
  have w2 : wrap64 ((bs.length : Int) - 1) = (bs.length : Int) - 1 := wrap_ok (by omega) (by omega)
  have L1 : ∀ X Y : Bool, (if X = true then some Y else some false) = some (X && Y) := fun X Y => by cases X <;> rfl
  have L2 : ∀ (x : Int) (Y : Bool), (if x = 0 then some Y else some false) = some ((x == 0) && Y) := fun x Y => by by_cases h : x = 0 <;> simp [h]
  have L5 : ∀ Y : Bool, (if a < s then some Y else some false) = some (decide (a < s) && Y) := fun Y => by by_cases h : a < s <;> simp [h]
  refine ⟨1, fun k hk => ?_⟩
  obtain ⟨m, rfl⟩ : ∃ m, k = m + 1 := ⟨k - 1, by omega⟩
  clear hk hb
  unfold impl_isBlock.f impl_Instr_106.f blockB
  simp only [Option.bind_some, w2, in_some', impl_isBlock.j0]
  have hA : inB a s = (decide (0 ≤ a) && decide (a < s)) := rfl
  rw [hA]
  generalize (code.any fun x => !instrB (zs.length : Int) s x.f0 x.f1 x.f2 x.f3 x.f4 x.f5 x.f6) = K
  generalize inR to_ 0 ((bs.length : Int) - 1) = T
  generalize inR el 0 ((bs.length : Int) - 1) = E
  cases K with
  | true => simp
  | false =>
    by_cases hs : s < 0
    · by_cases ha : a ≥ 0 <;> simp [hs, ha]
    by_cases ha : a ≥ 0
    · have ha' : 0 ≤ a := ha
      by_cases h0 : j = 0
      · simp [h0, hs, ha, ha', L1, L2, L5, Bool.and_comm, Bool.and_left_comm, Bool.and_assoc]
      by_cases h1 : j = 1
      · simp [h1, hs, ha, ha', L1, L2, L5, Bool.and_comm, Bool.and_left_comm, Bool.and_assoc]
      by_cases h2 : j = 2
      · simp [h2, hs, ha, ha', L1, L2, L5, Bool.and_comm, Bool.and_left_comm, Bool.and_assoc]
      simp [h0, h1, h2, hs, ha]
    · have ha' : ¬ 0 ≤ a := ha
      by_cases h0 : j = 0
      · simp [h0, hs, ha, ha', L1, L2, L5, Bool.and_comm, Bool.and_left_comm, Bool.and_assoc]
      by_cases h1 : j = 1
      · simp [h1, hs, ha, ha', L1, L2, L5, Bool.and_comm, Bool.and_left_comm, Bool.and_assoc]
      by_cases h2 : j = 2
      · simp [h2, hs, ha, ha', L1, L2, L5, Bool.and_comm, Bool.and_left_comm, Bool.and_assoc]
      simp [h0, h1, h2, hs, ha]
end Go.Proofs.Ytbbpmcignfhfmaa.Ok
