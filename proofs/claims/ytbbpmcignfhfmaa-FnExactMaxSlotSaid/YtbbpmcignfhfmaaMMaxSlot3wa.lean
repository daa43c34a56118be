/- Printed by a program over this seat's translation: a Lean function for each Go function, and that the Go code comes to its answers. -/
import Derived.Test.YtbbpmcignfhfmaaMMaxSlot0a
import Derived.Test.YtbbpmcignfhfmaaMMaxSlotxF77
import Derived.Test.YtbbpmcignfhfmaaMMaxSlot0b
namespace Go.Proofs.Ytbbpmcignfhfmaa.P
open Go.RowKit Go.Proofs.YtbbpmcignfhfmaaW.PrintWords Go.Proofs.YtbbpmcignfhfmaaW.PrintLast Go.Proofs.YtbbpmcignfhfmaaW.PrintMore
attribute [local go_sem] max2_int min2_int max_two min_two max_three min_three max_four min_four   -- for this text's walks alone
set_option linter.unusedVariables false
set_option linter.unusedSimpArgs false

/-! ### impl_MaxSlot: function 37 -/
mutual
def impl_MaxSlot.l0 : Nat → Int → List (S49) → Int → Int → Option (Int)
  | 0, _, _, _, _ => none
  | k + 1, x3, x14, x15, x16 => if x16 < x15 then (if 0 ≤ x16 then (if x16 < (x14.length : Int) then (impl_MaxSlot.l1 k x3 x14 x15 x16 ((rd_T49 x14 x16).f0) (((rd_T49 x14 x16).f0).length : Int) 0 ((rd_T49 x14 x16).f0) ((rd_T49 x14 x16).f1) ((rd_T49 x14 x16).f2) ((rd_T49 x14 x16).f3) ((rd_T49 x14 x16).f4)) else (none)) else (none)) else (some x3)
def impl_MaxSlot.l1 : Nat → Int → List (S49) → Int → Int → List (S39) → Int → Int → List (S39) → Int → Int → Int → Int → Option (Int)
  | 0, _, _, _, _, _, _, _, _, _, _, _, _ => none
  | k + 1, x3, x14, x15, x16, x21, x22, x23, x105000, x105001, x105002, x105003, x105004 => if x23 < x22 then (if 0 ≤ x23 then (if x23 < (x21.length : Int) then ((impl_makes.f ((rd_T39 x21 x23).f0) ((rd_T39 x21 x23).f1) ((rd_T39 x21 x23).f2) ((rd_T39 x21 x23).f3) ((rd_T39 x21 x23).f4) ((rd_T39 x21 x23).f5) ((rd_T39 x21 x23).f6)).bind fun t107 => ((impl_usesOf.f k ((rd_T39 x21 x23).f0) ((rd_T39 x21 x23).f1) ((rd_T39 x21 x23).f2) ((rd_T39 x21 x23).f3) ((rd_T39 x21 x23).f4) ((rd_T39 x21 x23).f5) ((rd_T39 x21 x23).f6)).bind fun t108 => (impl_MaxSlot.l2 k (mx x3 t107) x14 x15 x16 x21 x22 x23 t108 (t108.length : Int) 0 x105000 x105001 x105002 x105003 x105004))) else (none)) else (none)) else (if x105001 = 0 then (impl_MaxSlot.l0 k x3 x14 x15 (wrap64 (x16 + 1))) else (impl_MaxSlot.l0 k (mx x3 x105002) x14 x15 (wrap64 (x16 + 1))))
def impl_MaxSlot.l2 : Nat → Int → List (S49) → Int → Int → List (S39) → Int → Int → List Int → Int → Int → List (S39) → Int → Int → Int → Int → Option (Int)
  | 0, _, _, _, _, _, _, _, _, _, _, _, _, _, _, _ => none
  | k + 1, x3, x14, x15, x16, x21, x22, x23, x32, x33, x34, x105000, x105001, x105002, x105003, x105004 => if x34 < x33 then (if 0 ≤ x34 then (if x34 < (x32.length : Int) then (impl_MaxSlot.l2 k (mx x3 (rd x32 x34)) x14 x15 x16 x21 x22 x23 x32 x33 (wrap64 (x34 + 1)) x105000 x105001 x105002 x105003 x105004) else (none)) else (none)) else (impl_MaxSlot.l1 k x3 x14 x15 x16 x21 x22 (wrap64 (x23 + 1)) x105000 x105001 x105002 x105003 x105004)
end
def impl_MaxSlot.f (k : Nat) (l0_0 : List Int) (a0_1 : Int) (a0_2 : Int) (a0_3 : Int) (l0_4 : List (S49)) : Option (Int) := (impl_isGraph.f k l0_0 a0_1 a0_2 a0_3 l0_4).bind fun t102 => (if t102 = true then (impl_MaxSlot.l0 k (-1) l0_4 (l0_4.length : Int) 0) else (some (-1)))
theorem impl_MaxSlot.mono_l : ∀ k, (∀ y0 y1 y2 y3, LeO (impl_MaxSlot.l0 k y0 y1 y2 y3) (impl_MaxSlot.l0 (k + 1) y0 y1 y2 y3)) ∧ (∀ y0 y1 y2 y3 y4 y5 y6 y7 y8 y9 y10 y11, LeO (impl_MaxSlot.l1 k y0 y1 y2 y3 y4 y5 y6 y7 y8 y9 y10 y11) (impl_MaxSlot.l1 (k + 1) y0 y1 y2 y3 y4 y5 y6 y7 y8 y9 y10 y11)) ∧ (∀ y0 y1 y2 y3 y4 y5 y6 y7 y8 y9 y10 y11 y12 y13 y14, LeO (impl_MaxSlot.l2 k y0 y1 y2 y3 y4 y5 y6 y7 y8 y9 y10 y11 y12 y13 y14) (impl_MaxSlot.l2 (k + 1) y0 y1 y2 y3 y4 y5 y6 y7 y8 y9 y10 y11 y12 y13 y14))
  | 0 => ⟨fun _ _ _ _ r h => by simp [impl_MaxSlot.l0] at h, fun _ _ _ _ _ _ _ _ _ _ _ _ r h => by simp [impl_MaxSlot.l1] at h, fun _ _ _ _ _ _ _ _ _ _ _ _ _ _ _ r h => by simp [impl_MaxSlot.l2] at h⟩
  | k + 1 => by
    obtain ⟨ih0, ih1, ih2⟩ := impl_MaxSlot.mono_l k
    refine ⟨?_, ?_, ?_⟩
    · intro y0 y1 y2 y3
      unfold impl_MaxSlot.l0
      repeat' first
      | (with_reducible exact ih0 _ _ _ _)
      | (with_reducible exact ih1 _ _ _ _ _ _ _ _ _ _ _ _)
      | (with_reducible exact ih2 _ _ _ _ _ _ _ _ _ _ _ _ _ _ _)
      | (with_reducible exact impl_isGraph.mono _ _ _ _ _ _)
      | (with_reducible exact impl_usesOf.mono _ _ _ _ _ _ _ _)
      | (with_reducible exact LeO.refl _)
      | (with_reducible exact LeO.none _)
      | (with_reducible refine LeO.ite ?_ ?_)
      | (with_reducible refine LeO.bind ?_ (fun _ => ?_))
      | exact ih0 _ _ _ _
      | exact ih1 _ _ _ _ _ _ _ _ _ _ _ _
      | exact ih2 _ _ _ _ _ _ _ _ _ _ _ _ _ _ _
      | exact impl_isGraph.mono _ _ _ _ _ _
      | exact impl_usesOf.mono _ _ _ _ _ _ _ _
      | exact LeO.none _
      | refine LeO.ite ?_ ?_
      | refine LeO.bind ?_ (fun _ => ?_)
    · intro y0 y1 y2 y3 y4 y5 y6 y7 y8 y9 y10 y11
      unfold impl_MaxSlot.l1
      repeat' first
      | (with_reducible exact ih0 _ _ _ _)
      | (with_reducible exact ih1 _ _ _ _ _ _ _ _ _ _ _ _)
      | (with_reducible exact ih2 _ _ _ _ _ _ _ _ _ _ _ _ _ _ _)
      | (with_reducible exact impl_isGraph.mono _ _ _ _ _ _)
      | (with_reducible exact impl_usesOf.mono _ _ _ _ _ _ _ _)
      | (with_reducible exact LeO.refl _)
      | (with_reducible exact LeO.none _)
      | (with_reducible refine LeO.ite ?_ ?_)
      | (with_reducible refine LeO.bind ?_ (fun _ => ?_))
      | exact ih0 _ _ _ _
      | exact ih1 _ _ _ _ _ _ _ _ _ _ _ _
      | exact ih2 _ _ _ _ _ _ _ _ _ _ _ _ _ _ _
      | exact impl_isGraph.mono _ _ _ _ _ _
      | exact impl_usesOf.mono _ _ _ _ _ _ _ _
      | exact LeO.none _
      | refine LeO.ite ?_ ?_
      | refine LeO.bind ?_ (fun _ => ?_)
    · intro y0 y1 y2 y3 y4 y5 y6 y7 y8 y9 y10 y11 y12 y13 y14
      unfold impl_MaxSlot.l2
      repeat' first
      | (with_reducible exact ih0 _ _ _ _)
      | (with_reducible exact ih1 _ _ _ _ _ _ _ _ _ _ _ _)
      | (with_reducible exact ih2 _ _ _ _ _ _ _ _ _ _ _ _ _ _ _)
      | (with_reducible exact impl_isGraph.mono _ _ _ _ _ _)
      | (with_reducible exact impl_usesOf.mono _ _ _ _ _ _ _ _)
      | (with_reducible exact LeO.refl _)
      | (with_reducible exact LeO.none _)
      | (with_reducible refine LeO.ite ?_ ?_)
      | (with_reducible refine LeO.bind ?_ (fun _ => ?_))
      | exact ih0 _ _ _ _
      | exact ih1 _ _ _ _ _ _ _ _ _ _ _ _
      | exact ih2 _ _ _ _ _ _ _ _ _ _ _ _ _ _ _
      | exact impl_isGraph.mono _ _ _ _ _ _
      | exact impl_usesOf.mono _ _ _ _ _ _ _ _
      | exact LeO.none _
      | refine LeO.ite ?_ ?_
      | refine LeO.bind ?_ (fun _ => ?_)
theorem impl_MaxSlot.mono : ∀ a0 a1 a2 a3 a4 k, LeO (impl_MaxSlot.f k a0 a1 a2 a3 a4) (impl_MaxSlot.f (k + 1) a0 a1 a2 a3 a4) := by
  intro a0 a1 a2 a3 a4 k
  obtain ⟨ih0, ih1, ih2⟩ := impl_MaxSlot.mono_l k
  unfold impl_MaxSlot.f
  repeat' first
      | (with_reducible exact ih0 _ _ _ _)
      | (with_reducible exact ih1 _ _ _ _ _ _ _ _ _ _ _ _)
      | (with_reducible exact ih2 _ _ _ _ _ _ _ _ _ _ _ _ _ _ _)
      | (with_reducible exact impl_isGraph.mono _ _ _ _ _ _)
      | (with_reducible exact impl_usesOf.mono _ _ _ _ _ _ _ _)
      | (with_reducible exact LeO.refl _)
      | (with_reducible exact LeO.none _)
      | (with_reducible refine LeO.ite ?_ ?_)
      | (with_reducible refine LeO.bind ?_ (fun _ => ?_))
      | exact ih0 _ _ _ _
      | exact ih1 _ _ _ _ _ _ _ _ _ _ _ _
      | exact ih2 _ _ _ _ _ _ _ _ _ _ _ _ _ _ _
      | exact impl_isGraph.mono _ _ _ _ _ _
      | exact impl_usesOf.mono _ _ _ _ _ _ _ _
      | exact LeO.none _
      | refine LeO.ite ?_ ?_
      | refine LeO.bind ?_ (fun _ => ?_)
set_option maxHeartbeats 8000000 in
set_option maxRecDepth 100000 in
theorem impl_MaxSlot.calls (k : Nat) (A0_0 : Option Addr) (c0_0 : Nat) (l0_0 : List Int) (a0_1 : Int) (a0_2 : Int) (a0_3 : Int) (A0_4 : Option Addr) (c0_4 : Nat) (l0_4 : List (S49)) (r : Int) (w : World) (hr0_0 : Kd.C (Kd.int .i64) w A0_0 l0_0.length l0_0) (hc0_0 : l0_0.length ≤ c0_0) (hr0_4 : Kd.C k49 w A0_4 l0_4.length l0_4) (hc0_4 : l0_4.length ≤ c0_4) (h : impl_MaxSlot.f k l0_0 a0_1 a0_2 a0_3 l0_4 = some r) :
    Calls Try.prog 37 #[.agg #[.slice A0_0 l0_0.length c0_0, .int .i64 a0_1, .int .i64 a0_2, .int .i64 a0_3, .slice A0_4 l0_4.length c0_4]] w fun e w' => e = .returned (.int .i64 r) ∧ Below w.heap.size w w' := by
  have hu30 := Try.underlying30
  have hu49 := Try.underlying49
  have hu39 := Try.underlying39
  have HR0_0 := Aside0.mk hr0_0
  have HC0_0 := Aside0.mk hc0_0
  clear hr0_0 hc0_0
  have HR0_4 := Aside0.mk hr0_4
  have HC0_4 := Aside0.mk hc0_4
  clear hr0_4 hc0_4
  have HB := Aside0.mk (Below.refl w.heap.size w)
  have H : ((impl_isGraph.f k l0_0 a0_1 a0_2 a0_3 l0_4).bind fun t102 => (if t102 = true then (impl_MaxSlot.l0 k (-1) l0_4 (l0_4.length : Int) 0) else (some (-1)))) = some r := h
  clear h
  replace H := Option.bind_eq_some_iff.mp H
  obtain ⟨t102, A20, H⟩ := H
  replace H : (if t102 = true then (impl_MaxSlot.l0 k (-1) l0_4 (l0_4.length : Int) 0) else (some (-1))) = some r := H
  have A2 := Aside0.mk A20
  clear A20
  by_cases c3 : t102 = true
  · subst c3
    have H1 : (impl_MaxSlot.l0 k (-1) l0_4 (l0_4.length : Int) 0) = some r := by rw [if_pos rfl] at H; exact H
    clear H
    have H := H1
    clear H1
    have H' := Aside0.mk H
    clear H
    go_enter Try.func37, Try.ntmps37
    go_wp2_with (first | ((with_reducible refine gate_dst (N := 1) rfl ?_); refine box_event ?hg (N := 1) ?hd (cs := #[.slice A0_0 l0_0.length c0_0, .int .i64 a0_1, .int .i64 a0_2, .int .i64 a0_3, .slice A0_4 l0_4.length c0_4]) (t := 30) ?hr ?_; (case hd => rfl); (case hg => rfl); (case hr => first | (go_simp; done) | (go_simp; rfl)); intro gb101 hg w4 hbox hb; have n0_ := Aside0.mk (below_step (by repeat (first | (with_reducible first | exact HB.out | apply below_alloc | apply pw_below_drewN | apply below_drew1) | exact HB.out)) hb); have n1_ := Aside0.mk (hbox); have n2_ := Aside0.mk ((by rw [hg]; exact (below_size (by repeat (first | (with_reducible first | exact HB.out | apply below_alloc | apply pw_below_drewN | apply below_drew1) | exact HB.out))) : w.heap.size ≤ gb101)); have n3_ := Aside0.mk ((by rw [hg]; exact (below_size (by repeat (first | (with_reducible first | exact HB.out | apply below_alloc | apply pw_below_drewN | apply below_drew1) | exact HB.out))) : w.heap.size ≤ gb101)); clear HB; have HB := n0_; have BK101 := n1_; have GW101 := n2_; have GE101 := n3_; clear n0_ n1_ n2_ n3_; clear hb hbox hg; obtain ⟨hcz5_0, hcz5_1, hcz5_2, hcz5_3, hcz5_4, hfz5_0, hfz5_1, hfz5_2, hfz5_3, hfz5_4⟩ := bx5 BK101.out) | ((with_reducible refine gate_callee (f := 77) rfl ?_); refine goesL_ (some 11) rfl rfl Try.func77 (by kernel_rfl) rfl #[.agg #[.slice A0_0 l0_0.length c0_0, .int .i64 a0_1, .int .i64 a0_2, .int .i64 a0_3, .slice A0_4 l0_4.length c0_4]] rfl (by (try simp only [List.map_toArray, List.map_cons, List.map_nil]); first | done | rfl | (simp only [List.length_drop, List.length_take]; rfl)) ?_; (with_reducible refine (impl_isGraph.calls k _ _ l0_0 a0_1 a0_2 a0_3 _ _ l0_4 true _ ?side1 ?side2 ?side3 ?side4 A2.out).mono ?_); (case side1 => repeat (first | exact (Kd.C_below HR0_0.out HB.out) | (with_reducible refine Kd.C_alloc ?_ _) | (with_reducible refine Kd.C_drewN ?_ _) | (with_reducible refine Kd.C_drew ?_))); (case side2 => exact HC0_0.out); (case side3 => repeat (first | exact (Kd.C_below HR0_4.out HB.out) | (with_reducible refine Kd.C_alloc ?_ _) | (with_reducible refine Kd.C_drewN ?_ _) | (with_reducible refine Kd.C_drew ?_))); (case side4 => exact HC0_4.out); rintro e w6 ⟨rfl, hb⟩; refine ⟨_, rfl, ?_⟩; have n0_ := Aside0.mk (blk_below (g := gb101) (o := .cells #[.slice A0_0 l0_0.length c0_0, .int .i64 a0_1, .int .i64 a0_2, .int .i64 a0_3, .slice A0_4 l0_4.length c0_4] 30 (0, 0)) (by (with_reducible repeat (first | refine blk_drewN ?_ _ | refine blk_drew ?_ | refine blk_alloc ?_ _)); exact BK101.out) hb); have n1_ := Aside0.mk (below_step (by repeat (first | (with_reducible first | exact HB.out | apply below_alloc | apply pw_below_drewN | apply below_drew1 | refine below_set ?_ GE101.out) | exact HB.out)) hb); clear BK101; clear HB; have BK101 := n0_; have HB := n1_; clear n0_ n1_; (try clear hb); (try clear hb2); (try clear hk); (try clear hi); obtain ⟨hcz7_0, hcz7_1, hcz7_2, hcz7_3, hcz7_4, hfz7_0, hfz7_1, hfz7_2, hfz7_3, hfz7_4⟩ := bx5 BK101.out))
    go_loopg [3, 16] k (fun kq v3 v16 w' => ∃ (x3_1 : Int) (x16_1 : Int), v3 = .int .i64 x3_1 ∧ v16 = .int .i64 x16_1 ∧ Aside0 (impl_MaxSlot.l0 kq x3_1 l0_4 (l0_4.length : Int) x16_1 = some r) ∧ Aside0 (kq ≤ k) ∧ Aside0 (w'.heap[gb101]? = some (.cells #[(.slice A0_0 l0_0.length c0_0), .int .i64 a0_1, .int .i64 a0_2, .int .i64 a0_3, (.slice A0_4 l0_4.length c0_4)] 30 (0, 0))) ∧ Aside0 (Below w.heap.size w w'))
    case atStart => exact ⟨((-1)), (0), (by first | rfl | (simp; done) | (simp [*]; done)), (by first | rfl | (simp; done) | (simp [*]; done)), H', ⟨Nat.le_refl _⟩, ⟨by (with_reducible repeat (first | refine blk_drewN ?_ _ | refine blk_drew ?_ | refine blk_alloc ?_ _)); exact BK101.out⟩, ⟨by repeat (first | (with_reducible first | exact HB.out | apply below_alloc | apply pw_below_drewN | apply below_drew1 | refine below_set ?_ GE101.out) | exact HB.out)⟩⟩
    case round =>
      clear H'
      try clear p2
      try clear c3
      try clear c7
      try clear hcz5_0
      try clear hcz5_1
      try clear hcz5_2
      try clear hcz5_3
      try clear hcz5_4
      try clear hcz7_0
      try clear hcz7_1
      try clear hcz7_2
      try clear hcz7_3
      try clear hcz7_4
      try clear hfz5_0
      try clear hfz5_1
      try clear hfz5_2
      try clear hfz5_3
      try clear hfz5_4
      try clear hfz7_0
      try clear hfz7_1
      try clear hfz7_2
      try clear hfz7_3
      try clear hfz7_4
      obtain ⟨x3_1, x16_1, rfl, rfl, HA, HK1, BK101, HB⟩ := hrel
      cases gk with
      | zero => exact absurd HA.out (by simp [impl_MaxSlot.l0])
      | succ k1 =>
        have H := HA.out
        clear HA
        simp only [impl_MaxSlot.l0] at H
        by_cases c8 : x16_1 < (l0_4.length : Int)
        · rw [if_pos c8] at H
          have c8b0 : decide (x16_1 < (l0_4.length : Int)) = true := decide_eq_true c8
          clear c8
          by_cases c9 : 0 ≤ x16_1
          · rw [if_pos c9] at H
            have c9b0 : decide (0 ≤ x16_1) = true := decide_eq_true c9
            clear c9
            by_cases c10 : x16_1 < (l0_4.length : Int)
            · rw [if_pos c10] at H
              have c10b0 : decide (x16_1 < (l0_4.length : Int)) = true := decide_eq_true c10
              clear c10
              have H' := Aside0.mk H
              clear H
              have p103 : 0 ≤ (x16_1 : Int) := of_decide_eq_true (by first | (with_reducible assumption) | assumption)
              have q103 : x16_1 < (l0_4.length : Int) := of_decide_eq_true (by first | (with_reducible assumption) | assumption)
              obtain ⟨ad103, A103_0, c103_0, e103, hx103_0, hx103_1, hx103_2, hx103_3, hx103_4, hl103_0, hi103_0⟩ := at_T49 HR0_4.out x16_1 p103 q103
              cases e103
              replace hx103_0 := (HB.out.cell (World.block_lt_of_cell? w _ hx103_0)).trans hx103_0
              replace hx103_1 := (HB.out.cell (World.block_lt_of_cell? w _ hx103_1)).trans hx103_1
              replace hx103_2 := (HB.out.cell (World.block_lt_of_cell? w _ hx103_2)).trans hx103_2
              replace hx103_3 := (HB.out.cell (World.block_lt_of_cell? w _ hx103_3)).trans hx103_3
              replace hx103_4 := (HB.out.cell (World.block_lt_of_cell? w _ hx103_4)).trans hx103_4
              have HR103_0 := Aside0.mk hi103_0
              have HC103_0 := Aside0.mk hl103_0
              clear hi103_0 hl103_0
              replace p103 := eq_true p103
              replace q103 := eq_true q103
              go_wp2_with (first | ((with_reducible refine gate_dst (N := 5) rfl ?_); refine box_event ?hg (N := 5) ?hd (cs := #[.slice none 0 0, .int .i64 0, .int .i64 0, .int .i64 0, .int .i64 0]) (t := 49) ?hr ?_; (case hd => rfl); (case hg => rfl); (case hr => first | (go_simp; done) | (go_simp; rfl)); intro gb104 hg w11 hbox hb; have n0_ := Aside0.mk (blk_below (g := gb101) (o := .cells #[.slice A0_0 l0_0.length c0_0, .int .i64 a0_1, .int .i64 a0_2, .int .i64 a0_3, .slice (some ad103) l0_4.length c0_4] 30 (0, 0)) (by (with_reducible repeat (first | refine blk_drewN ?_ _ | refine blk_drew ?_ | refine blk_alloc ?_ _)); exact BK101.out) hb); have n1_ := Aside0.mk (below_step (by repeat (first | (with_reducible first | exact HB.out | apply below_alloc | apply pw_below_drewN | apply below_drew1 | refine below_set ?_ GE101.out) | exact HB.out)) hb); have n2_ := Aside0.mk (hbox); have n3_ := Aside0.mk ((by rw [hg]; exact (below_size (by repeat (first | (with_reducible first | exact HB.out | apply below_alloc | apply pw_below_drewN | apply below_drew1 | refine below_set ?_ GE101.out) | exact HB.out))) : w.heap.size ≤ gb104)); have n4_ := Aside0.mk ((by rw [hg]; exact (below_size (by repeat (first | (with_reducible first | exact HB.out | apply below_alloc | apply pw_below_drewN | apply below_drew1 | refine below_set ?_ GE101.out) | exact HB.out))) : w.heap.size ≤ gb104)); have n5_ := Aside0.mk ((by rw [hg]; exact Nat.ne_of_lt (blk_lt (g := gb101) (o := .cells #[.slice A0_0 l0_0.length c0_0, .int .i64 a0_1, .int .i64 a0_2, .int .i64 a0_3, .slice (some ad103) l0_4.length c0_4] 30 (0, 0)) (by (with_reducible repeat (first | refine blk_drewN ?_ _ | refine blk_drew ?_ | refine blk_alloc ?_ _)); exact BK101.out)) : gb101 ≠ gb104)); have n6_ := Aside0.mk ((by rw [hg]; exact Nat.ne_of_gt (blk_lt (g := gb101) (o := .cells #[.slice A0_0 l0_0.length c0_0, .int .i64 a0_1, .int .i64 a0_2, .int .i64 a0_3, .slice (some ad103) l0_4.length c0_4] 30 (0, 0)) (by (with_reducible repeat (first | refine blk_drewN ?_ _ | refine blk_drew ?_ | refine blk_alloc ?_ _)); exact BK101.out)) : gb104 ≠ gb101)); clear BK101; clear HB; have BK101 := n0_; have HB := n1_; have BK104 := n2_; have GW104 := n3_; have GE104 := n4_; have NB101_104 := n5_; have NB104_101 := n6_; clear n0_ n1_ n2_ n3_ n4_ n5_ n6_; clear hb hbox hg; have hnb12 := NB104_101.out; have hnc12 := NB101_104.out; obtain ⟨hcz13_0, hcz13_1, hcz13_2, hcz13_3, hcz13_4, hfz13_0, hfz13_1, hfz13_2, hfz13_3, hfz13_4⟩ := bx5 BK104.out))
              go_loopg [3, 23] k1 (fun kq v3 v23 w' => ∃ (x3_2 : Int) (x23_2 : Int), v3 = .int .i64 x3_2 ∧ v23 = .int .i64 x23_2 ∧ Aside0 (impl_MaxSlot.l1 kq x3_2 l0_4 (l0_4.length : Int) x16_1 ((rd_T49 l0_4 x16_1).f0) (((rd_T49 l0_4 x16_1).f0).length : Int) x23_2 ((rd_T49 l0_4 x16_1).f0) ((rd_T49 l0_4 x16_1).f1) ((rd_T49 l0_4 x16_1).f2) ((rd_T49 l0_4 x16_1).f3) ((rd_T49 l0_4 x16_1).f4) = some r) ∧ Aside0 (kq ≤ k1) ∧ Aside0 (w'.heap[gb101]? = some (.cells #[(.slice A0_0 l0_0.length c0_0), .int .i64 a0_1, .int .i64 a0_2, .int .i64 a0_3, (.slice (some ad103) l0_4.length c0_4)] 30 (0, 0))) ∧ Aside0 (w'.heap[gb104]? = some (.cells #[(.slice A103_0 ((rd_T49 l0_4 x16_1).f0).length c103_0), .int .i64 ((rd_T49 l0_4 x16_1).f1), .int .i64 ((rd_T49 l0_4 x16_1).f2), .int .i64 ((rd_T49 l0_4 x16_1).f3), .int .i64 ((rd_T49 l0_4 x16_1).f4)] 49 (0, 0))) ∧ Aside0 (Below w.heap.size w w'))
              case atStart => exact ⟨(x3_1), (0), (by first | rfl | (simp; done) | (simp [*]; done)), (by first | rfl | (simp; done) | (simp [*]; done)), H', ⟨Nat.le_refl _⟩, ⟨by (with_reducible repeat (first | refine blk_drewN ?_ _ | refine blk_drew ?_ | refine blk_alloc ?_ _)); refine blk_far ?_ NB101_104.out _; (with_reducible repeat (first | refine blk_drewN ?_ _ | refine blk_drew ?_ | refine blk_alloc ?_ _)); refine blk_far ?_ NB101_104.out _; (with_reducible repeat (first | refine blk_drewN ?_ _ | refine blk_drew ?_ | refine blk_alloc ?_ _)); refine blk_far ?_ NB101_104.out _; (with_reducible repeat (first | refine blk_drewN ?_ _ | refine blk_drew ?_ | refine blk_alloc ?_ _)); refine blk_far ?_ NB101_104.out _; (with_reducible repeat (first | refine blk_drewN ?_ _ | refine blk_drew ?_ | refine blk_alloc ?_ _)); refine blk_far ?_ NB101_104.out _; (with_reducible repeat (first | refine blk_drewN ?_ _ | refine blk_drew ?_ | refine blk_alloc ?_ _)); exact BK101.out⟩, ⟨by (with_reducible repeat (first | refine blk_drewN ?_ _ | refine blk_drew ?_ | refine blk_alloc ?_ _)); refine blk_put (cs := #[.slice A103_0 ((rd_T49 l0_4 x16_1).f0).length c103_0, .int .i64 ((rd_T49 l0_4 x16_1).f1), .int .i64 ((rd_T49 l0_4 x16_1).f2), .int .i64 ((rd_T49 l0_4 x16_1).f3), .int .i64 0]) ?_ 4 _ rfl; (with_reducible repeat (first | refine blk_drewN ?_ _ | refine blk_drew ?_ | refine blk_alloc ?_ _)); refine blk_put (cs := #[.slice A103_0 ((rd_T49 l0_4 x16_1).f0).length c103_0, .int .i64 ((rd_T49 l0_4 x16_1).f1), .int .i64 ((rd_T49 l0_4 x16_1).f2), .int .i64 0, .int .i64 0]) ?_ 3 _ rfl; (with_reducible repeat (first | refine blk_drewN ?_ _ | refine blk_drew ?_ | refine blk_alloc ?_ _)); refine blk_put (cs := #[.slice A103_0 ((rd_T49 l0_4 x16_1).f0).length c103_0, .int .i64 ((rd_T49 l0_4 x16_1).f1), .int .i64 0, .int .i64 0, .int .i64 0]) ?_ 2 _ rfl; (with_reducible repeat (first | refine blk_drewN ?_ _ | refine blk_drew ?_ | refine blk_alloc ?_ _)); refine blk_put (cs := #[.slice A103_0 ((rd_T49 l0_4 x16_1).f0).length c103_0, .int .i64 0, .int .i64 0, .int .i64 0, .int .i64 0]) ?_ 1 _ rfl; (with_reducible repeat (first | refine blk_drewN ?_ _ | refine blk_drew ?_ | refine blk_alloc ?_ _)); refine blk_put (cs := #[.slice none 0 0, .int .i64 0, .int .i64 0, .int .i64 0, .int .i64 0]) ?_ 0 _ rfl; (with_reducible repeat (first | refine blk_drewN ?_ _ | refine blk_drew ?_ | refine blk_alloc ?_ _)); exact BK104.out⟩, ⟨by repeat (first | (with_reducible first | exact HB.out | apply below_alloc | apply pw_below_drewN | apply below_drew1 | refine below_set ?_ GE101.out | refine below_set ?_ GE104.out) | exact HB.out)⟩⟩
              case round =>
                clear H'
                try clear c1
                try clear p1
                try clear q1
                try clear hx1
                try clear p2
                try clear c3
                try clear c7
                try clear c8
                try clear c8b0
                try clear c9
                try clear c9b0
                try clear c10
                try clear c10b0
                try clear p10
                try clear q10
                try clear hx10
                try clear c12
                try clear hcz13_0
                try clear hcz13_1
                try clear hcz13_2
                try clear hcz13_3
                try clear hcz13_4
                try clear hcz5_0
                try clear hcz5_1
                try clear hcz5_2
                try clear hcz5_3
                try clear hcz5_4
                try clear hcz7_0
                try clear hcz7_1
                try clear hcz7_2
                try clear hcz7_3
                try clear hcz7_4
                try clear hfz13_0
                try clear hfz13_1
                try clear hfz13_2
                try clear hfz13_3
                try clear hfz13_4
                try clear hfz5_0
                try clear hfz5_1
                try clear hfz5_2
                try clear hfz5_3
                try clear hfz5_4
                try clear hfz7_0
                try clear hfz7_1
                try clear hfz7_2
                try clear hfz7_3
                try clear hfz7_4
                try clear hx103_0
                try clear hx103_1
                try clear hx103_2
                try clear hx103_3
                try clear hx103_4
                try clear p103
                try clear p2
                try clear q103
                obtain ⟨x3_2, x23_2, rfl, rfl, HA, HK2, BK101, BK104, HB⟩ := hrel
                cases gk with
                | zero => exact absurd HA.out (by simp [impl_MaxSlot.l1])
                | succ k2 =>
                  have H := HA.out
                  clear HA
                  simp only [impl_MaxSlot.l1] at H
                  by_cases c14 : x23_2 < (((rd_T49 l0_4 x16_1).f0).length : Int)
                  · rw [if_pos c14] at H
                    have c14b0 : decide (x23_2 < (((rd_T49 l0_4 x16_1).f0).length : Int)) = true := decide_eq_true c14
                    clear c14
                    by_cases c15 : 0 ≤ x23_2
                    · rw [if_pos c15] at H
                      have c15b0 : decide (0 ≤ x23_2) = true := decide_eq_true c15
                      clear c15
                      by_cases c16 : x23_2 < (((rd_T49 l0_4 x16_1).f0).length : Int)
                      · rw [if_pos c16] at H
                        have c16b0 : decide (x23_2 < (((rd_T49 l0_4 x16_1).f0).length : Int)) = true := decide_eq_true c16
                        clear c16
                        replace H := Option.bind_eq_some_iff.mp H
                        obtain ⟨t107, A170, H⟩ := H
                        replace H : ((impl_usesOf.f k2 ((rd_T39 ((rd_T49 l0_4 x16_1).f0) x23_2).f0) ((rd_T39 ((rd_T49 l0_4 x16_1).f0) x23_2).f1) ((rd_T39 ((rd_T49 l0_4 x16_1).f0) x23_2).f2) ((rd_T39 ((rd_T49 l0_4 x16_1).f0) x23_2).f3) ((rd_T39 ((rd_T49 l0_4 x16_1).f0) x23_2).f4) ((rd_T39 ((rd_T49 l0_4 x16_1).f0) x23_2).f5) ((rd_T39 ((rd_T49 l0_4 x16_1).f0) x23_2).f6)).bind fun t108 => (impl_MaxSlot.l2 k2 (mx x3_2 t107) l0_4 (l0_4.length : Int) x16_1 ((rd_T49 l0_4 x16_1).f0) (((rd_T49 l0_4 x16_1).f0).length : Int) x23_2 t108 (t108.length : Int) 0 ((rd_T49 l0_4 x16_1).f0) ((rd_T49 l0_4 x16_1).f1) ((rd_T49 l0_4 x16_1).f2) ((rd_T49 l0_4 x16_1).f3) ((rd_T49 l0_4 x16_1).f4))) = some r := H
                        have A17 := Aside0.mk A170
                        clear A170
                        obtain ⟨ji18, hji18⟩ : ∃ j_ : Int, (mx x3_2 t107) = j_ := ⟨_, rfl⟩
                        replace H : ((impl_usesOf.f k2 ((rd_T39 ((rd_T49 l0_4 x16_1).f0) x23_2).f0) ((rd_T39 ((rd_T49 l0_4 x16_1).f0) x23_2).f1) ((rd_T39 ((rd_T49 l0_4 x16_1).f0) x23_2).f2) ((rd_T39 ((rd_T49 l0_4 x16_1).f0) x23_2).f3) ((rd_T39 ((rd_T49 l0_4 x16_1).f0) x23_2).f4) ((rd_T39 ((rd_T49 l0_4 x16_1).f0) x23_2).f5) ((rd_T39 ((rd_T49 l0_4 x16_1).f0) x23_2).f6)).bind fun t108 => (impl_MaxSlot.l2 k2 ji18 l0_4 (l0_4.length : Int) x16_1 ((rd_T49 l0_4 x16_1).f0) (((rd_T49 l0_4 x16_1).f0).length : Int) x23_2 t108 (t108.length : Int) 0 ((rd_T49 l0_4 x16_1).f0) ((rd_T49 l0_4 x16_1).f1) ((rd_T49 l0_4 x16_1).f2) ((rd_T49 l0_4 x16_1).f3) ((rd_T49 l0_4 x16_1).f4))) = some r := by first | (rw [hji18] at H; exact H) | (simp only [hji18] at H ⊢; exact H)
                        (try rw [hji18] at A17)
                        have hji18_ : (if x3_2 < t107 then t107 else x3_2) = ji18 := hji18
                        replace H := Option.bind_eq_some_iff.mp H
                        obtain ⟨t108, A190, H⟩ := H
                        replace H : (impl_MaxSlot.l2 k2 ji18 l0_4 (l0_4.length : Int) x16_1 ((rd_T49 l0_4 x16_1).f0) (((rd_T49 l0_4 x16_1).f0).length : Int) x23_2 t108 (t108.length : Int) 0 ((rd_T49 l0_4 x16_1).f0) ((rd_T49 l0_4 x16_1).f1) ((rd_T49 l0_4 x16_1).f2) ((rd_T49 l0_4 x16_1).f3) ((rd_T49 l0_4 x16_1).f4)) = some r := H
                        have A19 := Aside0.mk A190
                        clear A190
                        have H' := Aside0.mk H
                        clear H
                        have p105 : 0 ≤ (x23_2 : Int) := of_decide_eq_true (by first | (with_reducible assumption) | assumption)
                        have q105 : x23_2 < (((rd_T49 l0_4 x16_1).f0).length : Int) := of_decide_eq_true (by first | (with_reducible assumption) | assumption)
                        obtain ⟨ad105, e105, hx105_0, hx105_1, hx105_2, hx105_3, hx105_4, hx105_5, hx105_6⟩ := at_T39 HR103_0.out x23_2 p105 q105
                        cases e105
                        replace hx105_0 := (HB.out.cell (World.block_lt_of_cell? w _ hx105_0)).trans hx105_0
                        replace hx105_1 := (HB.out.cell (World.block_lt_of_cell? w _ hx105_1)).trans hx105_1
                        replace hx105_2 := (HB.out.cell (World.block_lt_of_cell? w _ hx105_2)).trans hx105_2
                        replace hx105_3 := (HB.out.cell (World.block_lt_of_cell? w _ hx105_3)).trans hx105_3
                        replace hx105_4 := (HB.out.cell (World.block_lt_of_cell? w _ hx105_4)).trans hx105_4
                        replace hx105_5 := (HB.out.cell (World.block_lt_of_cell? w _ hx105_5)).trans hx105_5
                        replace hx105_6 := (HB.out.cell (World.block_lt_of_cell? w _ hx105_6)).trans hx105_6
                        replace p105 := eq_true p105
                        replace q105 := eq_true q105
                        go_wp2_with (first | ((with_reducible refine gate_dst (N := 7) rfl ?_); refine box_event ?hg (N := 7) ?hd (cs := #[.int .i64 0, .int .i64 0, .int .i64 0, .int .i64 0, .int .i64 0, .int .i64 0, .string (⟨#[]⟩ : ByteArray)]) (t := 39) ?hr ?_; (case hd => rfl); (case hg => rfl); (case hr => first | (go_simp; done) | (go_simp; rfl)); intro gb106 hg w20 hbox hb; have n0_ := Aside0.mk (blk_below (g := gb101) (o := .cells #[.slice A0_0 l0_0.length c0_0, .int .i64 a0_1, .int .i64 a0_2, .int .i64 a0_3, .slice (some ad103) l0_4.length c0_4] 30 (0, 0)) (by (with_reducible repeat (first | refine blk_drewN ?_ _ | refine blk_drew ?_ | refine blk_alloc ?_ _)); exact BK101.out) hb); have n1_ := Aside0.mk (blk_below (g := gb104) (o := .cells #[.slice (some ad105) ((rd_T49 l0_4 x16_1).f0).length c103_0, .int .i64 ((rd_T49 l0_4 x16_1).f1), .int .i64 ((rd_T49 l0_4 x16_1).f2), .int .i64 ((rd_T49 l0_4 x16_1).f3), .int .i64 ((rd_T49 l0_4 x16_1).f4)] 49 (0, 0)) (by (with_reducible repeat (first | refine blk_drewN ?_ _ | refine blk_drew ?_ | refine blk_alloc ?_ _)); exact BK104.out) hb); have n2_ := Aside0.mk (below_step (by repeat (first | (with_reducible first | exact HB.out | apply below_alloc | apply pw_below_drewN | apply below_drew1 | refine below_set ?_ GE101.out | refine below_set ?_ GE104.out) | exact HB.out)) hb); have n3_ := Aside0.mk (hbox); have n4_ := Aside0.mk ((by rw [hg]; exact (below_size (by repeat (first | (with_reducible first | exact HB.out | apply below_alloc | apply pw_below_drewN | apply below_drew1 | refine below_set ?_ GE101.out | refine below_set ?_ GE104.out) | exact HB.out))) : w.heap.size ≤ gb106)); have n5_ := Aside0.mk ((by rw [hg]; exact (below_size (by repeat (first | (with_reducible first | exact HB.out | apply below_alloc | apply pw_below_drewN | apply below_drew1 | refine below_set ?_ GE101.out | refine below_set ?_ GE104.out) | exact HB.out))) : w.heap.size ≤ gb106)); have n6_ := Aside0.mk ((by rw [hg]; exact Nat.ne_of_lt (blk_lt (g := gb101) (o := .cells #[.slice A0_0 l0_0.length c0_0, .int .i64 a0_1, .int .i64 a0_2, .int .i64 a0_3, .slice (some ad103) l0_4.length c0_4] 30 (0, 0)) (by (with_reducible repeat (first | refine blk_drewN ?_ _ | refine blk_drew ?_ | refine blk_alloc ?_ _)); exact BK101.out)) : gb101 ≠ gb106)); have n7_ := Aside0.mk ((by rw [hg]; exact Nat.ne_of_gt (blk_lt (g := gb101) (o := .cells #[.slice A0_0 l0_0.length c0_0, .int .i64 a0_1, .int .i64 a0_2, .int .i64 a0_3, .slice (some ad103) l0_4.length c0_4] 30 (0, 0)) (by (with_reducible repeat (first | refine blk_drewN ?_ _ | refine blk_drew ?_ | refine blk_alloc ?_ _)); exact BK101.out)) : gb106 ≠ gb101)); have n8_ := Aside0.mk ((by rw [hg]; exact Nat.ne_of_lt (blk_lt (g := gb104) (o := .cells #[.slice (some ad105) ((rd_T49 l0_4 x16_1).f0).length c103_0, .int .i64 ((rd_T49 l0_4 x16_1).f1), .int .i64 ((rd_T49 l0_4 x16_1).f2), .int .i64 ((rd_T49 l0_4 x16_1).f3), .int .i64 ((rd_T49 l0_4 x16_1).f4)] 49 (0, 0)) (by (with_reducible repeat (first | refine blk_drewN ?_ _ | refine blk_drew ?_ | refine blk_alloc ?_ _)); exact BK104.out)) : gb104 ≠ gb106)); have n9_ := Aside0.mk ((by rw [hg]; exact Nat.ne_of_gt (blk_lt (g := gb104) (o := .cells #[.slice (some ad105) ((rd_T49 l0_4 x16_1).f0).length c103_0, .int .i64 ((rd_T49 l0_4 x16_1).f1), .int .i64 ((rd_T49 l0_4 x16_1).f2), .int .i64 ((rd_T49 l0_4 x16_1).f3), .int .i64 ((rd_T49 l0_4 x16_1).f4)] 49 (0, 0)) (by (with_reducible repeat (first | refine blk_drewN ?_ _ | refine blk_drew ?_ | refine blk_alloc ?_ _)); exact BK104.out)) : gb106 ≠ gb104)); clear BK101; clear BK104; clear HB; have BK101 := n0_; have BK104 := n1_; have HB := n2_; have BK106 := n3_; have GW106 := n4_; have GE106 := n5_; have NB101_106 := n6_; have NB106_101 := n7_; have NB104_106 := n8_; have NB106_104 := n9_; clear n0_ n1_ n2_ n3_ n4_ n5_ n6_ n7_ n8_ n9_; clear hb hbox hg; have hnb21 := NB106_101.out; have hnc21 := NB101_106.out; have hnb22 := NB106_104.out; have hnc22 := NB104_106.out; obtain ⟨hcz23_0, hcz23_1, hcz23_2, hcz23_3, hcz23_4, hcz23_5, hcz23_6, hfz23_0, hfz23_1, hfz23_2, hfz23_3, hfz23_4, hfz23_5, hfz23_6⟩ := bx7 BK106.out) | ((with_reducible refine gate_callee (f := 80) rfl ?_); refine goesL_ (some 29) rfl rfl Try.func80 (by kernel_rfl) rfl #[.agg #[.int .i64 ((rd_T39 ((rd_T49 l0_4 x16_1).f0) x23_2).f0), .int .i64 ((rd_T39 ((rd_T49 l0_4 x16_1).f0) x23_2).f1), .int .i64 ((rd_T39 ((rd_T49 l0_4 x16_1).f0) x23_2).f2), .int .i64 ((rd_T39 ((rd_T49 l0_4 x16_1).f0) x23_2).f3), .int .i64 ((rd_T39 ((rd_T49 l0_4 x16_1).f0) x23_2).f4), .int .i64 ((rd_T39 ((rd_T49 l0_4 x16_1).f0) x23_2).f5), .string ((rd_T39 ((rd_T49 l0_4 x16_1).f0) x23_2).f6)]] rfl (by (try simp only [List.map_toArray, List.map_cons, List.map_nil]); first | done | rfl | (simp only [List.length_drop, List.length_take]; rfl)) ?_; (with_reducible refine (impl_makes.calls ((rd_T39 ((rd_T49 l0_4 x16_1).f0) x23_2).f0) ((rd_T39 ((rd_T49 l0_4 x16_1).f0) x23_2).f1) ((rd_T39 ((rd_T49 l0_4 x16_1).f0) x23_2).f2) ((rd_T39 ((rd_T49 l0_4 x16_1).f0) x23_2).f3) ((rd_T39 ((rd_T49 l0_4 x16_1).f0) x23_2).f4) ((rd_T39 ((rd_T49 l0_4 x16_1).f0) x23_2).f5) ((rd_T39 ((rd_T49 l0_4 x16_1).f0) x23_2).f6) t107 _ A17.out).mono ?_); rintro e w24 ⟨rfl, hb⟩; refine ⟨_, rfl, ?_⟩; have n0_ := Aside0.mk (blk_below (g := gb101) (o := .cells #[.slice A0_0 l0_0.length c0_0, .int .i64 a0_1, .int .i64 a0_2, .int .i64 a0_3, .slice (some ad103) l0_4.length c0_4] 30 (0, 0)) (by (with_reducible repeat (first | refine blk_drewN ?_ _ | refine blk_drew ?_ | refine blk_alloc ?_ _)); refine blk_far ?_ NB101_106.out _; (with_reducible repeat (first | refine blk_drewN ?_ _ | refine blk_drew ?_ | refine blk_alloc ?_ _)); refine blk_far ?_ NB101_106.out _; (with_reducible repeat (first | refine blk_drewN ?_ _ | refine blk_drew ?_ | refine blk_alloc ?_ _)); refine blk_far ?_ NB101_106.out _; (with_reducible repeat (first | refine blk_drewN ?_ _ | refine blk_drew ?_ | refine blk_alloc ?_ _)); refine blk_far ?_ NB101_106.out _; (with_reducible repeat (first | refine blk_drewN ?_ _ | refine blk_drew ?_ | refine blk_alloc ?_ _)); refine blk_far ?_ NB101_106.out _; (with_reducible repeat (first | refine blk_drewN ?_ _ | refine blk_drew ?_ | refine blk_alloc ?_ _)); refine blk_far ?_ NB101_106.out _; (with_reducible repeat (first | refine blk_drewN ?_ _ | refine blk_drew ?_ | refine blk_alloc ?_ _)); refine blk_far ?_ NB101_106.out _; (with_reducible repeat (first | refine blk_drewN ?_ _ | refine blk_drew ?_ | refine blk_alloc ?_ _)); exact BK101.out) hb); have n1_ := Aside0.mk (blk_below (g := gb104) (o := .cells #[.slice (some ad105) ((rd_T49 l0_4 x16_1).f0).length c103_0, .int .i64 ((rd_T49 l0_4 x16_1).f1), .int .i64 ((rd_T49 l0_4 x16_1).f2), .int .i64 ((rd_T49 l0_4 x16_1).f3), .int .i64 ((rd_T49 l0_4 x16_1).f4)] 49 (0, 0)) (by (with_reducible repeat (first | refine blk_drewN ?_ _ | refine blk_drew ?_ | refine blk_alloc ?_ _)); refine blk_far ?_ NB104_106.out _; (with_reducible repeat (first | refine blk_drewN ?_ _ | refine blk_drew ?_ | refine blk_alloc ?_ _)); refine blk_far ?_ NB104_106.out _; (with_reducible repeat (first | refine blk_drewN ?_ _ | refine blk_drew ?_ | refine blk_alloc ?_ _)); refine blk_far ?_ NB104_106.out _; (with_reducible repeat (first | refine blk_drewN ?_ _ | refine blk_drew ?_ | refine blk_alloc ?_ _)); refine blk_far ?_ NB104_106.out _; (with_reducible repeat (first | refine blk_drewN ?_ _ | refine blk_drew ?_ | refine blk_alloc ?_ _)); refine blk_far ?_ NB104_106.out _; (with_reducible repeat (first | refine blk_drewN ?_ _ | refine blk_drew ?_ | refine blk_alloc ?_ _)); refine blk_far ?_ NB104_106.out _; (with_reducible repeat (first | refine blk_drewN ?_ _ | refine blk_drew ?_ | refine blk_alloc ?_ _)); refine blk_far ?_ NB104_106.out _; (with_reducible repeat (first | refine blk_drewN ?_ _ | refine blk_drew ?_ | refine blk_alloc ?_ _)); exact BK104.out) hb); have n2_ := Aside0.mk (blk_below (g := gb106) (o := .cells #[.int .i64 ((rd_T39 ((rd_T49 l0_4 x16_1).f0) x23_2).f0), .int .i64 ((rd_T39 ((rd_T49 l0_4 x16_1).f0) x23_2).f1), .int .i64 ((rd_T39 ((rd_T49 l0_4 x16_1).f0) x23_2).f2), .int .i64 ((rd_T39 ((rd_T49 l0_4 x16_1).f0) x23_2).f3), .int .i64 ((rd_T39 ((rd_T49 l0_4 x16_1).f0) x23_2).f4), .int .i64 ((rd_T39 ((rd_T49 l0_4 x16_1).f0) x23_2).f5), .string ((rd_T39 ((rd_T49 l0_4 x16_1).f0) x23_2).f6)] 39 (0, 0)) (by (with_reducible repeat (first | refine blk_drewN ?_ _ | refine blk_drew ?_ | refine blk_alloc ?_ _)); refine blk_put (cs := #[.int .i64 ((rd_T39 ((rd_T49 l0_4 x16_1).f0) x23_2).f0), .int .i64 ((rd_T39 ((rd_T49 l0_4 x16_1).f0) x23_2).f1), .int .i64 ((rd_T39 ((rd_T49 l0_4 x16_1).f0) x23_2).f2), .int .i64 ((rd_T39 ((rd_T49 l0_4 x16_1).f0) x23_2).f3), .int .i64 ((rd_T39 ((rd_T49 l0_4 x16_1).f0) x23_2).f4), .int .i64 ((rd_T39 ((rd_T49 l0_4 x16_1).f0) x23_2).f5), .string (⟨#[]⟩ : ByteArray)]) ?_ 6 _ rfl; (with_reducible repeat (first | refine blk_drewN ?_ _ | refine blk_drew ?_ | refine blk_alloc ?_ _)); refine blk_put (cs := #[.int .i64 ((rd_T39 ((rd_T49 l0_4 x16_1).f0) x23_2).f0), .int .i64 ((rd_T39 ((rd_T49 l0_4 x16_1).f0) x23_2).f1), .int .i64 ((rd_T39 ((rd_T49 l0_4 x16_1).f0) x23_2).f2), .int .i64 ((rd_T39 ((rd_T49 l0_4 x16_1).f0) x23_2).f3), .int .i64 ((rd_T39 ((rd_T49 l0_4 x16_1).f0) x23_2).f4), .int .i64 0, .string (⟨#[]⟩ : ByteArray)]) ?_ 5 _ rfl; (with_reducible repeat (first | refine blk_drewN ?_ _ | refine blk_drew ?_ | refine blk_alloc ?_ _)); refine blk_put (cs := #[.int .i64 ((rd_T39 ((rd_T49 l0_4 x16_1).f0) x23_2).f0), .int .i64 ((rd_T39 ((rd_T49 l0_4 x16_1).f0) x23_2).f1), .int .i64 ((rd_T39 ((rd_T49 l0_4 x16_1).f0) x23_2).f2), .int .i64 ((rd_T39 ((rd_T49 l0_4 x16_1).f0) x23_2).f3), .int .i64 0, .int .i64 0, .string (⟨#[]⟩ : ByteArray)]) ?_ 4 _ rfl; (with_reducible repeat (first | refine blk_drewN ?_ _ | refine blk_drew ?_ | refine blk_alloc ?_ _)); refine blk_put (cs := #[.int .i64 ((rd_T39 ((rd_T49 l0_4 x16_1).f0) x23_2).f0), .int .i64 ((rd_T39 ((rd_T49 l0_4 x16_1).f0) x23_2).f1), .int .i64 ((rd_T39 ((rd_T49 l0_4 x16_1).f0) x23_2).f2), .int .i64 0, .int .i64 0, .int .i64 0, .string (⟨#[]⟩ : ByteArray)]) ?_ 3 _ rfl; (with_reducible repeat (first | refine blk_drewN ?_ _ | refine blk_drew ?_ | refine blk_alloc ?_ _)); refine blk_put (cs := #[.int .i64 ((rd_T39 ((rd_T49 l0_4 x16_1).f0) x23_2).f0), .int .i64 ((rd_T39 ((rd_T49 l0_4 x16_1).f0) x23_2).f1), .int .i64 0, .int .i64 0, .int .i64 0, .int .i64 0, .string (⟨#[]⟩ : ByteArray)]) ?_ 2 _ rfl; (with_reducible repeat (first | refine blk_drewN ?_ _ | refine blk_drew ?_ | refine blk_alloc ?_ _)); refine blk_put (cs := #[.int .i64 ((rd_T39 ((rd_T49 l0_4 x16_1).f0) x23_2).f0), .int .i64 0, .int .i64 0, .int .i64 0, .int .i64 0, .int .i64 0, .string (⟨#[]⟩ : ByteArray)]) ?_ 1 _ rfl; (with_reducible repeat (first | refine blk_drewN ?_ _ | refine blk_drew ?_ | refine blk_alloc ?_ _)); refine blk_put (cs := #[.int .i64 0, .int .i64 0, .int .i64 0, .int .i64 0, .int .i64 0, .int .i64 0, .string (⟨#[]⟩ : ByteArray)]) ?_ 0 _ rfl; (with_reducible repeat (first | refine blk_drewN ?_ _ | refine blk_drew ?_ | refine blk_alloc ?_ _)); exact BK106.out) hb); have n3_ := Aside0.mk (below_step (by repeat (first | (with_reducible first | exact HB.out | apply below_alloc | apply pw_below_drewN | apply below_drew1 | refine below_set ?_ GE101.out | refine below_set ?_ GE104.out | refine below_set ?_ GE106.out) | exact HB.out)) hb); clear BK101; clear BK104; clear BK106; clear HB; have BK101 := n0_; have BK104 := n1_; have BK106 := n2_; have HB := n3_; clear n0_ n1_ n2_ n3_; (try clear hb); (try clear hb2); (try clear hk); (try clear hi); have hcz25_0 : w24.cell? ⟨gb106, 0, none⟩ = some (.int .i64 ((rd_T39 ((rd_T49 l0_4 x16_1).f0) x23_2).f0)) := (blk_cell BK106.out 0).trans rfl; have hcz25_1 : w24.cell? ⟨gb106, 1, none⟩ = some (.int .i64 ((rd_T39 ((rd_T49 l0_4 x16_1).f0) x23_2).f1)) := (blk_cell BK106.out 1).trans rfl; have hcz25_2 : w24.cell? ⟨gb106, 2, none⟩ = some (.int .i64 ((rd_T39 ((rd_T49 l0_4 x16_1).f0) x23_2).f2)) := (blk_cell BK106.out 2).trans rfl; have hcz25_3 : w24.cell? ⟨gb106, 3, none⟩ = some (.int .i64 ((rd_T39 ((rd_T49 l0_4 x16_1).f0) x23_2).f3)) := (blk_cell BK106.out 3).trans rfl; have hcz25_4 : w24.cell? ⟨gb106, 4, none⟩ = some (.int .i64 ((rd_T39 ((rd_T49 l0_4 x16_1).f0) x23_2).f4)) := (blk_cell BK106.out 4).trans rfl; have hcz25_5 : w24.cell? ⟨gb106, 5, none⟩ = some (.int .i64 ((rd_T39 ((rd_T49 l0_4 x16_1).f0) x23_2).f5)) := (blk_cell BK106.out 5).trans rfl; have hcz25_6 : w24.cell? ⟨gb106, 6, none⟩ = some (.string ((rd_T39 ((rd_T49 l0_4 x16_1).f0) x23_2).f6)) := (blk_cell BK106.out 6).trans rfl; have hfz25_0 := blk_frozen BK106.out 0; have hfz25_1 := blk_frozen BK106.out 1; have hfz25_2 := blk_frozen BK106.out 2; have hfz25_3 := blk_frozen BK106.out 3; have hfz25_4 := blk_frozen BK106.out 4; have hfz25_5 := blk_frozen BK106.out 5; have hfz25_6 := blk_frozen BK106.out 6) | ((with_reducible refine gate_callee (f := 81) rfl ?_); refine goesL_ (some 32) rfl rfl Try.func81 (by kernel_rfl) rfl #[.agg #[.int .i64 ((rd_T39 ((rd_T49 l0_4 x16_1).f0) x23_2).f0), .int .i64 ((rd_T39 ((rd_T49 l0_4 x16_1).f0) x23_2).f1), .int .i64 ((rd_T39 ((rd_T49 l0_4 x16_1).f0) x23_2).f2), .int .i64 ((rd_T39 ((rd_T49 l0_4 x16_1).f0) x23_2).f3), .int .i64 ((rd_T39 ((rd_T49 l0_4 x16_1).f0) x23_2).f4), .int .i64 ((rd_T39 ((rd_T49 l0_4 x16_1).f0) x23_2).f5), .string ((rd_T39 ((rd_T49 l0_4 x16_1).f0) x23_2).f6)]] rfl (by (try simp only [List.map_toArray, List.map_cons, List.map_nil]); first | done | rfl | (simp only [List.length_drop, List.length_take]; rfl)) ?_; (with_reducible refine (impl_usesOf.calls k2 ((rd_T39 ((rd_T49 l0_4 x16_1).f0) x23_2).f0) ((rd_T39 ((rd_T49 l0_4 x16_1).f0) x23_2).f1) ((rd_T39 ((rd_T49 l0_4 x16_1).f0) x23_2).f2) ((rd_T39 ((rd_T49 l0_4 x16_1).f0) x23_2).f3) ((rd_T39 ((rd_T49 l0_4 x16_1).f0) x23_2).f4) ((rd_T39 ((rd_T49 l0_4 x16_1).f0) x23_2).f5) ((rd_T39 ((rd_T49 l0_4 x16_1).f0) x23_2).f6) t108 _ A19.out).mono ?_); rintro e w26 ⟨v109, rfl, ho0, hb⟩; refine ⟨_, rfl, ?_⟩; have n0_ := Aside0.mk (Kd.R_lower ho0 (below_size (by repeat (first | (with_reducible first | exact HB.out | apply below_alloc | apply pw_below_drewN | apply below_drew1 | refine below_set ?_ GE101.out | refine below_set ?_ GE104.out | refine below_set ?_ GE106.out) | exact HB.out)))); have n1_ := Aside0.mk (blk_below (g := gb101) (o := .cells #[.slice A0_0 l0_0.length c0_0, .int .i64 a0_1, .int .i64 a0_2, .int .i64 a0_3, .slice (some ad103) l0_4.length c0_4] 30 (0, 0)) (by (with_reducible repeat (first | refine blk_drewN ?_ _ | refine blk_drew ?_ | refine blk_alloc ?_ _)); exact BK101.out) hb); have n2_ := Aside0.mk (blk_below (g := gb104) (o := .cells #[.slice (some ad105) ((rd_T49 l0_4 x16_1).f0).length c103_0, .int .i64 ((rd_T49 l0_4 x16_1).f1), .int .i64 ((rd_T49 l0_4 x16_1).f2), .int .i64 ((rd_T49 l0_4 x16_1).f3), .int .i64 ((rd_T49 l0_4 x16_1).f4)] 49 (0, 0)) (by (with_reducible repeat (first | refine blk_drewN ?_ _ | refine blk_drew ?_ | refine blk_alloc ?_ _)); exact BK104.out) hb); have n3_ := Aside0.mk (blk_below (g := gb106) (o := .cells #[.int .i64 ((rd_T39 ((rd_T49 l0_4 x16_1).f0) x23_2).f0), .int .i64 ((rd_T39 ((rd_T49 l0_4 x16_1).f0) x23_2).f1), .int .i64 ((rd_T39 ((rd_T49 l0_4 x16_1).f0) x23_2).f2), .int .i64 ((rd_T39 ((rd_T49 l0_4 x16_1).f0) x23_2).f3), .int .i64 ((rd_T39 ((rd_T49 l0_4 x16_1).f0) x23_2).f4), .int .i64 ((rd_T39 ((rd_T49 l0_4 x16_1).f0) x23_2).f5), .string ((rd_T39 ((rd_T49 l0_4 x16_1).f0) x23_2).f6)] 39 (0, 0)) (by (with_reducible repeat (first | refine blk_drewN ?_ _ | refine blk_drew ?_ | refine blk_alloc ?_ _)); exact BK106.out) hb); have n4_ := Aside0.mk (below_step (by repeat (first | (with_reducible first | exact HB.out | apply below_alloc | apply pw_below_drewN | apply below_drew1 | refine below_set ?_ GE101.out | refine below_set ?_ GE104.out | refine below_set ?_ GE106.out) | exact HB.out)) hb); clear BK101; clear BK104; clear BK106; clear HB; have HO110 := n0_; have BK101 := n1_; have BK104 := n2_; have BK106 := n3_; have HB := n4_; clear n0_ n1_ n2_ n3_ n4_; (try clear hb); (try clear hb2); (try clear hk); (try clear hi); (try clear ho0); obtain ⟨Ao27, co27, eo27⟩ := Kd.R_slice HO110.out; subst eo27))
                        go_loopg [3, 34] k2 (fun kq v3 v34 w' => ∃ (x3_3 : Int) (x34_3 : Int), v3 = .int .i64 x3_3 ∧ v34 = .int .i64 x34_3 ∧ Aside0 (impl_MaxSlot.l2 kq x3_3 l0_4 (l0_4.length : Int) x16_1 ((rd_T49 l0_4 x16_1).f0) (((rd_T49 l0_4 x16_1).f0).length : Int) x23_2 t108 (t108.length : Int) x34_3 ((rd_T49 l0_4 x16_1).f0) ((rd_T49 l0_4 x16_1).f1) ((rd_T49 l0_4 x16_1).f2) ((rd_T49 l0_4 x16_1).f3) ((rd_T49 l0_4 x16_1).f4) = some r) ∧ Aside0 (kq ≤ k2) ∧ Aside0 (Kd.R (Kd.int .i64) 3 w' w.heap.size (fun _ => True) (.slice Ao27 t108.length co27) t108) ∧ Aside0 (w'.heap[gb101]? = some (.cells #[(.slice A0_0 l0_0.length c0_0), .int .i64 a0_1, .int .i64 a0_2, .int .i64 a0_3, (.slice (some ad103) l0_4.length c0_4)] 30 (0, 0))) ∧ Aside0 (w'.heap[gb104]? = some (.cells #[(.slice (some ad105) ((rd_T49 l0_4 x16_1).f0).length c103_0), .int .i64 ((rd_T49 l0_4 x16_1).f1), .int .i64 ((rd_T49 l0_4 x16_1).f2), .int .i64 ((rd_T49 l0_4 x16_1).f3), .int .i64 ((rd_T49 l0_4 x16_1).f4)] 49 (0, 0))) ∧ Aside0 (w'.heap[gb106]? = some (.cells #[.int .i64 ((rd_T39 ((rd_T49 l0_4 x16_1).f0) x23_2).f0), .int .i64 ((rd_T39 ((rd_T49 l0_4 x16_1).f0) x23_2).f1), .int .i64 ((rd_T39 ((rd_T49 l0_4 x16_1).f0) x23_2).f2), .int .i64 ((rd_T39 ((rd_T49 l0_4 x16_1).f0) x23_2).f3), .int .i64 ((rd_T39 ((rd_T49 l0_4 x16_1).f0) x23_2).f4), .int .i64 ((rd_T39 ((rd_T49 l0_4 x16_1).f0) x23_2).f5), .string ((rd_T39 ((rd_T49 l0_4 x16_1).f0) x23_2).f6)] 39 (0, 0))) ∧ Aside0 (Below w.heap.size w w'))
                        case atStart => exact ⟨(ji18), (0), (by first | rfl | (simp; done) | (simp only [← hji18] <;> (first | rfl | simp)) | (simp [*]; done)), (by first | rfl | (simp; done) | (simp [*]; done)), H', ⟨Nat.le_refl _⟩, ⟨by (with_reducible repeat (first | apply Kd.R_alloc | apply Kd.R_drewN | apply Kd.R_drew)); exact HO110.out⟩, ⟨by (with_reducible repeat (first | refine blk_drewN ?_ _ | refine blk_drew ?_ | refine blk_alloc ?_ _)); exact BK101.out⟩, ⟨by (with_reducible repeat (first | refine blk_drewN ?_ _ | refine blk_drew ?_ | refine blk_alloc ?_ _)); exact BK104.out⟩, ⟨by (with_reducible repeat (first | refine blk_drewN ?_ _ | refine blk_drew ?_ | refine blk_alloc ?_ _)); exact BK106.out⟩, ⟨by repeat (first | (with_reducible first | exact HB.out | apply below_alloc | apply pw_below_drewN | apply below_drew1 | refine below_set ?_ GE101.out | refine below_set ?_ GE104.out | refine below_set ?_ GE106.out) | exact HB.out)⟩⟩
                        case round =>
                          clear H'
                          try clear c1
                          try clear p1
                          try clear q1
                          try clear hx1
                          try clear c2
                          try clear p2
                          try clear c3
                          try clear c7
                          try clear c8
                          try clear c8b0
                          try clear c9
                          try clear c9b0
                          try clear c10
                          try clear c10b0
                          try clear p10
                          try clear q10
                          try clear hx10
                          try clear c12
                          try clear c14
                          try clear c14b0
                          try clear c15
                          try clear c15b0
                          try clear c16
                          try clear c16b0
                          try clear c21
                          try clear c22
                          try clear hcz13_0
                          try clear hcz13_1
                          try clear hcz13_2
                          try clear hcz13_3
                          try clear hcz13_4
                          try clear hcz23_0
                          try clear hcz23_1
                          try clear hcz23_2
                          try clear hcz23_3
                          try clear hcz23_4
                          try clear hcz23_5
                          try clear hcz23_6
                          try clear hcz25_0
                          try clear hcz25_1
                          try clear hcz25_2
                          try clear hcz25_3
                          try clear hcz25_4
                          try clear hcz25_5
                          try clear hcz25_6
                          try clear hcz5_0
                          try clear hcz5_1
                          try clear hcz5_2
                          try clear hcz5_3
                          try clear hcz5_4
                          try clear hcz7_0
                          try clear hcz7_1
                          try clear hcz7_2
                          try clear hcz7_3
                          try clear hcz7_4
                          try clear hfz13_0
                          try clear hfz13_1
                          try clear hfz13_2
                          try clear hfz13_3
                          try clear hfz13_4
                          try clear hfz23_0
                          try clear hfz23_1
                          try clear hfz23_2
                          try clear hfz23_3
                          try clear hfz23_4
                          try clear hfz23_5
                          try clear hfz23_6
                          try clear hfz25_0
                          try clear hfz25_1
                          try clear hfz25_2
                          try clear hfz25_3
                          try clear hfz25_4
                          try clear hfz25_5
                          try clear hfz25_6
                          try clear hfz5_0
                          try clear hfz5_1
                          try clear hfz5_2
                          try clear hfz5_3
                          try clear hfz5_4
                          try clear hfz7_0
                          try clear hfz7_1
                          try clear hfz7_2
                          try clear hfz7_3
                          try clear hfz7_4
                          try clear hx103_0
                          try clear hx103_1
                          try clear hx103_2
                          try clear hx103_3
                          try clear hx103_4
                          try clear hx105_0
                          try clear hx105_1
                          try clear hx105_2
                          try clear hx105_3
                          try clear hx105_4
                          try clear hx105_5
                          try clear hx105_6
                          try clear p1
                          try clear p10
                          try clear p103
                          try clear p105
                          try clear p2
                          try clear q1
                          try clear q10
                          try clear q103
                          try clear q105
                          obtain ⟨x3_3, x34_3, rfl, rfl, HA, HK3, HO_32, BK101, BK104, BK106, HB⟩ := hrel
                          cases gk with
                          | zero => exact absurd HA.out (by simp [impl_MaxSlot.l2])
                          | succ k3 =>
                            have H := HA.out
                            clear HA
                            simp only [impl_MaxSlot.l2] at H
                            by_cases c28 : x34_3 < (t108.length : Int)
                            · rw [if_pos c28] at H
                              have c28b0 : decide (x34_3 < (t108.length : Int)) = true := decide_eq_true c28
                              clear c28
                              by_cases c29 : 0 ≤ x34_3
                              · rw [if_pos c29] at H
                                have c29b0 : decide (0 ≤ x34_3) = true := decide_eq_true c29
                                clear c29
                                by_cases c30 : x34_3 < (t108.length : Int)
                                · rw [if_pos c30] at H
                                  have c30b0 : decide (x34_3 < (t108.length : Int)) = true := decide_eq_true c30
                                  clear c30
                                  obtain ⟨ji31, hji31⟩ : ∃ j_ : Int, (mx x3_3 (rd t108 x34_3)) = j_ := ⟨_, rfl⟩
                                  replace H : (impl_MaxSlot.l2 k3 ji31 l0_4 (l0_4.length : Int) x16_1 ((rd_T49 l0_4 x16_1).f0) (((rd_T49 l0_4 x16_1).f0).length : Int) x23_2 t108 (t108.length : Int) (wrap64 (x34_3 + 1)) ((rd_T49 l0_4 x16_1).f0) ((rd_T49 l0_4 x16_1).f1) ((rd_T49 l0_4 x16_1).f2) ((rd_T49 l0_4 x16_1).f3) ((rd_T49 l0_4 x16_1).f4)) = some r := by first | (rw [hji31] at H; exact H) | (simp only [hji31] at H ⊢; exact H)
                                  have hji31_ : (if x3_3 < (rd t108 x34_3) then (rd t108 x34_3) else x3_3) = ji31 := hji31
                                  have H' := Aside0.mk H
                                  clear H
                                  have p111 : 0 ≤ (x34_3 : Int) := of_decide_eq_true (by first | (with_reducible assumption) | assumption)
                                  have q111 : x34_3 < (t108.length : Int) := of_decide_eq_true (by first | (with_reducible assumption) | assumption)
                                  obtain ⟨ad111, e111, hx111_0⟩ := Kd.at_int (Kd.R_reads' HO_32.out).2.2 x34_3 p111 q111
                                  cases e111
                                  replace p111 := eq_true p111
                                  replace q111 := eq_true q111
                                  go_wp2
                                  go_roundg k3
                                  case measure => have := HK1.out; have := HK2.out; have := HK3.out; omega
                                  case rel => exact ⟨(ji31), (wrap64 (x34_3 + 1)), (by first | rfl | (simp; done) | (simp only [← hji31] <;> (first | rfl | simp)) | (simp [*]; done)), (by first | rfl | (simp; done) | (simp [*]; done)), H', ⟨by have := HK1.out; have := HK2.out; have := HK3.out; omega⟩, ⟨by (with_reducible repeat (first | apply Kd.R_alloc | apply Kd.R_drewN | apply Kd.R_drew)); exact HO_32.out⟩, ⟨by (with_reducible repeat (first | refine blk_drewN ?_ _ | refine blk_drew ?_ | refine blk_alloc ?_ _)); exact BK101.out⟩, ⟨by (with_reducible repeat (first | refine blk_drewN ?_ _ | refine blk_drew ?_ | refine blk_alloc ?_ _)); exact BK104.out⟩, ⟨by (with_reducible repeat (first | refine blk_drewN ?_ _ | refine blk_drew ?_ | refine blk_alloc ?_ _)); exact BK106.out⟩, ⟨by repeat (first | (with_reducible first | exact HB.out | apply below_alloc | apply pw_below_drewN | apply below_drew1 | refine below_set ?_ GE101.out | refine below_set ?_ GE104.out | refine below_set ?_ GE106.out) | exact HB.out)⟩⟩
                                · rw [if_neg c30] at H
                                  exact absurd H (by simp)
                              · rw [if_neg c29] at H
                                exact absurd H (by simp)
                            · rw [if_neg c28] at H
                              have c28b0 : decide (x34_3 < (t108.length : Int)) = false := decide_eq_false c28
                              clear c28
                              have H' := Aside0.mk H
                              clear H
                              go_wp2
                              go_roundg k3
                              case measure => have := HK1.out; have := HK2.out; have := HK3.out; omega
                              case rel => exact ⟨(x3_3), (wrap64 (x23_2 + 1)), (by first | rfl | (simp; done) | (simp [*]; done)), (by first | rfl | (simp; done) | (simp [*]; done)), H', ⟨by have := HK1.out; have := HK2.out; have := HK3.out; omega⟩, ⟨by (with_reducible repeat (first | refine blk_drewN ?_ _ | refine blk_drew ?_ | refine blk_alloc ?_ _)); exact BK101.out⟩, ⟨by (with_reducible repeat (first | refine blk_drewN ?_ _ | refine blk_drew ?_ | refine blk_alloc ?_ _)); exact BK104.out⟩, ⟨by repeat (first | (with_reducible first | exact HB.out | apply below_alloc | apply pw_below_drewN | apply below_drew1 | refine below_set ?_ GE101.out | refine below_set ?_ GE104.out | refine below_set ?_ GE106.out) | exact HB.out)⟩⟩
                      · rw [if_neg c16] at H
                        exact absurd H (by simp)
                    · rw [if_neg c15] at H
                      exact absurd H (by simp)
                  · rw [if_neg c14] at H
                    have c14b0 : decide (x23_2 < (((rd_T49 l0_4 x16_1).f0).length : Int)) = false := decide_eq_false c14
                    clear c14
                    by_cases c32 : ((rd_T49 l0_4 x16_1).f1) = 0
                    · rw [if_pos c32] at H
                      have c32b0 : (((rd_T49 l0_4 x16_1).f1) == 0) = true := beq_iff_eq.mpr c32
                      have c32b1 : (((rd_T49 l0_4 x16_1).f1) != 0) = false := bne_eq_false_iff_eq.mpr c32
                      clear c32
                      have H' := Aside0.mk H
                      clear H
                      have hnb33 := NB104_101.out
                      have hnc33 := NB101_104.out
                      obtain ⟨hcz34_0, hcz34_1, hcz34_2, hcz34_3, hcz34_4, hfz34_0, hfz34_1, hfz34_2, hfz34_3, hfz34_4⟩ := bx5 BK104.out
                      go_wp2
                      go_roundg k2
                      case measure => have := HK1.out; have := HK2.out; omega
                      case rel => exact ⟨(x3_2), (wrap64 (x16_1 + 1)), (by first | rfl | (simp; done) | (simp [*]; done)), (by first | rfl | (simp; done) | (simp [*]; done)), H', ⟨by have := HK1.out; have := HK2.out; omega⟩, ⟨by (with_reducible repeat (first | refine blk_drewN ?_ _ | refine blk_drew ?_ | refine blk_alloc ?_ _)); exact BK101.out⟩, ⟨by repeat (first | (with_reducible first | exact HB.out | apply below_alloc | apply pw_below_drewN | apply below_drew1 | refine below_set ?_ GE101.out | refine below_set ?_ GE104.out) | exact HB.out)⟩⟩
                    · rw [if_neg c32] at H
                      have c32b0 : (((rd_T49 l0_4 x16_1).f1) == 0) = false := beq_eq_false_iff_ne.mpr c32
                      have c32b1 : (((rd_T49 l0_4 x16_1).f1) != 0) = true := bne_iff_ne.mpr c32
                      obtain ⟨ji35, hji35⟩ : ∃ j_ : Int, (mx x3_2 ((rd_T49 l0_4 x16_1).f2)) = j_ := ⟨_, rfl⟩
                      replace H : (impl_MaxSlot.l0 k2 ji35 l0_4 (l0_4.length : Int) (wrap64 (x16_1 + 1))) = some r := by first | (rw [hji35] at H; exact H) | (simp only [hji35] at H ⊢; exact H)
                      have hji35_ : (if x3_2 < ((rd_T49 l0_4 x16_1).f2) then ((rd_T49 l0_4 x16_1).f2) else x3_2) = ji35 := hji35
                      have H' := Aside0.mk H
                      clear H
                      have hnb36 := NB104_101.out
                      have hnc36 := NB101_104.out
                      obtain ⟨hcz37_0, hcz37_1, hcz37_2, hcz37_3, hcz37_4, hfz37_0, hfz37_1, hfz37_2, hfz37_3, hfz37_4⟩ := bx5 BK104.out
                      go_wp2
                      go_roundg k2
                      case measure => have := HK1.out; have := HK2.out; omega
                      case rel => exact ⟨(ji35), (wrap64 (x16_1 + 1)), (by first | rfl | (simp; done) | (simp only [← hji35] <;> (first | rfl | simp)) | (simp [*]; done)), (by first | rfl | (simp; done) | (simp [*]; done)), H', ⟨by have := HK1.out; have := HK2.out; omega⟩, ⟨by (with_reducible repeat (first | refine blk_drewN ?_ _ | refine blk_drew ?_ | refine blk_alloc ?_ _)); exact BK101.out⟩, ⟨by repeat (first | (with_reducible first | exact HB.out | apply below_alloc | apply pw_below_drewN | apply below_drew1 | refine below_set ?_ GE101.out | refine below_set ?_ GE104.out) | exact HB.out)⟩⟩
            · rw [if_neg c10] at H
              exact absurd H (by simp)
          · rw [if_neg c9] at H
            exact absurd H (by simp)
        · rw [if_neg c8] at H
          have c8b0 : decide (x16_1 < (l0_4.length : Int)) = false := decide_eq_false c8
          clear c8
          obtain rfl := Option.some.inj H
          go_wp2
          go_ret
          exact ⟨by first | rfl | (simp [errW_none, errW_some] <;> rfl) | (simp [*, errW_none, errW_some] <;> rfl), by repeat (first | (with_reducible first | exact HB.out | apply below_alloc | apply pw_below_drewN | apply below_drew1 | refine below_set ?_ GE101.out) | exact HB.out)⟩
  · replace c3 := Bool.eq_false_iff.mpr c3
    subst c3
    have H1 : (some (-1)) = some r := by rw [if_neg (show ¬ (false = true) by decide)] at H; exact H
    clear H
    have H := H1
    clear H1
    obtain rfl := Option.some.inj H
    go_enter Try.func37, Try.ntmps37
    go_wp2_with (first | ((with_reducible refine gate_dst (N := 1) rfl ?_); refine box_event ?hg (N := 1) ?hd (cs := #[.slice A0_0 l0_0.length c0_0, .int .i64 a0_1, .int .i64 a0_2, .int .i64 a0_3, .slice A0_4 l0_4.length c0_4]) (t := 30) ?hr ?_; (case hd => rfl); (case hg => rfl); (case hr => first | (go_simp; done) | (go_simp; rfl)); intro gb101 hg w38 hbox hb; have n0_ := Aside0.mk (below_step (by repeat (first | (with_reducible first | exact HB.out | apply below_alloc | apply pw_below_drewN | apply below_drew1) | exact HB.out)) hb); have n1_ := Aside0.mk (hbox); have n2_ := Aside0.mk ((by rw [hg]; exact (below_size (by repeat (first | (with_reducible first | exact HB.out | apply below_alloc | apply pw_below_drewN | apply below_drew1) | exact HB.out))) : w.heap.size ≤ gb101)); have n3_ := Aside0.mk ((by rw [hg]; exact (below_size (by repeat (first | (with_reducible first | exact HB.out | apply below_alloc | apply pw_below_drewN | apply below_drew1) | exact HB.out))) : w.heap.size ≤ gb101)); clear HB; have HB := n0_; have BK101 := n1_; have GW101 := n2_; have GE101 := n3_; clear n0_ n1_ n2_ n3_; clear hb hbox hg; obtain ⟨hcz39_0, hcz39_1, hcz39_2, hcz39_3, hcz39_4, hfz39_0, hfz39_1, hfz39_2, hfz39_3, hfz39_4⟩ := bx5 BK101.out) | ((with_reducible refine gate_callee (f := 77) rfl ?_); refine goesL_ (some 11) rfl rfl Try.func77 (by kernel_rfl) rfl #[.agg #[.slice A0_0 l0_0.length c0_0, .int .i64 a0_1, .int .i64 a0_2, .int .i64 a0_3, .slice A0_4 l0_4.length c0_4]] rfl (by (try simp only [List.map_toArray, List.map_cons, List.map_nil]); first | done | rfl | (simp only [List.length_drop, List.length_take]; rfl)) ?_; (with_reducible refine (impl_isGraph.calls k _ _ l0_0 a0_1 a0_2 a0_3 _ _ l0_4 false _ ?side1 ?side2 ?side3 ?side4 A2.out).mono ?_); (case side1 => repeat (first | exact (Kd.C_below HR0_0.out HB.out) | (with_reducible refine Kd.C_alloc ?_ _) | (with_reducible refine Kd.C_drewN ?_ _) | (with_reducible refine Kd.C_drew ?_))); (case side2 => exact HC0_0.out); (case side3 => repeat (first | exact (Kd.C_below HR0_4.out HB.out) | (with_reducible refine Kd.C_alloc ?_ _) | (with_reducible refine Kd.C_drewN ?_ _) | (with_reducible refine Kd.C_drew ?_))); (case side4 => exact HC0_4.out); rintro e w40 ⟨rfl, hb⟩; refine ⟨_, rfl, ?_⟩; have n0_ := Aside0.mk (blk_below (g := gb101) (o := .cells #[.slice A0_0 l0_0.length c0_0, .int .i64 a0_1, .int .i64 a0_2, .int .i64 a0_3, .slice A0_4 l0_4.length c0_4] 30 (0, 0)) (by (with_reducible repeat (first | refine blk_drewN ?_ _ | refine blk_drew ?_ | refine blk_alloc ?_ _)); exact BK101.out) hb); have n1_ := Aside0.mk (below_step (by repeat (first | (with_reducible first | exact HB.out | apply below_alloc | apply pw_below_drewN | apply below_drew1 | refine below_set ?_ GE101.out) | exact HB.out)) hb); clear BK101; clear HB; have BK101 := n0_; have HB := n1_; clear n0_ n1_; (try clear hb); (try clear hb2); (try clear hk); (try clear hi)))
    go_ret
    exact ⟨by first | rfl | (simp [errW_none, errW_some] <;> rfl) | (simp [*, errW_none, errW_some] <;> rfl), by repeat (first | (with_reducible first | exact HB.out | apply below_alloc | apply pw_below_drewN | apply below_drew1 | refine below_set ?_ GE101.out) | exact HB.out)⟩

end Go.Proofs.Ytbbpmcignfhfmaa.P
