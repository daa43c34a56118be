/- Printed by a program over this seat's translation: a Lean function for each Go function, and that the Go code comes to its answers. -/
import Derived.Test.YtbihpjngmjkjmaaDoorF0
import Derived.Test.YtbihpjngmjkjmaaDoorF10
namespace Go.Proofs.YtbihpjngmjkjmaaDoor.P
open Go.RowKit Go.Proofs.YtbihpjngmjkjmaaDoorW.PrintWords Go.Proofs.YtbihpjngmjkjmaaDoorW.PrintLast Go.Proofs.YtbihpjngmjkjmaaDoorW.PrintMore
attribute [local go_sem] max2_int min2_int max_two min_two max_three min_three max_four min_four   -- for this text's walks alone
set_option linter.unusedVariables false
set_option linter.unusedSimpArgs false

/-! ### spec_PlaceText: function 12 -/
def spec_PlaceText.j0 : Nat → ByteArray → Int → Int → Int → Int → Option (ByteArray)
  | 0, _, _, _, _, _ => none
  | k + 1, x3, x102000, x102001, x102002, x102003 => if x102002 = (-1) then ((spec_DecText.f k x102003).bind fun t104 => (if x3.size + t104.size ≤ 9223372036854775807 then (if (x3 ++ t104).size + 1 ≤ 9223372036854775807 then (some ((x3 ++ t104) ++ (⟨#[93]⟩ : ByteArray))) else (none)) else (none))) else (if x3.size + 1 ≤ 9223372036854775807 then ((spec_DecText.f k x102002).bind fun t105 => (if (x3 ++ (⟨#[98]⟩ : ByteArray)).size + t105.size ≤ 9223372036854775807 then (if ((x3 ++ (⟨#[98]⟩ : ByteArray)) ++ t105).size + 1 ≤ 9223372036854775807 then ((spec_DecText.f k x102003).bind fun t106 => (if (((x3 ++ (⟨#[98]⟩ : ByteArray)) ++ t105) ++ (⟨#[43]⟩ : ByteArray)).size + t106.size ≤ 9223372036854775807 then (if ((((x3 ++ (⟨#[98]⟩ : ByteArray)) ++ t105) ++ (⟨#[43]⟩ : ByteArray)) ++ t106).size + 1 ≤ 9223372036854775807 then (some (((((x3 ++ (⟨#[98]⟩ : ByteArray)) ++ t105) ++ (⟨#[43]⟩ : ByteArray)) ++ t106) ++ (⟨#[93]⟩ : ByteArray))) else (none)) else (none))) else (none)) else (none))) else (none))
def spec_PlaceText.f (k : Nat) (a0_0 : Int) (a0_1 : Int) (a0_2 : Int) (a0_3 : Int) : Option (ByteArray) := if a0_0 = (-1) then (some (⟨#[45]⟩ : ByteArray)) else ((spec_DecText.f k a0_0).bind fun t102 => (if 1 + t102.size ≤ 9223372036854775807 then (if ((⟨#[114]⟩ : ByteArray) ++ t102).size + 1 ≤ 9223372036854775807 then (if a0_1 = (-1) then (spec_PlaceText.j0 k (((⟨#[114]⟩ : ByteArray) ++ t102) ++ (⟨#[91]⟩ : ByteArray)) a0_0 a0_1 a0_2 a0_3) else (if (((⟨#[114]⟩ : ByteArray) ++ t102) ++ (⟨#[91]⟩ : ByteArray)).size + 1 ≤ 9223372036854775807 then ((spec_DecText.f k a0_1).bind fun t103 => (if ((((⟨#[114]⟩ : ByteArray) ++ t102) ++ (⟨#[91]⟩ : ByteArray)) ++ (⟨#[98]⟩ : ByteArray)).size + t103.size ≤ 9223372036854775807 then (if (((((⟨#[114]⟩ : ByteArray) ++ t102) ++ (⟨#[91]⟩ : ByteArray)) ++ (⟨#[98]⟩ : ByteArray)) ++ t103).size + 1 ≤ 9223372036854775807 then (spec_PlaceText.j0 k ((((((⟨#[114]⟩ : ByteArray) ++ t102) ++ (⟨#[91]⟩ : ByteArray)) ++ (⟨#[98]⟩ : ByteArray)) ++ t103) ++ (⟨#[43]⟩ : ByteArray)) a0_0 a0_1 a0_2 a0_3) else (none)) else (none))) else (none))) else (none)) else (none)))
theorem spec_PlaceText.mono_l : ∀ k, (∀ y0 y1 y2 y3 y4, LeO (spec_PlaceText.j0 k y0 y1 y2 y3 y4) (spec_PlaceText.j0 (k + 1) y0 y1 y2 y3 y4))
  | 0 => fun _ _ _ _ _ r h => by simp [spec_PlaceText.j0] at h
  | k + 1 => by
    have ih0 := spec_PlaceText.mono_l k
    · intro y0 y1 y2 y3 y4
      unfold spec_PlaceText.j0
      repeat' first
      | (with_reducible exact ih0 _ _ _ _ _)
      | (with_reducible exact spec_DecText.mono _ _)
      | (with_reducible exact LeO.refl _)
      | (with_reducible exact LeO.none _)
      | (with_reducible refine LeO.ite ?_ ?_)
      | (with_reducible refine LeO.bind ?_ (fun _ => ?_))
      | exact ih0 _ _ _ _ _
      | exact spec_DecText.mono _ _
      | exact LeO.none _
      | refine LeO.ite ?_ ?_
      | refine LeO.bind ?_ (fun _ => ?_)
theorem spec_PlaceText.mono : ∀ a0 a1 a2 a3 k, LeO (spec_PlaceText.f k a0 a1 a2 a3) (spec_PlaceText.f (k + 1) a0 a1 a2 a3) := by
  intro a0 a1 a2 a3 k
  have ih0 := spec_PlaceText.mono_l k
  unfold spec_PlaceText.f
  repeat' first
      | (with_reducible exact ih0 _ _ _ _ _)
      | (with_reducible exact spec_DecText.mono _ _)
      | (with_reducible exact LeO.refl _)
      | (with_reducible exact LeO.none _)
      | (with_reducible refine LeO.ite ?_ ?_)
      | (with_reducible refine LeO.bind ?_ (fun _ => ?_))
      | exact ih0 _ _ _ _ _
      | exact spec_DecText.mono _ _
      | exact LeO.none _
      | refine LeO.ite ?_ ?_
      | refine LeO.bind ?_ (fun _ => ?_)
set_option maxHeartbeats 8000000 in
set_option maxRecDepth 100000 in
theorem spec_PlaceText.calls (k : Nat) (a0_0 : Int) (a0_1 : Int) (a0_2 : Int) (a0_3 : Int) (r : ByteArray) (w : World) (h : spec_PlaceText.f k a0_0 a0_1 a0_2 a0_3 = some r) :
    Calls Tryd.prog 12 #[.agg #[.int .i64 a0_0, .int .i64 a0_1, .int .i64 a0_2, .int .i64 a0_3]] w fun e w' => e = .returned (.string r) ∧ Below w.heap.size w w' := by
  have hu27 := Tryd.underlying27
  have HB := Aside0.mk (Below.refl w.heap.size w)
  have H : (if a0_0 = (-1) then (some (⟨#[45]⟩ : ByteArray)) else ((spec_DecText.f k a0_0).bind fun t102 => (if 1 + t102.size ≤ 9223372036854775807 then (if ((⟨#[114]⟩ : ByteArray) ++ t102).size + 1 ≤ 9223372036854775807 then (if a0_1 = (-1) then (spec_PlaceText.j0 k (((⟨#[114]⟩ : ByteArray) ++ t102) ++ (⟨#[91]⟩ : ByteArray)) a0_0 a0_1 a0_2 a0_3) else (if (((⟨#[114]⟩ : ByteArray) ++ t102) ++ (⟨#[91]⟩ : ByteArray)).size + 1 ≤ 9223372036854775807 then ((spec_DecText.f k a0_1).bind fun t103 => (if ((((⟨#[114]⟩ : ByteArray) ++ t102) ++ (⟨#[91]⟩ : ByteArray)) ++ (⟨#[98]⟩ : ByteArray)).size + t103.size ≤ 9223372036854775807 then (if (((((⟨#[114]⟩ : ByteArray) ++ t102) ++ (⟨#[91]⟩ : ByteArray)) ++ (⟨#[98]⟩ : ByteArray)) ++ t103).size + 1 ≤ 9223372036854775807 then (spec_PlaceText.j0 k ((((((⟨#[114]⟩ : ByteArray) ++ t102) ++ (⟨#[91]⟩ : ByteArray)) ++ (⟨#[98]⟩ : ByteArray)) ++ t103) ++ (⟨#[43]⟩ : ByteArray)) a0_0 a0_1 a0_2 a0_3) else (none)) else (none))) else (none))) else (none)) else (none)))) = some r := h
  clear h
  by_cases c2 : a0_0 = (-1)
  · rw [if_pos c2] at H
    have c2b0 : (a0_0 == (-1)) = true := beq_iff_eq.mpr c2
    have c2b1 : (a0_0 != (-1)) = false := bne_eq_false_iff_eq.mpr c2
    clear c2
    obtain rfl := Option.some.inj H
    go_enter Tryd.func12, Tryd.ntmps12
    go_wp2_with (first | ((with_reducible refine gate_dst (N := 1) rfl ?_); refine box_event ?hg (N := 1) ?hd (cs := #[.int .i64 a0_0, .int .i64 a0_1, .int .i64 a0_2, .int .i64 a0_3]) (t := 27) ?hr ?_; (case hd => rfl); (case hg => rfl); (case hr => first | (go_simp; done) | (go_simp; rfl)); intro gb101 hg w3 hbox hb; have n0_ := Aside0.mk (below_step (by repeat (first | (with_reducible first | exact HB.out | apply below_alloc | apply pw_below_drewN | apply below_drew1) | exact HB.out)) hb); have n1_ := Aside0.mk (hbox); have n2_ := Aside0.mk ((by rw [hg]; exact (below_size (by repeat (first | (with_reducible first | exact HB.out | apply below_alloc | apply pw_below_drewN | apply below_drew1) | exact HB.out))) : w.heap.size ≤ gb101)); have n3_ := Aside0.mk ((by rw [hg]; exact (below_size (by repeat (first | (with_reducible first | exact HB.out | apply below_alloc | apply pw_below_drewN | apply below_drew1) | exact HB.out))) : w.heap.size ≤ gb101)); clear HB; have HB := n0_; have BK101 := n1_; have GW101 := n2_; have GE101 := n3_; clear n0_ n1_ n2_ n3_; clear hb hbox hg; obtain ⟨hcz4_0, hcz4_1, hcz4_2, hcz4_3, hfz4_0, hfz4_1, hfz4_2, hfz4_3⟩ := bx4 BK101.out))
    go_ret
    exact ⟨by first | rfl | (simp [errW_none, errW_some] <;> rfl) | (simp [*, errW_none, errW_some] <;> rfl), by repeat (first | (with_reducible first | exact HB.out | apply below_alloc | apply pw_below_drewN | apply below_drew1 | refine below_set ?_ GE101.out) | exact HB.out)⟩
  · rw [if_neg c2] at H
    have c2b0 : (a0_0 == (-1)) = false := beq_eq_false_iff_ne.mpr c2
    have c2b1 : (a0_0 != (-1)) = true := bne_iff_ne.mpr c2
    replace H := Option.bind_eq_some_iff.mp H
    obtain ⟨t102, A50, H⟩ := H
    replace H : (if 1 + t102.size ≤ 9223372036854775807 then (if ((⟨#[114]⟩ : ByteArray) ++ t102).size + 1 ≤ 9223372036854775807 then (if a0_1 = (-1) then (spec_PlaceText.j0 k (((⟨#[114]⟩ : ByteArray) ++ t102) ++ (⟨#[91]⟩ : ByteArray)) a0_0 a0_1 a0_2 a0_3) else (if (((⟨#[114]⟩ : ByteArray) ++ t102) ++ (⟨#[91]⟩ : ByteArray)).size + 1 ≤ 9223372036854775807 then ((spec_DecText.f k a0_1).bind fun t103 => (if ((((⟨#[114]⟩ : ByteArray) ++ t102) ++ (⟨#[91]⟩ : ByteArray)) ++ (⟨#[98]⟩ : ByteArray)).size + t103.size ≤ 9223372036854775807 then (if (((((⟨#[114]⟩ : ByteArray) ++ t102) ++ (⟨#[91]⟩ : ByteArray)) ++ (⟨#[98]⟩ : ByteArray)) ++ t103).size + 1 ≤ 9223372036854775807 then (spec_PlaceText.j0 k ((((((⟨#[114]⟩ : ByteArray) ++ t102) ++ (⟨#[91]⟩ : ByteArray)) ++ (⟨#[98]⟩ : ByteArray)) ++ t103) ++ (⟨#[43]⟩ : ByteArray)) a0_0 a0_1 a0_2 a0_3) else (none)) else (none))) else (none))) else (none)) else (none)) = some r := H
    have A5 := Aside0.mk A50
    clear A50
    by_cases c6 : 1 + t102.size ≤ 9223372036854775807
    · rw [if_pos c6] at H
      have c6b0 := eq_true c6
      have c6b1 : decide (1 + t102.size ≤ 9223372036854775807) = true := decide_eq_true c6
      try have c6b2 : (9223372036854775807 < 1 + t102.size) = False := eq_false (Nat.not_lt.2 c6)
      by_cases c7 : ((⟨#[114]⟩ : ByteArray) ++ t102).size + 1 ≤ 9223372036854775807
      · rw [if_pos c7] at H
        have c7b0 := eq_true c7
        have c7b1 : decide (((⟨#[114]⟩ : ByteArray) ++ t102).size + 1 ≤ 9223372036854775807) = true := decide_eq_true c7
        try have c7b2 : (9223372036854775807 < ((⟨#[114]⟩ : ByteArray) ++ t102).size + 1) = False := eq_false (Nat.not_lt.2 c7)
        have c7n0 : 1 + t102.size + 1 ≤ 9223372036854775807 := by have h_ := c7; simp only [ByteArray.size_append] at h_; exact h_
        have c7n1 := eq_true c7n0
        have c7n2 : (9223372036854775807 < 1 + t102.size + 1) = False := eq_false (Nat.not_lt.2 c7n0)
        have HC8 := Aside0.mk H
        clear H
        go_enter Tryd.func12, Tryd.ntmps12
        go_upto_if 14 with (first | ((with_reducible refine gate_dst (N := 1) rfl ?_); refine box_event ?hg (N := 1) ?hd (cs := #[.int .i64 a0_0, .int .i64 a0_1, .int .i64 a0_2, .int .i64 a0_3]) (t := 27) ?hr ?_; (case hd => rfl); (case hg => rfl); (case hr => first | (go_simp; done) | (go_simp; rfl)); intro gb101 hg w9 hbox hb; have n0_ := Aside0.mk (below_step (by repeat (first | (with_reducible first | exact HB.out | apply below_alloc | apply pw_below_drewN | apply below_drew1) | exact HB.out)) hb); have n1_ := Aside0.mk (hbox); have n2_ := Aside0.mk ((by rw [hg]; exact (below_size (by repeat (first | (with_reducible first | exact HB.out | apply below_alloc | apply pw_below_drewN | apply below_drew1) | exact HB.out))) : w.heap.size ≤ gb101)); have n3_ := Aside0.mk ((by rw [hg]; exact (below_size (by repeat (first | (with_reducible first | exact HB.out | apply below_alloc | apply pw_below_drewN | apply below_drew1) | exact HB.out))) : w.heap.size ≤ gb101)); clear HB; have HB := n0_; have BK101 := n1_; have GW101 := n2_; have GE101 := n3_; clear n0_ n1_ n2_ n3_; clear hb hbox hg; obtain ⟨hcz10_0, hcz10_1, hcz10_2, hcz10_3, hfz10_0, hfz10_1, hfz10_2, hfz10_3⟩ := bx4 BK101.out) | ((with_reducible refine gate_callee (f := 10) rfl ?_); refine goesL_ (some 9) rfl rfl Tryd.func10 (by kernel_rfl) rfl #[.int .i64 a0_0] rfl (by (try simp only [List.map_toArray, List.map_cons, List.map_nil]); first | done | rfl | (simp only [List.length_drop, List.length_take]; rfl)) ?_; (with_reducible refine (spec_DecText.calls k a0_0 t102 _ A5.out).mono ?_); rintro e w' ⟨rfl, ⟨nd, rfl⟩⟩; refine ⟨_, rfl, ?_⟩))
        (try simp only [Act.put, List.setIfInBounds_toArray, List.set_cons_zero, List.set_cons_succ])
        go_cut [3] (fun v3 wc => ∃ (kq : Nat) (x3_7 : ByteArray), v3 = .string x3_7 ∧ Aside0 (spec_PlaceText.j0 kq x3_7 a0_0 a0_1 a0_2 a0_3 = some r) ∧ Aside0 (kq ≤ k) ∧ Aside0 (wc.heap[gb101]? = some (.cells #[.int .i64 a0_0, .int .i64 a0_1, .int .i64 a0_2, .int .i64 a0_3] 27 (0, 0))) ∧ Aside0 (Below w.heap.size w wc))
        case first =>
          have H := HC8.out
          clear HC8
          by_cases c11 : a0_1 = (-1)
          · rw [if_pos c11] at H
            have c11b0 : (a0_1 == (-1)) = true := beq_iff_eq.mpr c11
            have c11b1 : (a0_1 != (-1)) = false := bne_eq_false_iff_eq.mpr c11
            clear c11
            (first | rw [c11b0] | (simp only [i64_w, i32_w]; rw [c11b0]) | skip)
            have H' := Aside0.mk H
            clear H
            go_wp2
            go_meet
            case rel => exact ⟨_, (((⟨#[114]⟩ : ByteArray) ++ t102) ++ (⟨#[91]⟩ : ByteArray)), (by first | rfl | (simp; done) | (simp [*]; done)), H', ⟨by first | omega | exact Nat.le_refl _⟩, ⟨by (with_reducible repeat (first | refine blk_drewN ?_ _ | refine blk_drew ?_ | refine blk_alloc ?_ _)); exact BK101.out⟩, ⟨by repeat (first | (with_reducible first | exact HB.out | apply below_alloc | apply pw_below_drewN | apply below_drew1 | refine below_set ?_ GE101.out) | exact HB.out)⟩⟩
          · rw [if_neg c11] at H
            have c11b0 : (a0_1 == (-1)) = false := beq_eq_false_iff_ne.mpr c11
            have c11b1 : (a0_1 != (-1)) = true := bne_iff_ne.mpr c11
            (first | rw [c11b0] | (simp only [i64_w, i32_w]; rw [c11b0]) | skip)
            by_cases c12 : (((⟨#[114]⟩ : ByteArray) ++ t102) ++ (⟨#[91]⟩ : ByteArray)).size + 1 ≤ 9223372036854775807
            · rw [if_pos c12] at H
              have c12b0 := eq_true c12
              have c12b1 : decide ((((⟨#[114]⟩ : ByteArray) ++ t102) ++ (⟨#[91]⟩ : ByteArray)).size + 1 ≤ 9223372036854775807) = true := decide_eq_true c12
              try have c12b2 : (9223372036854775807 < (((⟨#[114]⟩ : ByteArray) ++ t102) ++ (⟨#[91]⟩ : ByteArray)).size + 1) = False := eq_false (Nat.not_lt.2 c12)
              have c12n0 : 1 + t102.size + 1 + 1 ≤ 9223372036854775807 := by have h_ := c12; simp only [ByteArray.size_append] at h_; exact h_
              have c12n1 := eq_true c12n0
              have c12n2 : (9223372036854775807 < 1 + t102.size + 1 + 1) = False := eq_false (Nat.not_lt.2 c12n0)
              replace H := Option.bind_eq_some_iff.mp H
              obtain ⟨t103, A130, H⟩ := H
              replace H : (if ((((⟨#[114]⟩ : ByteArray) ++ t102) ++ (⟨#[91]⟩ : ByteArray)) ++ (⟨#[98]⟩ : ByteArray)).size + t103.size ≤ 9223372036854775807 then (if (((((⟨#[114]⟩ : ByteArray) ++ t102) ++ (⟨#[91]⟩ : ByteArray)) ++ (⟨#[98]⟩ : ByteArray)) ++ t103).size + 1 ≤ 9223372036854775807 then (spec_PlaceText.j0 k ((((((⟨#[114]⟩ : ByteArray) ++ t102) ++ (⟨#[91]⟩ : ByteArray)) ++ (⟨#[98]⟩ : ByteArray)) ++ t103) ++ (⟨#[43]⟩ : ByteArray)) a0_0 a0_1 a0_2 a0_3) else (none)) else (none)) = some r := H
              have A13 := Aside0.mk A130
              clear A130
              by_cases c14 : ((((⟨#[114]⟩ : ByteArray) ++ t102) ++ (⟨#[91]⟩ : ByteArray)) ++ (⟨#[98]⟩ : ByteArray)).size + t103.size ≤ 9223372036854775807
              · rw [if_pos c14] at H
                have c14b0 := eq_true c14
                have c14b1 : decide (((((⟨#[114]⟩ : ByteArray) ++ t102) ++ (⟨#[91]⟩ : ByteArray)) ++ (⟨#[98]⟩ : ByteArray)).size + t103.size ≤ 9223372036854775807) = true := decide_eq_true c14
                try have c14b2 : (9223372036854775807 < ((((⟨#[114]⟩ : ByteArray) ++ t102) ++ (⟨#[91]⟩ : ByteArray)) ++ (⟨#[98]⟩ : ByteArray)).size + t103.size) = False := eq_false (Nat.not_lt.2 c14)
                have c14n0 : 1 + t102.size + 1 + 1 + t103.size ≤ 9223372036854775807 := by have h_ := c14; simp only [ByteArray.size_append] at h_; exact h_
                have c14n1 := eq_true c14n0
                have c14n2 : (9223372036854775807 < 1 + t102.size + 1 + 1 + t103.size) = False := eq_false (Nat.not_lt.2 c14n0)
                by_cases c15 : (((((⟨#[114]⟩ : ByteArray) ++ t102) ++ (⟨#[91]⟩ : ByteArray)) ++ (⟨#[98]⟩ : ByteArray)) ++ t103).size + 1 ≤ 9223372036854775807
                · rw [if_pos c15] at H
                  have c15b0 := eq_true c15
                  have c15b1 : decide ((((((⟨#[114]⟩ : ByteArray) ++ t102) ++ (⟨#[91]⟩ : ByteArray)) ++ (⟨#[98]⟩ : ByteArray)) ++ t103).size + 1 ≤ 9223372036854775807) = true := decide_eq_true c15
                  try have c15b2 : (9223372036854775807 < (((((⟨#[114]⟩ : ByteArray) ++ t102) ++ (⟨#[91]⟩ : ByteArray)) ++ (⟨#[98]⟩ : ByteArray)) ++ t103).size + 1) = False := eq_false (Nat.not_lt.2 c15)
                  have c15n0 : 1 + t102.size + 1 + 1 + t103.size + 1 ≤ 9223372036854775807 := by have h_ := c15; simp only [ByteArray.size_append] at h_; exact h_
                  have c15n1 := eq_true c15n0
                  have c15n2 : (9223372036854775807 < 1 + t102.size + 1 + 1 + t103.size + 1) = False := eq_false (Nat.not_lt.2 c15n0)
                  have H' := Aside0.mk H
                  clear H
                  obtain ⟨hcz16_0, hcz16_1, hcz16_2, hcz16_3, hfz16_0, hfz16_1, hfz16_2, hfz16_3⟩ := bx4 BK101.out
                  go_wp2_with (first | ((with_reducible refine gate_callee (f := 10) rfl ?_); refine goesL_ (some 19) rfl rfl Tryd.func10 (by kernel_rfl) rfl #[.int .i64 a0_1] rfl (by (try simp only [List.map_toArray, List.map_cons, List.map_nil]); first | done | rfl | (simp only [List.length_drop, List.length_take]; rfl)) ?_; (with_reducible refine (spec_DecText.calls k a0_1 t103 _ A13.out).mono ?_); rintro e w' ⟨rfl, ⟨nd, rfl⟩⟩; refine ⟨_, rfl, ?_⟩))
                  go_meet
                  case rel => exact ⟨_, ((((((⟨#[114]⟩ : ByteArray) ++ t102) ++ (⟨#[91]⟩ : ByteArray)) ++ (⟨#[98]⟩ : ByteArray)) ++ t103) ++ (⟨#[43]⟩ : ByteArray)), (by first | rfl | (simp; done) | (simp [*]; done)), H', ⟨by first | omega | exact Nat.le_refl _⟩, ⟨by (with_reducible repeat (first | refine blk_drewN ?_ _ | refine blk_drew ?_ | refine blk_alloc ?_ _)); exact BK101.out⟩, ⟨by repeat (first | (with_reducible first | exact HB.out | apply below_alloc | apply pw_below_drewN | apply below_drew1 | refine below_set ?_ GE101.out) | exact HB.out)⟩⟩
                · rw [if_neg c15] at H
                  exact absurd H (by simp)
              · rw [if_neg c14] at H
                exact absurd H (by simp)
            · rw [if_neg c12] at H
              exact absurd H (by simp)
        case rest =>
          clear HC8
          try clear c1
          try clear c2
          try clear c2b0
          try clear c2b1
          try clear p2
          try clear c6
          try clear c6b0
          try clear c6b1
          try clear c6b2
          try clear c7
          try clear c7b0
          try clear c7b1
          try clear c7b2
          try clear c10
          try clear c11
          try clear c11b0
          try clear c11b1
          try clear c12
          try clear c12b0
          try clear c12b1
          try clear c12b2
          try clear c14
          try clear c14b0
          try clear c14b1
          try clear c14b2
          try clear c15
          try clear c15b0
          try clear c15b1
          try clear c15b2
          try clear hcz10_0
          try clear hcz10_1
          try clear hcz10_2
          try clear hcz10_3
          try clear hcz16_0
          try clear hcz16_1
          try clear hcz16_2
          try clear hcz16_3
          try clear hcz4_0
          try clear hcz4_1
          try clear hcz4_2
          try clear hcz4_3
          try clear hfz10_0
          try clear hfz10_1
          try clear hfz10_2
          try clear hfz10_3
          try clear hfz16_0
          try clear hfz16_1
          try clear hfz16_2
          try clear hfz16_3
          try clear hfz4_0
          try clear hfz4_1
          try clear hfz4_2
          try clear hfz4_3
          obtain ⟨kq, x3_7, rfl, HA, HJ7, BK101, HB⟩ := hcut
          cases kq with
          | zero => exact absurd HA.out (by simp [spec_PlaceText.j0])
          | succ kj7 =>
            have H := HA.out
            clear HA
            simp only [spec_PlaceText.j0] at H
            by_cases c17 : a0_2 = (-1)
            · rw [if_pos c17] at H
              have c17b0 : (a0_2 == (-1)) = true := beq_iff_eq.mpr c17
              have c17b1 : (a0_2 != (-1)) = false := bne_eq_false_iff_eq.mpr c17
              clear c17
              replace H := Option.bind_eq_some_iff.mp H
              obtain ⟨t104, A180, H⟩ := H
              replace H : (if x3_7.size + t104.size ≤ 9223372036854775807 then (if (x3_7 ++ t104).size + 1 ≤ 9223372036854775807 then (some ((x3_7 ++ t104) ++ (⟨#[93]⟩ : ByteArray))) else (none)) else (none)) = some r := H
              have A18 := Aside0.mk A180
              clear A180
              by_cases c19 : x3_7.size + t104.size ≤ 9223372036854775807
              · rw [if_pos c19] at H
                have c19b0 := eq_true c19
                have c19b1 : decide (x3_7.size + t104.size ≤ 9223372036854775807) = true := decide_eq_true c19
                try have c19b2 : (9223372036854775807 < x3_7.size + t104.size) = False := eq_false (Nat.not_lt.2 c19)
                by_cases c20 : (x3_7 ++ t104).size + 1 ≤ 9223372036854775807
                · rw [if_pos c20] at H
                  have c20b0 := eq_true c20
                  have c20b1 : decide ((x3_7 ++ t104).size + 1 ≤ 9223372036854775807) = true := decide_eq_true c20
                  try have c20b2 : (9223372036854775807 < (x3_7 ++ t104).size + 1) = False := eq_false (Nat.not_lt.2 c20)
                  have c20n0 : x3_7.size + t104.size + 1 ≤ 9223372036854775807 := by have h_ := c20; simp only [ByteArray.size_append] at h_; exact h_
                  have c20n1 := eq_true c20n0
                  have c20n2 : (9223372036854775807 < x3_7.size + t104.size + 1) = False := eq_false (Nat.not_lt.2 c20n0)
                  obtain rfl := Option.some.inj H
                  obtain ⟨hcz21_0, hcz21_1, hcz21_2, hcz21_3, hfz21_0, hfz21_1, hfz21_2, hfz21_3⟩ := bx4 BK101.out
                  go_wp2_with (first | ((with_reducible refine gate_callee (f := 10) rfl ?_); refine goesL_ (some 35) rfl rfl Tryd.func10 (by kernel_rfl) rfl #[.int .i64 a0_3] rfl (by (try simp only [List.map_toArray, List.map_cons, List.map_nil]); first | done | rfl | (simp only [List.length_drop, List.length_take]; rfl)) ?_; (with_reducible refine (spec_DecText.calls kj7 a0_3 t104 _ A18.out).mono ?_); rintro e w' ⟨rfl, ⟨nd, rfl⟩⟩; refine ⟨_, rfl, ?_⟩))
                  go_ret
                  exact ⟨by first | rfl | (simp [errW_none, errW_some] <;> rfl) | (simp [*, errW_none, errW_some] <;> rfl), by repeat (first | (with_reducible first | exact HB.out | apply below_alloc | apply pw_below_drewN | apply below_drew1 | refine below_set ?_ GE101.out) | exact HB.out)⟩
                · rw [if_neg c20] at H
                  exact absurd H (by simp)
              · rw [if_neg c19] at H
                exact absurd H (by simp)
            · rw [if_neg c17] at H
              have c17b0 : (a0_2 == (-1)) = false := beq_eq_false_iff_ne.mpr c17
              have c17b1 : (a0_2 != (-1)) = true := bne_iff_ne.mpr c17
              by_cases c22 : x3_7.size + 1 ≤ 9223372036854775807
              · rw [if_pos c22] at H
                have c22b0 := eq_true c22
                have c22b1 : decide (x3_7.size + 1 ≤ 9223372036854775807) = true := decide_eq_true c22
                try have c22b2 : (9223372036854775807 < x3_7.size + 1) = False := eq_false (Nat.not_lt.2 c22)
                replace H := Option.bind_eq_some_iff.mp H
                obtain ⟨t105, A230, H⟩ := H
                replace H : (if (x3_7 ++ (⟨#[98]⟩ : ByteArray)).size + t105.size ≤ 9223372036854775807 then (if ((x3_7 ++ (⟨#[98]⟩ : ByteArray)) ++ t105).size + 1 ≤ 9223372036854775807 then ((spec_DecText.f kj7 a0_3).bind fun t106 => (if (((x3_7 ++ (⟨#[98]⟩ : ByteArray)) ++ t105) ++ (⟨#[43]⟩ : ByteArray)).size + t106.size ≤ 9223372036854775807 then (if ((((x3_7 ++ (⟨#[98]⟩ : ByteArray)) ++ t105) ++ (⟨#[43]⟩ : ByteArray)) ++ t106).size + 1 ≤ 9223372036854775807 then (some (((((x3_7 ++ (⟨#[98]⟩ : ByteArray)) ++ t105) ++ (⟨#[43]⟩ : ByteArray)) ++ t106) ++ (⟨#[93]⟩ : ByteArray))) else (none)) else (none))) else (none)) else (none)) = some r := H
                have A23 := Aside0.mk A230
                clear A230
                by_cases c24 : (x3_7 ++ (⟨#[98]⟩ : ByteArray)).size + t105.size ≤ 9223372036854775807
                · rw [if_pos c24] at H
                  have c24b0 := eq_true c24
                  have c24b1 : decide ((x3_7 ++ (⟨#[98]⟩ : ByteArray)).size + t105.size ≤ 9223372036854775807) = true := decide_eq_true c24
                  try have c24b2 : (9223372036854775807 < (x3_7 ++ (⟨#[98]⟩ : ByteArray)).size + t105.size) = False := eq_false (Nat.not_lt.2 c24)
                  have c24n0 : x3_7.size + 1 + t105.size ≤ 9223372036854775807 := by have h_ := c24; simp only [ByteArray.size_append] at h_; exact h_
                  have c24n1 := eq_true c24n0
                  have c24n2 : (9223372036854775807 < x3_7.size + 1 + t105.size) = False := eq_false (Nat.not_lt.2 c24n0)
                  by_cases c25 : ((x3_7 ++ (⟨#[98]⟩ : ByteArray)) ++ t105).size + 1 ≤ 9223372036854775807
                  · rw [if_pos c25] at H
                    have c25b0 := eq_true c25
                    have c25b1 : decide (((x3_7 ++ (⟨#[98]⟩ : ByteArray)) ++ t105).size + 1 ≤ 9223372036854775807) = true := decide_eq_true c25
                    try have c25b2 : (9223372036854775807 < ((x3_7 ++ (⟨#[98]⟩ : ByteArray)) ++ t105).size + 1) = False := eq_false (Nat.not_lt.2 c25)
                    have c25n0 : x3_7.size + 1 + t105.size + 1 ≤ 9223372036854775807 := by have h_ := c25; simp only [ByteArray.size_append] at h_; exact h_
                    have c25n1 := eq_true c25n0
                    have c25n2 : (9223372036854775807 < x3_7.size + 1 + t105.size + 1) = False := eq_false (Nat.not_lt.2 c25n0)
                    replace H := Option.bind_eq_some_iff.mp H
                    obtain ⟨t106, A260, H⟩ := H
                    replace H : (if (((x3_7 ++ (⟨#[98]⟩ : ByteArray)) ++ t105) ++ (⟨#[43]⟩ : ByteArray)).size + t106.size ≤ 9223372036854775807 then (if ((((x3_7 ++ (⟨#[98]⟩ : ByteArray)) ++ t105) ++ (⟨#[43]⟩ : ByteArray)) ++ t106).size + 1 ≤ 9223372036854775807 then (some (((((x3_7 ++ (⟨#[98]⟩ : ByteArray)) ++ t105) ++ (⟨#[43]⟩ : ByteArray)) ++ t106) ++ (⟨#[93]⟩ : ByteArray))) else (none)) else (none)) = some r := H
                    have A26 := Aside0.mk A260
                    clear A260
                    by_cases c27 : (((x3_7 ++ (⟨#[98]⟩ : ByteArray)) ++ t105) ++ (⟨#[43]⟩ : ByteArray)).size + t106.size ≤ 9223372036854775807
                    · rw [if_pos c27] at H
                      have c27b0 := eq_true c27
                      have c27b1 : decide ((((x3_7 ++ (⟨#[98]⟩ : ByteArray)) ++ t105) ++ (⟨#[43]⟩ : ByteArray)).size + t106.size ≤ 9223372036854775807) = true := decide_eq_true c27
                      try have c27b2 : (9223372036854775807 < (((x3_7 ++ (⟨#[98]⟩ : ByteArray)) ++ t105) ++ (⟨#[43]⟩ : ByteArray)).size + t106.size) = False := eq_false (Nat.not_lt.2 c27)
                      have c27n0 : x3_7.size + 1 + t105.size + 1 + t106.size ≤ 9223372036854775807 := by have h_ := c27; simp only [ByteArray.size_append] at h_; exact h_
                      have c27n1 := eq_true c27n0
                      have c27n2 : (9223372036854775807 < x3_7.size + 1 + t105.size + 1 + t106.size) = False := eq_false (Nat.not_lt.2 c27n0)
                      by_cases c28 : ((((x3_7 ++ (⟨#[98]⟩ : ByteArray)) ++ t105) ++ (⟨#[43]⟩ : ByteArray)) ++ t106).size + 1 ≤ 9223372036854775807
                      · rw [if_pos c28] at H
                        have c28b0 := eq_true c28
                        have c28b1 : decide (((((x3_7 ++ (⟨#[98]⟩ : ByteArray)) ++ t105) ++ (⟨#[43]⟩ : ByteArray)) ++ t106).size + 1 ≤ 9223372036854775807) = true := decide_eq_true c28
                        try have c28b2 : (9223372036854775807 < ((((x3_7 ++ (⟨#[98]⟩ : ByteArray)) ++ t105) ++ (⟨#[43]⟩ : ByteArray)) ++ t106).size + 1) = False := eq_false (Nat.not_lt.2 c28)
                        have c28n0 : x3_7.size + 1 + t105.size + 1 + t106.size + 1 ≤ 9223372036854775807 := by have h_ := c28; simp only [ByteArray.size_append] at h_; exact h_
                        have c28n1 := eq_true c28n0
                        have c28n2 : (9223372036854775807 < x3_7.size + 1 + t105.size + 1 + t106.size + 1) = False := eq_false (Nat.not_lt.2 c28n0)
                        obtain rfl := Option.some.inj H
                        obtain ⟨hcz29_0, hcz29_1, hcz29_2, hcz29_3, hfz29_0, hfz29_1, hfz29_2, hfz29_3⟩ := bx4 BK101.out
                        go_wp2_with (first | ((with_reducible refine gate_callee (f := 10) rfl ?_); refine goesL_ (some 29) rfl rfl Tryd.func10 (by kernel_rfl) rfl #[.int .i64 a0_2] rfl (by (try simp only [List.map_toArray, List.map_cons, List.map_nil]); first | done | rfl | (simp only [List.length_drop, List.length_take]; rfl)) ?_; (with_reducible refine (spec_DecText.calls kj7 a0_2 t105 _ A23.out).mono ?_); rintro e w' ⟨rfl, ⟨nd, rfl⟩⟩; refine ⟨_, rfl, ?_⟩) | ((with_reducible refine gate_callee (f := 10) rfl ?_); refine goesL_ (some 35) rfl rfl Tryd.func10 (by kernel_rfl) rfl #[.int .i64 a0_3] rfl (by (try simp only [List.map_toArray, List.map_cons, List.map_nil]); first | done | rfl | (simp only [List.length_drop, List.length_take]; rfl)) ?_; (with_reducible refine (spec_DecText.calls kj7 a0_3 t106 _ A26.out).mono ?_); rintro e w' ⟨rfl, ⟨nd, rfl⟩⟩; refine ⟨_, rfl, ?_⟩))
                        go_ret
                        exact ⟨by first | rfl | (simp [errW_none, errW_some] <;> rfl) | (simp [*, errW_none, errW_some] <;> rfl), by repeat (first | (with_reducible first | exact HB.out | apply below_alloc | apply pw_below_drewN | apply below_drew1 | refine below_set ?_ GE101.out) | exact HB.out)⟩
                      · rw [if_neg c28] at H
                        exact absurd H (by simp)
                    · rw [if_neg c27] at H
                      exact absurd H (by simp)
                  · rw [if_neg c25] at H
                    exact absurd H (by simp)
                · rw [if_neg c24] at H
                  exact absurd H (by simp)
              · rw [if_neg c22] at H
                exact absurd H (by simp)
      · rw [if_neg c7] at H
        exact absurd H (by simp)
    · rw [if_neg c6] at H
      exact absurd H (by simp)

end Go.Proofs.YtbihpjngmjkjmaaDoor.P
