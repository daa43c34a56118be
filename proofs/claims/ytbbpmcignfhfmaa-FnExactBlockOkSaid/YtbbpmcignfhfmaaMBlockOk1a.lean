/- Functions of the program and of the reference as plain functions, and that the Go code comes to their answers; several texts in one. No conditions beyond what each theorem says. -/
import Derived.Test.YtbbpmcignfhfmaaMBlockOk0a
import Derived.Test.YtbbpmcignfhfmaaMBlockOkxF108
import Derived.Test.YtbbpmcignfhfmaaMBlockOkxGisA
import Derived.Test.YtbbpmcignfhfmaaMBlockOkxGisB
import Derived.Test.YtbbpmcignfhfmaaMBlockOkxGisC
import Derived.Test.YtbbpmcignfhfmaaMBlockOkxGisD
import Derived.Shelf.Abstract
import Derived.Test.YtbbpmcignfhfmaaMBlockOk0b
import Derived.Test.YtbbpmcignfhfmaaMBlockOkxF69
namespace Go.Proofs.Ytbbpmcignfhfmaa.P
open Go.RowKit Go.Proofs.YtbbpmcignfhfmaaW.PrintWords Go.Proofs.YtbbpmcignfhfmaaW.PrintLast Go.Proofs.YtbbpmcignfhfmaaW.PrintMore
attribute [local go_sem] max2_int min2_int max_two min_two max_three min_three max_four min_four   -- for this text's walks alone
set_option linter.unusedVariables false
set_option linter.unusedSimpArgs false

/-! ### laws_eqInstrS: function 75 -/
def laws_eqInstrS.l0 : Nat → List (S39) → List (S39) → Int → Option (Bool)
  | 0, _, _, _ => none
  | k + 1, x0, x1, x5 => if x5 < (x0.length : Int) then (if 0 ≤ x5 then (if x5 < (x1.length : Int) then ((laws_eqInstr.f ((rd_T39 x0 x5).f0) ((rd_T39 x0 x5).f1) ((rd_T39 x0 x5).f2) ((rd_T39 x0 x5).f3) ((rd_T39 x0 x5).f4) ((rd_T39 x0 x5).f5) ((rd_T39 x0 x5).f6) ((rd_T39 x1 x5).f0) ((rd_T39 x1 x5).f1) ((rd_T39 x1 x5).f2) ((rd_T39 x1 x5).f3) ((rd_T39 x1 x5).f4) ((rd_T39 x1 x5).f5) ((rd_T39 x1 x5).f6)).bind fun t103 => (if t103 = true then (laws_eqInstrS.l0 k x0 x1 (wrap64 (x5 + 1))) else (some false))) else (none)) else (none)) else (some true)
def laws_eqInstrS.f (k : Nat) (l0 : List (S39)) (l1 : List (S39)) : Option (Bool) := if (l0.length : Int) = (l1.length : Int) then (laws_eqInstrS.l0 k l0 l1 0) else (some false)
theorem laws_eqInstrS.mono_l : ∀ k, (∀ y0 y1 y2, LeO (laws_eqInstrS.l0 k y0 y1 y2) (laws_eqInstrS.l0 (k + 1) y0 y1 y2))
  | 0 => fun _ _ _ r h => by simp [laws_eqInstrS.l0] at h
  | k + 1 => by
    have ih0 := laws_eqInstrS.mono_l k
    · intro y0 y1 y2
      unfold laws_eqInstrS.l0
      repeat' first
      | (with_reducible exact ih0 _ _ _)
      | (with_reducible exact LeO.refl _)
      | (with_reducible exact LeO.none _)
      | (with_reducible refine LeO.ite ?_ ?_)
      | (with_reducible refine LeO.bind ?_ (fun _ => ?_))
      | exact ih0 _ _ _
      | exact LeO.none _
      | refine LeO.ite ?_ ?_
      | refine LeO.bind ?_ (fun _ => ?_)
theorem laws_eqInstrS.mono : ∀ a0 a1 k, LeO (laws_eqInstrS.f k a0 a1) (laws_eqInstrS.f (k + 1) a0 a1) := by
  intro a0 a1 k
  have ih0 := laws_eqInstrS.mono_l k
  unfold laws_eqInstrS.f
  repeat' first
      | (with_reducible exact ih0 _ _ _)
      | (with_reducible exact LeO.refl _)
      | (with_reducible exact LeO.none _)
      | (with_reducible refine LeO.ite ?_ ?_)
      | (with_reducible refine LeO.bind ?_ (fun _ => ?_))
      | exact ih0 _ _ _
      | exact LeO.none _
      | refine LeO.ite ?_ ?_
      | refine LeO.bind ?_ (fun _ => ?_)
def laws_eqInstrS.T6 : Bool × List (List Nat × List Nat) := (true, [([], []), ([], []), ([0, 1], [0, 1]), ([2], [2]), ([], []), ([], []), ([4, 5], [4, 5]), ([6], [6]), ([3, 7], [3, 7]), ([8], [8])])
def laws_eqInstrS.B6 : List Nat := [0, 0, 3, 7, 0, 0, 48, 112, 255, 511]
theorem laws_eqInstrS.tab6 : rtab .any (opsOf Try.f75 6) = laws_eqInstrS.T6 := by kernel_rfl
theorem laws_eqInstrS.bits6 : waitsOk laws_eqInstrS.T6.2 laws_eqInstrS.B6 = true := by kernel_rfl
set_option maxHeartbeats 8000000 in
set_option maxRecDepth 100000 in
theorem laws_eqInstrS.calls (k : Nat) (A0 : Option Addr) (c0 : Nat) (l0 : List (S39)) (A1 : Option Addr) (c1 : Nat) (l1 : List (S39)) (r : Bool) (w : World) (hr0 : Kd.C k39 w A0 l0.length l0) (hc0 : l0.length ≤ c0) (hr1 : Kd.C k39 w A1 l1.length l1) (hc1 : l1.length ≤ c1) (h : laws_eqInstrS.f k l0 l1 = some r) :
    Calls Try.prog 75 #[.slice A0 l0.length c0, .slice A1 l1.length c1] w fun e w' => e = .returned (.bool r) ∧ Below w.heap.size w w' := by
  have hu39 := Try.underlying39
  have HR0 := Aside0.mk hr0
  have HC0 := Aside0.mk hc0
  clear hr0 hc0
  have HR1 := Aside0.mk hr1
  have HC1 := Aside0.mk hc1
  clear hr1 hc1
  have HB := Aside0.mk (Below.refl w.heap.size w)
  have H : (if (l0.length : Int) = (l1.length : Int) then (laws_eqInstrS.l0 k l0 l1 0) else (some false)) = some r := h
  clear h
  by_cases c3 : (l0.length : Int) = (l1.length : Int)
  · rw [if_pos c3] at H
    have c3b0 : ((l0.length : Int) == (l1.length : Int)) = true := beq_iff_eq.mpr c3
    have c3b1 : ((l0.length : Int) != (l1.length : Int)) = false := bne_eq_false_iff_eq.mpr c3
    have c3b2 : (l0.length == l1.length) = true := by first | simpa using c3 | (simp at c3 ⊢; omega)
    clear c3
    have H' := Aside0.mk H
    clear H
    go_enter Try.func75, Try.ntmps75
    go_wp2
    go_loopg [5] k (fun kq v5 w' => ∃ (x5_1 : Int), v5 = .int .i64 x5_1 ∧ Aside0 (laws_eqInstrS.l0 kq l0 l1 x5_1 = some r) ∧ Aside0 (kq ≤ k) ∧ Aside0 (Below w.heap.size w w'))
    case atStart => exact ⟨(0), (by first | rfl | (simp; done) | (simp [*]; done)), H', ⟨Nat.le_refl _⟩, ⟨by repeat (first | (with_reducible first | exact HB.out | apply below_alloc | apply pw_below_drewN | apply below_drew1) | exact HB.out)⟩⟩
    case round =>
      clear H'
      try clear c1
      try clear p2
      try clear c3
      try clear c3b0
      try clear c3b1
      try clear c3b2
      obtain ⟨x5_1, rfl, HA, HK1, HB⟩ := hrel
      cases gk with
      | zero => exact absurd HA.out (by simp [laws_eqInstrS.l0])
      | succ k1 =>
        have H := HA.out
        clear HA
        simp only [laws_eqInstrS.l0] at H
        by_cases c4 : x5_1 < (l0.length : Int)
        · rw [if_pos c4] at H
          have c4b0 : decide (x5_1 < (l0.length : Int)) = true := decide_eq_true c4
          clear c4
          by_cases c5 : 0 ≤ x5_1
          · rw [if_pos c5] at H
            have c5b0 : decide (0 ≤ x5_1) = true := decide_eq_true c5
            clear c5
            by_cases c6 : x5_1 < (l1.length : Int)
            · rw [if_pos c6] at H
              have c6b0 : decide (x5_1 < (l1.length : Int)) = true := decide_eq_true c6
              clear c6
              replace H := Option.bind_eq_some_iff.mp H
              obtain ⟨t103, A70, H⟩ := H
              replace H : (if t103 = true then (laws_eqInstrS.l0 k1 l0 l1 (wrap64 (x5_1 + 1))) else (some false)) = some r := H
              have A7 := Aside0.mk A70
              clear A70
              by_cases c8 : t103 = true
              · subst c8
                have H1 : (laws_eqInstrS.l0 k1 l0 l1 (wrap64 (x5_1 + 1))) = some r := by rw [if_pos rfl] at H; exact H
                clear H
                have H := H1
                clear H1
                have H' := Aside0.mk H
                clear H
                try go_wp2
                have n0_ := Aside0.mk (below_drew1 HB.out)
                clear HB
                have HB := n0_
                clear n0_
                have p101 : 0 ≤ (x5_1 : Int) := of_decide_eq_true (by first | (with_reducible assumption) | assumption)
                have q101 : x5_1 < (l0.length : Int) := of_decide_eq_true (by first | (with_reducible assumption) | assumption)
                obtain ⟨ad101, e101, hx101_0, hx101_1, hx101_2, hx101_3, hx101_4, hx101_5, hx101_6⟩ := at_T39 HR0.out x5_1 p101 q101
                have hw101_6 := hx101_6
                have hw101_5 := hx101_5
                have hw101_4 := hx101_4
                have hw101_3 := hx101_3
                have hw101_2 := hx101_2
                have hw101_1 := hx101_1
                have hw101_0 := hx101_0
                cases e101
                replace hx101_0 := (HB.out.cell (World.block_lt_of_cell? w _ hx101_0)).trans hx101_0
                replace hx101_1 := (HB.out.cell (World.block_lt_of_cell? w _ hx101_1)).trans hx101_1
                replace hx101_2 := (HB.out.cell (World.block_lt_of_cell? w _ hx101_2)).trans hx101_2
                replace hx101_3 := (HB.out.cell (World.block_lt_of_cell? w _ hx101_3)).trans hx101_3
                replace hx101_4 := (HB.out.cell (World.block_lt_of_cell? w _ hx101_4)).trans hx101_4
                replace hx101_5 := (HB.out.cell (World.block_lt_of_cell? w _ hx101_5)).trans hx101_5
                replace hx101_6 := (HB.out.cell (World.block_lt_of_cell? w _ hx101_6)).trans hx101_6
                replace p101 := eq_true p101
                replace q101 := eq_true q101
                have p102 : 0 ≤ (x5_1 : Int) := of_decide_eq_true (by first | (with_reducible assumption) | assumption)
                have q102 : x5_1 < (l1.length : Int) := of_decide_eq_true (by first | (with_reducible assumption) | assumption)
                obtain ⟨ad102, e102, hx102_0, hx102_1, hx102_2, hx102_3, hx102_4, hx102_5, hx102_6⟩ := at_T39 HR1.out x5_1 p102 q102
                have hw102_6 := hx102_6
                have hw102_5 := hx102_5
                have hw102_4 := hx102_4
                have hw102_3 := hx102_3
                have hw102_2 := hx102_2
                have hw102_1 := hx102_1
                have hw102_0 := hx102_0
                cases e102
                replace hx102_0 := (HB.out.cell (World.block_lt_of_cell? w _ hx102_0)).trans hx102_0
                replace hx102_1 := (HB.out.cell (World.block_lt_of_cell? w _ hx102_1)).trans hx102_1
                replace hx102_2 := (HB.out.cell (World.block_lt_of_cell? w _ hx102_2)).trans hx102_2
                replace hx102_3 := (HB.out.cell (World.block_lt_of_cell? w _ hx102_3)).trans hx102_3
                replace hx102_4 := (HB.out.cell (World.block_lt_of_cell? w _ hx102_4)).trans hx102_4
                replace hx102_5 := (HB.out.cell (World.block_lt_of_cell? w _ hx102_5)).trans hx102_5
                replace hx102_6 := (HB.out.cell (World.block_lt_of_cell? w _ hx102_6)).trans hx102_6
                replace p102 := eq_true p102
                replace q102 := eq_true q102
                refine start_ (n := 10) (S := fun w' => w'.cell? (ad101.add ((x5_1).toNat * 7)) = some (.int .i64 ((rd_T39 l0 x5_1).f0)) ∧ w'.cell? ⟨(ad101.add ((x5_1).toNat * 7)).block, (ad101.add ((x5_1).toNat * 7)).off + 1, none⟩ = some (.int .i64 ((rd_T39 l0 x5_1).f1)) ∧ w'.cell? ⟨(ad101.add ((x5_1).toNat * 7)).block, (ad101.add ((x5_1).toNat * 7)).off + 2, none⟩ = some (.int .i64 ((rd_T39 l0 x5_1).f2)) ∧ w'.cell? ⟨(ad101.add ((x5_1).toNat * 7)).block, (ad101.add ((x5_1).toNat * 7)).off + 3, none⟩ = some (.int .i64 ((rd_T39 l0 x5_1).f3)) ∧ w'.cell? ⟨(ad101.add ((x5_1).toNat * 7)).block, (ad101.add ((x5_1).toNat * 7)).off + 4, none⟩ = some (.int .i64 ((rd_T39 l0 x5_1).f4)) ∧ w'.cell? ⟨(ad101.add ((x5_1).toNat * 7)).block, (ad101.add ((x5_1).toNat * 7)).off + 5, none⟩ = some (.int .i64 ((rd_T39 l0 x5_1).f5)) ∧ w'.cell? ⟨(ad101.add ((x5_1).toNat * 7)).block, (ad101.add ((x5_1).toNat * 7)).off + 6, none⟩ = some (.string ((rd_T39 l0 x5_1).f6)) ∧ w'.cell? (ad102.add ((x5_1).toNat * 7)) = some (.int .i64 ((rd_T39 l1 x5_1).f0)) ∧ w'.cell? ⟨(ad102.add ((x5_1).toNat * 7)).block, (ad102.add ((x5_1).toNat * 7)).off + 1, none⟩ = some (.int .i64 ((rd_T39 l1 x5_1).f1)) ∧ w'.cell? ⟨(ad102.add ((x5_1).toNat * 7)).block, (ad102.add ((x5_1).toNat * 7)).off + 2, none⟩ = some (.int .i64 ((rd_T39 l1 x5_1).f2)) ∧ w'.cell? ⟨(ad102.add ((x5_1).toNat * 7)).block, (ad102.add ((x5_1).toNat * 7)).off + 3, none⟩ = some (.int .i64 ((rd_T39 l1 x5_1).f3)) ∧ w'.cell? ⟨(ad102.add ((x5_1).toNat * 7)).block, (ad102.add ((x5_1).toNat * 7)).off + 4, none⟩ = some (.int .i64 ((rd_T39 l1 x5_1).f4)) ∧ w'.cell? ⟨(ad102.add ((x5_1).toNat * 7)).block, (ad102.add ((x5_1).toNat * 7)).off + 5, none⟩ = some (.int .i64 ((rd_T39 l1 x5_1).f5)) ∧ w'.cell? ⟨(ad102.add ((x5_1).toNat * 7)).block, (ad102.add ((x5_1).toNat * 7)).off + 6, none⟩ = some (.string ((rd_T39 l1 x5_1).f6))) (ds := []) #[false, false, false, false, false, false, false, false, false, false] (by kernel_rfl) rfl rfl ⟨((HB.out.cell (World.block_lt_of_cell? w _ hw101_0)).trans hw101_0), ((HB.out.cell (World.block_lt_of_cell? w _ hw101_1)).trans hw101_1), ((HB.out.cell (World.block_lt_of_cell? w _ hw101_2)).trans hw101_2), ((HB.out.cell (World.block_lt_of_cell? w _ hw101_3)).trans hw101_3), ((HB.out.cell (World.block_lt_of_cell? w _ hw101_4)).trans hw101_4), ((HB.out.cell (World.block_lt_of_cell? w _ hw101_5)).trans hw101_5), ((HB.out.cell (World.block_lt_of_cell? w _ hw101_6)).trans hw101_6), ((HB.out.cell (World.block_lt_of_cell? w _ hw102_0)).trans hw102_0), ((HB.out.cell (World.block_lt_of_cell? w _ hw102_1)).trans hw102_1), ((HB.out.cell (World.block_lt_of_cell? w _ hw102_2)).trans hw102_2), ((HB.out.cell (World.block_lt_of_cell? w _ hw102_3)).trans hw102_3), ((HB.out.cell (World.block_lt_of_cell? w _ hw102_4)).trans hw102_4), ((HB.out.cell (World.block_lt_of_cell? w _ hw102_5)).trans hw102_5), ((HB.out.cell (World.block_lt_of_cell? w _ hw102_6)).trans hw102_6)⟩ (fun hHeld => ?_); refine with_tabW laws_eqInstrS.tab6 laws_eqInstrS.bits6 (fun HT_ HW_ => ?_)
                generalize wr.drew = w9 at HB hx101_0 hx101_1 hx101_2 hx101_3 hx101_4 hx101_5 hx101_6 hx102_0 hx102_1 hx102_2 hx102_3 hx102_4 hx102_5 hx102_6 hHeld ⊢
                refine pure_ (i := 0) (N := some 17) (v := ?_) (a' := ?_) #[true, false, false, false, false, false, false, false, false, false] rfl rfl (any_of HT_.out (by kernel_rfl)) (fun _ _ _ h => h) (Or.inl ⟨by rfl, ?_⟩) ?_ ?_
                rotate_left
                · intro w'
                  go_simp
                  with_reducible rfl
                rotate_left
                · simp only [Act.put, List.setIfInBounds_toArray, List.set_cons_zero, List.set_cons_succ, i64_w, i32_w]
                  rfl
                refine pure_ (i := 1) (N := some 18) (v := ?_) (a' := ?_) #[true, true, false, false, false, false, false, false, false, false] rfl rfl (any_of HT_.out (by kernel_rfl)) (fun _ _ _ h => h) (Or.inl ⟨by rfl, ?_⟩) ?_ ?_
                rotate_left
                · intro w'
                  go_simp
                  with_reducible rfl
                rotate_left
                · simp only [Act.put, List.setIfInBounds_toArray, List.set_cons_zero, List.set_cons_succ, i64_w, i32_w]
                  rfl
                refine pure_ (i := 2) (N := some 19) (v := ?_) (a' := ?_) #[true, true, true, false, false, false, false, false, false, false] rfl rfl (any_of HT_.out (by kernel_rfl)) (fun _ _ _ h => h) (Or.inl ⟨by rfl, ?_⟩) ?_ ?_
                rotate_left
                · intro w'
                  go_simp
                  with_reducible rfl
                rotate_left
                · simp only [Act.put, List.setIfInBounds_toArray, List.set_cons_zero, List.set_cons_succ, i64_w, i32_w]
                  rfl
                refine pure_ (i := 4) (N := some 21) (v := ?_) (a' := ?_) #[true, true, true, false, true, false, false, false, false, false] rfl rfl (any_of HT_.out (by kernel_rfl)) (fun _ _ _ h => h) (Or.inl ⟨by rfl, ?_⟩) ?_ ?_
                rotate_left
                · intro w'
                  go_simp
                  with_reducible rfl
                rotate_left
                · simp only [Act.put, List.setIfInBounds_toArray, List.set_cons_zero, List.set_cons_succ, i64_w, i32_w]
                  rfl
                refine pure_ (i := 5) (N := some 22) (v := ?_) (a' := ?_) #[true, true, true, false, true, true, false, false, false, false] rfl rfl (any_of HT_.out (by kernel_rfl)) (fun _ _ _ h => h) (Or.inl ⟨by rfl, ?_⟩) ?_ ?_
                rotate_left
                · intro w'
                  go_simp
                  with_reducible rfl
                rotate_left
                · simp only [Act.put, List.setIfInBounds_toArray, List.set_cons_zero, List.set_cons_succ, i64_w, i32_w]
                  rfl
                refine pure_ (i := 6) (N := some 23) (v := ?_) (a' := ?_) #[true, true, true, false, true, true, true, false, false, false] rfl rfl (any_of HT_.out (by kernel_rfl)) (fun _ _ _ h => h) (Or.inl ⟨by rfl, ?_⟩) ?_ ?_
                rotate_left
                · intro w'
                  go_simp
                  with_reducible rfl
                rotate_left
                · simp only [Act.put, List.setIfInBounds_toArray, List.set_cons_zero, List.set_cons_succ, i64_w, i32_w]
                  rfl
                refine take_ (i := 3) (N := some 20) (v := ?_) (a' := ?_) #[true, true, true, true, true, true, true, false, false, false] rfl rfl (take_ofW HT_.out HW_.out (by kernel_rfl)) (fun _ _ _ h => h) (Or.inl ⟨by rfl, ?_⟩) hHeld ?_ ?_
                rotate_left
                · rintro w' ⟨s0, s1, s2, s3, s4, s5, s6, s7, s8, s9, s10, s11, s12, s13⟩
                  go_simp
                  with_reducible rfl
                rotate_left
                · simp only [Act.put, List.setIfInBounds_toArray, List.set_cons_zero, List.set_cons_succ, i64_w, i32_w]
                  rfl
                refine take_ (i := 7) (N := some 24) (v := ?_) (a' := ?_) #[true, true, true, true, true, true, true, true, false, false] rfl rfl (take_ofW HT_.out HW_.out (by kernel_rfl)) (fun _ _ _ h => h) (Or.inl ⟨by rfl, ?_⟩) hHeld ?_ ?_
                rotate_left
                · rintro w' ⟨s0, s1, s2, s3, s4, s5, s6, s7, s8, s9, s10, s11, s12, s13⟩
                  go_simp
                  with_reducible rfl
                rotate_left
                · simp only [Act.put, List.setIfInBounds_toArray, List.set_cons_zero, List.set_cons_succ, i64_w, i32_w]
                  rfl
                refine one_ (i := 8) (N := some 25) #[true, true, true, true, true, true, true, true, true, false] rfl rfl (one_of HT_.out (by kernel_rfl)) (by decide) (fun K hK => ?_)
                refine goes_ Try.func108 (by kernel_rfl) rfl #[.agg #[.int .i64 ((rd_T39 l0 x5_1).f0), .int .i64 ((rd_T39 l0 x5_1).f1), .int .i64 ((rd_T39 l0 x5_1).f2), .int .i64 ((rd_T39 l0 x5_1).f3), .int .i64 ((rd_T39 l0 x5_1).f4), .int .i64 ((rd_T39 l0 x5_1).f5), .string ((rd_T39 l0 x5_1).f6)], .agg #[.int .i64 ((rd_T39 l1 x5_1).f0), .int .i64 ((rd_T39 l1 x5_1).f1), .int .i64 ((rd_T39 l1 x5_1).f2), .int .i64 ((rd_T39 l1 x5_1).f3), .int .i64 ((rd_T39 l1 x5_1).f4), .int .i64 ((rd_T39 l1 x5_1).f5), .string ((rd_T39 l1 x5_1).f6)]] (by rfl) rfl rfl (by (try simp only [List.map_toArray, List.map_cons, List.map_nil]); first | done | rfl | (simp only [List.length_drop, List.length_take]; rfl)) ?_
                with_reducible refine (laws_eqInstr.calls ((rd_T39 l0 x5_1).f0) ((rd_T39 l0 x5_1).f1) ((rd_T39 l0 x5_1).f2) ((rd_T39 l0 x5_1).f3) ((rd_T39 l0 x5_1).f4) ((rd_T39 l0 x5_1).f5) ((rd_T39 l0 x5_1).f6) ((rd_T39 l1 x5_1).f0) ((rd_T39 l1 x5_1).f1) ((rd_T39 l1 x5_1).f2) ((rd_T39 l1 x5_1).f3) ((rd_T39 l1 x5_1).f4) ((rd_T39 l1 x5_1).f5) ((rd_T39 l1 x5_1).f6) true _ A7.out).mono ?_
                rintro e w10 ⟨rfl, hb⟩
                refine ⟨_, rfl, ?_⟩
                have n0_ := Aside0.mk (below_step (by repeat (first | (with_reducible first | exact HB.out | apply below_alloc | apply pw_below_drewN | apply below_drew1) | exact HB.out)) hb)
                clear HB
                have HB := n0_
                clear n0_
                (try clear hb)
                (try clear hb2)
                (try clear hk)
                (try clear hi)
                refine hK.out _ _ ⟨((HB.out.cell (World.block_lt_of_cell? w _ hw101_0)).trans hw101_0), ((HB.out.cell (World.block_lt_of_cell? w _ hw101_1)).trans hw101_1), ((HB.out.cell (World.block_lt_of_cell? w _ hw101_2)).trans hw101_2), ((HB.out.cell (World.block_lt_of_cell? w _ hw101_3)).trans hw101_3), ((HB.out.cell (World.block_lt_of_cell? w _ hw101_4)).trans hw101_4), ((HB.out.cell (World.block_lt_of_cell? w _ hw101_5)).trans hw101_5), ((HB.out.cell (World.block_lt_of_cell? w _ hw101_6)).trans hw101_6), ((HB.out.cell (World.block_lt_of_cell? w _ hw102_0)).trans hw102_0), ((HB.out.cell (World.block_lt_of_cell? w _ hw102_1)).trans hw102_1), ((HB.out.cell (World.block_lt_of_cell? w _ hw102_2)).trans hw102_2), ((HB.out.cell (World.block_lt_of_cell? w _ hw102_3)).trans hw102_3), ((HB.out.cell (World.block_lt_of_cell? w _ hw102_4)).trans hw102_4), ((HB.out.cell (World.block_lt_of_cell? w _ hw102_5)).trans hw102_5), ((HB.out.cell (World.block_lt_of_cell? w _ hw102_6)).trans hw102_6)⟩ (fun hHeld => ?_)
                clear hK K
                refine norm_ (a' := ?_) ?_ ?_
                rotate_left
                · show Act.put _ (some 25) _ = _
                  simp only [Act.put, List.setIfInBounds_toArray, List.set_cons_zero, List.set_cons_succ, i64_w, i32_w]
                  rfl
                refine pure_ (i := 9) (N := some 26) (v := ?_) (a' := ?_) #[true, true, true, true, true, true, true, true, true, true] rfl rfl (any_of HT_.out (by kernel_rfl)) (fun _ _ _ h => h) (Or.inl ⟨by rfl, ?_⟩) ?_ ?_
                rotate_left
                · intro w'
                  go_simp
                  with_reducible rfl
                rotate_left
                · simp only [Act.put, List.setIfInBounds_toArray, List.set_cons_zero, List.set_cons_succ, i64_w, i32_w]
                  rfl
                refine done_ (done_of HT_.out (by kernel_rfl)) ?_
                try go_wp2
                go_roundg k1
                case measure => have := HK1.out; omega
                case rel => exact ⟨(wrap64 (x5_1 + 1)), (by first | rfl | (simp; done) | (simp [*]; done)), H', ⟨by have := HK1.out; omega⟩, ⟨by repeat (first | (with_reducible first | exact HB.out | apply below_alloc | apply pw_below_drewN | apply below_drew1) | exact HB.out)⟩⟩
              · replace c8 := Bool.eq_false_iff.mpr c8
                subst c8
                have H1 : (some false) = some r := by rw [if_neg (show ¬ (false = true) by decide)] at H; exact H
                clear H
                have H := H1
                clear H1
                obtain rfl := Option.some.inj H
                try go_wp2
                have n0_ := Aside0.mk (below_drew1 HB.out)
                clear HB
                have HB := n0_
                clear n0_
                have p101 : 0 ≤ (x5_1 : Int) := of_decide_eq_true (by first | (with_reducible assumption) | assumption)
                have q101 : x5_1 < (l0.length : Int) := of_decide_eq_true (by first | (with_reducible assumption) | assumption)
                obtain ⟨ad101, e101, hx101_0, hx101_1, hx101_2, hx101_3, hx101_4, hx101_5, hx101_6⟩ := at_T39 HR0.out x5_1 p101 q101
                have hw101_6 := hx101_6
                have hw101_5 := hx101_5
                have hw101_4 := hx101_4
                have hw101_3 := hx101_3
                have hw101_2 := hx101_2
                have hw101_1 := hx101_1
                have hw101_0 := hx101_0
                cases e101
                replace hx101_0 := (HB.out.cell (World.block_lt_of_cell? w _ hx101_0)).trans hx101_0
                replace hx101_1 := (HB.out.cell (World.block_lt_of_cell? w _ hx101_1)).trans hx101_1
                replace hx101_2 := (HB.out.cell (World.block_lt_of_cell? w _ hx101_2)).trans hx101_2
                replace hx101_3 := (HB.out.cell (World.block_lt_of_cell? w _ hx101_3)).trans hx101_3
                replace hx101_4 := (HB.out.cell (World.block_lt_of_cell? w _ hx101_4)).trans hx101_4
                replace hx101_5 := (HB.out.cell (World.block_lt_of_cell? w _ hx101_5)).trans hx101_5
                replace hx101_6 := (HB.out.cell (World.block_lt_of_cell? w _ hx101_6)).trans hx101_6
                replace p101 := eq_true p101
                replace q101 := eq_true q101
                have p102 : 0 ≤ (x5_1 : Int) := of_decide_eq_true (by first | (with_reducible assumption) | assumption)
                have q102 : x5_1 < (l1.length : Int) := of_decide_eq_true (by first | (with_reducible assumption) | assumption)
                obtain ⟨ad102, e102, hx102_0, hx102_1, hx102_2, hx102_3, hx102_4, hx102_5, hx102_6⟩ := at_T39 HR1.out x5_1 p102 q102
                have hw102_6 := hx102_6
                have hw102_5 := hx102_5
                have hw102_4 := hx102_4
                have hw102_3 := hx102_3
                have hw102_2 := hx102_2
                have hw102_1 := hx102_1
                have hw102_0 := hx102_0
                cases e102
                replace hx102_0 := (HB.out.cell (World.block_lt_of_cell? w _ hx102_0)).trans hx102_0
                replace hx102_1 := (HB.out.cell (World.block_lt_of_cell? w _ hx102_1)).trans hx102_1
                replace hx102_2 := (HB.out.cell (World.block_lt_of_cell? w _ hx102_2)).trans hx102_2
                replace hx102_3 := (HB.out.cell (World.block_lt_of_cell? w _ hx102_3)).trans hx102_3
                replace hx102_4 := (HB.out.cell (World.block_lt_of_cell? w _ hx102_4)).trans hx102_4
                replace hx102_5 := (HB.out.cell (World.block_lt_of_cell? w _ hx102_5)).trans hx102_5
                replace hx102_6 := (HB.out.cell (World.block_lt_of_cell? w _ hx102_6)).trans hx102_6
                replace p102 := eq_true p102
                replace q102 := eq_true q102
                refine start_ (n := 10) (S := fun w' => w'.cell? (ad101.add ((x5_1).toNat * 7)) = some (.int .i64 ((rd_T39 l0 x5_1).f0)) ∧ w'.cell? ⟨(ad101.add ((x5_1).toNat * 7)).block, (ad101.add ((x5_1).toNat * 7)).off + 1, none⟩ = some (.int .i64 ((rd_T39 l0 x5_1).f1)) ∧ w'.cell? ⟨(ad101.add ((x5_1).toNat * 7)).block, (ad101.add ((x5_1).toNat * 7)).off + 2, none⟩ = some (.int .i64 ((rd_T39 l0 x5_1).f2)) ∧ w'.cell? ⟨(ad101.add ((x5_1).toNat * 7)).block, (ad101.add ((x5_1).toNat * 7)).off + 3, none⟩ = some (.int .i64 ((rd_T39 l0 x5_1).f3)) ∧ w'.cell? ⟨(ad101.add ((x5_1).toNat * 7)).block, (ad101.add ((x5_1).toNat * 7)).off + 4, none⟩ = some (.int .i64 ((rd_T39 l0 x5_1).f4)) ∧ w'.cell? ⟨(ad101.add ((x5_1).toNat * 7)).block, (ad101.add ((x5_1).toNat * 7)).off + 5, none⟩ = some (.int .i64 ((rd_T39 l0 x5_1).f5)) ∧ w'.cell? ⟨(ad101.add ((x5_1).toNat * 7)).block, (ad101.add ((x5_1).toNat * 7)).off + 6, none⟩ = some (.string ((rd_T39 l0 x5_1).f6)) ∧ w'.cell? (ad102.add ((x5_1).toNat * 7)) = some (.int .i64 ((rd_T39 l1 x5_1).f0)) ∧ w'.cell? ⟨(ad102.add ((x5_1).toNat * 7)).block, (ad102.add ((x5_1).toNat * 7)).off + 1, none⟩ = some (.int .i64 ((rd_T39 l1 x5_1).f1)) ∧ w'.cell? ⟨(ad102.add ((x5_1).toNat * 7)).block, (ad102.add ((x5_1).toNat * 7)).off + 2, none⟩ = some (.int .i64 ((rd_T39 l1 x5_1).f2)) ∧ w'.cell? ⟨(ad102.add ((x5_1).toNat * 7)).block, (ad102.add ((x5_1).toNat * 7)).off + 3, none⟩ = some (.int .i64 ((rd_T39 l1 x5_1).f3)) ∧ w'.cell? ⟨(ad102.add ((x5_1).toNat * 7)).block, (ad102.add ((x5_1).toNat * 7)).off + 4, none⟩ = some (.int .i64 ((rd_T39 l1 x5_1).f4)) ∧ w'.cell? ⟨(ad102.add ((x5_1).toNat * 7)).block, (ad102.add ((x5_1).toNat * 7)).off + 5, none⟩ = some (.int .i64 ((rd_T39 l1 x5_1).f5)) ∧ w'.cell? ⟨(ad102.add ((x5_1).toNat * 7)).block, (ad102.add ((x5_1).toNat * 7)).off + 6, none⟩ = some (.string ((rd_T39 l1 x5_1).f6))) (ds := []) #[false, false, false, false, false, false, false, false, false, false] (by kernel_rfl) rfl rfl ⟨((HB.out.cell (World.block_lt_of_cell? w _ hw101_0)).trans hw101_0), ((HB.out.cell (World.block_lt_of_cell? w _ hw101_1)).trans hw101_1), ((HB.out.cell (World.block_lt_of_cell? w _ hw101_2)).trans hw101_2), ((HB.out.cell (World.block_lt_of_cell? w _ hw101_3)).trans hw101_3), ((HB.out.cell (World.block_lt_of_cell? w _ hw101_4)).trans hw101_4), ((HB.out.cell (World.block_lt_of_cell? w _ hw101_5)).trans hw101_5), ((HB.out.cell (World.block_lt_of_cell? w _ hw101_6)).trans hw101_6), ((HB.out.cell (World.block_lt_of_cell? w _ hw102_0)).trans hw102_0), ((HB.out.cell (World.block_lt_of_cell? w _ hw102_1)).trans hw102_1), ((HB.out.cell (World.block_lt_of_cell? w _ hw102_2)).trans hw102_2), ((HB.out.cell (World.block_lt_of_cell? w _ hw102_3)).trans hw102_3), ((HB.out.cell (World.block_lt_of_cell? w _ hw102_4)).trans hw102_4), ((HB.out.cell (World.block_lt_of_cell? w _ hw102_5)).trans hw102_5), ((HB.out.cell (World.block_lt_of_cell? w _ hw102_6)).trans hw102_6)⟩ (fun hHeld => ?_); refine with_tabW laws_eqInstrS.tab6 laws_eqInstrS.bits6 (fun HT_ HW_ => ?_)
                generalize wr.drew = w11 at HB hx101_0 hx101_1 hx101_2 hx101_3 hx101_4 hx101_5 hx101_6 hx102_0 hx102_1 hx102_2 hx102_3 hx102_4 hx102_5 hx102_6 hHeld ⊢
                refine pure_ (i := 0) (N := some 17) (v := ?_) (a' := ?_) #[true, false, false, false, false, false, false, false, false, false] rfl rfl (any_of HT_.out (by kernel_rfl)) (fun _ _ _ h => h) (Or.inl ⟨by rfl, ?_⟩) ?_ ?_
                rotate_left
                · intro w'
                  go_simp
                  with_reducible rfl
                rotate_left
                · simp only [Act.put, List.setIfInBounds_toArray, List.set_cons_zero, List.set_cons_succ, i64_w, i32_w]
                  rfl
                refine pure_ (i := 1) (N := some 18) (v := ?_) (a' := ?_) #[true, true, false, false, false, false, false, false, false, false] rfl rfl (any_of HT_.out (by kernel_rfl)) (fun _ _ _ h => h) (Or.inl ⟨by rfl, ?_⟩) ?_ ?_
                rotate_left
                · intro w'
                  go_simp
                  with_reducible rfl
                rotate_left
                · simp only [Act.put, List.setIfInBounds_toArray, List.set_cons_zero, List.set_cons_succ, i64_w, i32_w]
                  rfl
                refine pure_ (i := 2) (N := some 19) (v := ?_) (a' := ?_) #[true, true, true, false, false, false, false, false, false, false] rfl rfl (any_of HT_.out (by kernel_rfl)) (fun _ _ _ h => h) (Or.inl ⟨by rfl, ?_⟩) ?_ ?_
                rotate_left
                · intro w'
                  go_simp
                  with_reducible rfl
                rotate_left
                · simp only [Act.put, List.setIfInBounds_toArray, List.set_cons_zero, List.set_cons_succ, i64_w, i32_w]
                  rfl
                refine pure_ (i := 4) (N := some 21) (v := ?_) (a' := ?_) #[true, true, true, false, true, false, false, false, false, false] rfl rfl (any_of HT_.out (by kernel_rfl)) (fun _ _ _ h => h) (Or.inl ⟨by rfl, ?_⟩) ?_ ?_
                rotate_left
                · intro w'
                  go_simp
                  with_reducible rfl
                rotate_left
                · simp only [Act.put, List.setIfInBounds_toArray, List.set_cons_zero, List.set_cons_succ, i64_w, i32_w]
                  rfl
                refine pure_ (i := 5) (N := some 22) (v := ?_) (a' := ?_) #[true, true, true, false, true, true, false, false, false, false] rfl rfl (any_of HT_.out (by kernel_rfl)) (fun _ _ _ h => h) (Or.inl ⟨by rfl, ?_⟩) ?_ ?_
                rotate_left
                · intro w'
                  go_simp
                  with_reducible rfl
                rotate_left
                · simp only [Act.put, List.setIfInBounds_toArray, List.set_cons_zero, List.set_cons_succ, i64_w, i32_w]
                  rfl
                refine pure_ (i := 6) (N := some 23) (v := ?_) (a' := ?_) #[true, true, true, false, true, true, true, false, false, false] rfl rfl (any_of HT_.out (by kernel_rfl)) (fun _ _ _ h => h) (Or.inl ⟨by rfl, ?_⟩) ?_ ?_
                rotate_left
                · intro w'
                  go_simp
                  with_reducible rfl
                rotate_left
                · simp only [Act.put, List.setIfInBounds_toArray, List.set_cons_zero, List.set_cons_succ, i64_w, i32_w]
                  rfl
                refine take_ (i := 3) (N := some 20) (v := ?_) (a' := ?_) #[true, true, true, true, true, true, true, false, false, false] rfl rfl (take_ofW HT_.out HW_.out (by kernel_rfl)) (fun _ _ _ h => h) (Or.inl ⟨by rfl, ?_⟩) hHeld ?_ ?_
                rotate_left
                · rintro w' ⟨s0, s1, s2, s3, s4, s5, s6, s7, s8, s9, s10, s11, s12, s13⟩
                  go_simp
                  with_reducible rfl
                rotate_left
                · simp only [Act.put, List.setIfInBounds_toArray, List.set_cons_zero, List.set_cons_succ, i64_w, i32_w]
                  rfl
                refine take_ (i := 7) (N := some 24) (v := ?_) (a' := ?_) #[true, true, true, true, true, true, true, true, false, false] rfl rfl (take_ofW HT_.out HW_.out (by kernel_rfl)) (fun _ _ _ h => h) (Or.inl ⟨by rfl, ?_⟩) hHeld ?_ ?_
                rotate_left
                · rintro w' ⟨s0, s1, s2, s3, s4, s5, s6, s7, s8, s9, s10, s11, s12, s13⟩
                  go_simp
                  with_reducible rfl
                rotate_left
                · simp only [Act.put, List.setIfInBounds_toArray, List.set_cons_zero, List.set_cons_succ, i64_w, i32_w]
                  rfl
                refine one_ (i := 8) (N := some 25) #[true, true, true, true, true, true, true, true, true, false] rfl rfl (one_of HT_.out (by kernel_rfl)) (by decide) (fun K hK => ?_)
                refine goes_ Try.func108 (by kernel_rfl) rfl #[.agg #[.int .i64 ((rd_T39 l0 x5_1).f0), .int .i64 ((rd_T39 l0 x5_1).f1), .int .i64 ((rd_T39 l0 x5_1).f2), .int .i64 ((rd_T39 l0 x5_1).f3), .int .i64 ((rd_T39 l0 x5_1).f4), .int .i64 ((rd_T39 l0 x5_1).f5), .string ((rd_T39 l0 x5_1).f6)], .agg #[.int .i64 ((rd_T39 l1 x5_1).f0), .int .i64 ((rd_T39 l1 x5_1).f1), .int .i64 ((rd_T39 l1 x5_1).f2), .int .i64 ((rd_T39 l1 x5_1).f3), .int .i64 ((rd_T39 l1 x5_1).f4), .int .i64 ((rd_T39 l1 x5_1).f5), .string ((rd_T39 l1 x5_1).f6)]] (by rfl) rfl rfl (by (try simp only [List.map_toArray, List.map_cons, List.map_nil]); first | done | rfl | (simp only [List.length_drop, List.length_take]; rfl)) ?_
                with_reducible refine (laws_eqInstr.calls ((rd_T39 l0 x5_1).f0) ((rd_T39 l0 x5_1).f1) ((rd_T39 l0 x5_1).f2) ((rd_T39 l0 x5_1).f3) ((rd_T39 l0 x5_1).f4) ((rd_T39 l0 x5_1).f5) ((rd_T39 l0 x5_1).f6) ((rd_T39 l1 x5_1).f0) ((rd_T39 l1 x5_1).f1) ((rd_T39 l1 x5_1).f2) ((rd_T39 l1 x5_1).f3) ((rd_T39 l1 x5_1).f4) ((rd_T39 l1 x5_1).f5) ((rd_T39 l1 x5_1).f6) false _ A7.out).mono ?_
                rintro e w12 ⟨rfl, hb⟩
                refine ⟨_, rfl, ?_⟩
                have n0_ := Aside0.mk (below_step (by repeat (first | (with_reducible first | exact HB.out | apply below_alloc | apply pw_below_drewN | apply below_drew1) | exact HB.out)) hb)
                clear HB
                have HB := n0_
                clear n0_
                (try clear hb)
                (try clear hb2)
                (try clear hk)
                (try clear hi)
                refine hK.out _ _ ⟨((HB.out.cell (World.block_lt_of_cell? w _ hw101_0)).trans hw101_0), ((HB.out.cell (World.block_lt_of_cell? w _ hw101_1)).trans hw101_1), ((HB.out.cell (World.block_lt_of_cell? w _ hw101_2)).trans hw101_2), ((HB.out.cell (World.block_lt_of_cell? w _ hw101_3)).trans hw101_3), ((HB.out.cell (World.block_lt_of_cell? w _ hw101_4)).trans hw101_4), ((HB.out.cell (World.block_lt_of_cell? w _ hw101_5)).trans hw101_5), ((HB.out.cell (World.block_lt_of_cell? w _ hw101_6)).trans hw101_6), ((HB.out.cell (World.block_lt_of_cell? w _ hw102_0)).trans hw102_0), ((HB.out.cell (World.block_lt_of_cell? w _ hw102_1)).trans hw102_1), ((HB.out.cell (World.block_lt_of_cell? w _ hw102_2)).trans hw102_2), ((HB.out.cell (World.block_lt_of_cell? w _ hw102_3)).trans hw102_3), ((HB.out.cell (World.block_lt_of_cell? w _ hw102_4)).trans hw102_4), ((HB.out.cell (World.block_lt_of_cell? w _ hw102_5)).trans hw102_5), ((HB.out.cell (World.block_lt_of_cell? w _ hw102_6)).trans hw102_6)⟩ (fun hHeld => ?_)
                clear hK K
                refine norm_ (a' := ?_) ?_ ?_
                rotate_left
                · show Act.put _ (some 25) _ = _
                  simp only [Act.put, List.setIfInBounds_toArray, List.set_cons_zero, List.set_cons_succ, i64_w, i32_w]
                  rfl
                refine pure_ (i := 9) (N := some 26) (v := ?_) (a' := ?_) #[true, true, true, true, true, true, true, true, true, true] rfl rfl (any_of HT_.out (by kernel_rfl)) (fun _ _ _ h => h) (Or.inl ⟨by rfl, ?_⟩) ?_ ?_
                rotate_left
                · intro w'
                  go_simp
                  with_reducible rfl
                rotate_left
                · simp only [Act.put, List.setIfInBounds_toArray, List.set_cons_zero, List.set_cons_succ, i64_w, i32_w]
                  rfl
                refine done_ (done_of HT_.out (by kernel_rfl)) ?_
                try go_wp2
                go_ret
                exact ⟨by first | rfl | (simp [errW_none, errW_some] <;> rfl) | (simp [*, errW_none, errW_some] <;> rfl), by repeat (first | (with_reducible first | exact HB.out | apply below_alloc | apply pw_below_drewN | apply below_drew1) | exact HB.out)⟩
            · rw [if_neg c6] at H
              exact absurd H (by simp)
          · rw [if_neg c5] at H
            exact absurd H (by simp)
        · rw [if_neg c4] at H
          have c4b0 : decide (x5_1 < (l0.length : Int)) = false := decide_eq_false c4
          clear c4
          obtain rfl := Option.some.inj H
          go_wp2
          go_ret
          exact ⟨by first | rfl | (simp [errW_none, errW_some] <;> rfl) | (simp [*, errW_none, errW_some] <;> rfl), by repeat (first | (with_reducible first | exact HB.out | apply below_alloc | apply pw_below_drewN | apply below_drew1) | exact HB.out)⟩
  · rw [if_neg c3] at H
    have c3b0 : ((l0.length : Int) == (l1.length : Int)) = false := beq_eq_false_iff_ne.mpr c3
    have c3b1 : ((l0.length : Int) != (l1.length : Int)) = true := bne_iff_ne.mpr c3
    have c3b2 : (l0.length == l1.length) = false := by first | simpa using c3 | (simp at c3 ⊢; omega)
    obtain rfl := Option.some.inj H
    go_enter Try.func75, Try.ntmps75
    go_wp2
    go_ret
    exact ⟨by first | rfl | (simp [errW_none, errW_some] <;> rfl) | (simp [*, errW_none, errW_some] <;> rfl), by repeat (first | (with_reducible first | exact HB.out | apply below_alloc | apply pw_below_drewN | apply below_drew1) | exact HB.out)⟩

end Go.Proofs.Ytbbpmcignfhfmaa.P
namespace Go.Proofs.Ytbbpmcignfhfmaa.P
open Go.RowKit Go.Proofs.YtbbpmcignfhfmaaW.PrintWords Go.Proofs.YtbbpmcignfhfmaaW.PrintLast Go.Proofs.YtbbpmcignfhfmaaW.PrintMore
set_option linter.unusedVariables false
set_option linter.unusedSimpArgs false
attribute [local go_sem high] eqA39
theorem isInstr_calls (A0 : Option Addr) (n0 c0 : Nat) (p v s : Int) (A4 : Option Addr) (n4 c4 : Nat) (o d a b c n : Int) (t : ByteArray) (w : World) (hn : n0 ≤ 9223372036854775807) :
    Calls Try.prog 70 #[.agg #[.slice A0 n0 c0, .int .i64 p, .int .i64 v, .int .i64 s, .slice A4 n4 c4], .agg #[.int .i64 o, .int .i64 d, .int .i64 a, .int .i64 b, .int .i64 c, .int .i64 n, .string t]] w fun e w' => e = .returned (.bool (instrB (n0 : Int) s o d a b c n t)) ∧ Below w.heap.size w w' := by
  by_cases h0 : o = 0
  · subst h0
    cases hD : inB d s with
    | false =>
      rw [show instrB (n0 : Int) s 0 d a b c n t = false by simp [instrB, hD]]
      exact i0_D_no A0 n0 c0 p v s A4 n4 c4 d a b c n t w hD hn
    | true =>
      rw [show instrB (n0 : Int) s 0 d a b c n t = (a == 0 && (b == 0 && (c == 0 && t.toList.isEmpty))) by simp [instrB, hD]]
      exact i0_yes A0 n0 c0 p v s A4 n4 c4 d a b c n t w hD hn
  by_cases h1 : o = 1
  · subst h1
    cases hD : inB d s with
    | false =>
      rw [show instrB (n0 : Int) s 1 d a b c n t = false by simp [instrB, hD]]
      exact i1_D_no A0 n0 c0 p v s A4 n4 c4 d a b c n t w hD hn
    | true =>
      cases hA : inB a s with
      | false =>
        rw [show instrB (n0 : Int) s 1 d a b c n t = false by simp [instrB, hD, hA]]
        exact i1_A_no A0 n0 c0 p v s A4 n4 c4 d a b c n t w hD hA hn
      | true =>
        rw [show instrB (n0 : Int) s 1 d a b c n t = (b == 0 && (c == 0 && (n == 0 && t.toList.isEmpty))) by simp [instrB, hD, hA]]
        exact i1_yes A0 n0 c0 p v s A4 n4 c4 d a b c n t w hD hA hn
  by_cases h2 : o = 2
  · subst h2
    cases hD : inB d s with
    | false =>
      rw [show instrB (n0 : Int) s 2 d a b c n t = false by simp [instrB, hD]]
      exact i2_D_no A0 n0 c0 p v s A4 n4 c4 d a b c n t w hD hn
    | true =>
      cases hA : inB a s with
      | false =>
        rw [show instrB (n0 : Int) s 2 d a b c n t = false by simp [instrB, hD, hA]]
        exact i2_A_no A0 n0 c0 p v s A4 n4 c4 d a b c n t w hD hA hn
      | true =>
        cases hB : inB b s with
        | false =>
          rw [show instrB (n0 : Int) s 2 d a b c n t = false by simp [instrB, hD, hA, hB]]
          exact i2_B_no A0 n0 c0 p v s A4 n4 c4 d a b c n t w hD hA hB hn
        | true =>
          cases hS : signB t with
          | false =>
            rw [show instrB (n0 : Int) s 2 d a b c n t = false by simp [instrB, hD, hA, hB, hS]]
            exact i2_S_no A0 n0 c0 p v s A4 n4 c4 d a b c n t w hD hA hB hS hn
          | true =>
            rw [show instrB (n0 : Int) s 2 d a b c n t = (c == 0 && n == 0) by simp [instrB, hD, hA, hB, hS]]
            exact i2_yes A0 n0 c0 p v s A4 n4 c4 d a b c n t w hD hA hB hS hn
  by_cases h3 : o = 3
  · subst h3
    cases hD : inB d s with
    | false =>
      rw [show instrB (n0 : Int) s 3 d a b c n t = false by simp [instrB, hD]]
      exact i3_D_no A0 n0 c0 p v s A4 n4 c4 d a b c n t w hD hn
    | true =>
      cases hB : inB b s with
      | false =>
        rw [show instrB (n0 : Int) s 3 d a b c n t = false by simp [instrB, hD, hB]]
        exact i3_B_no A0 n0 c0 p v s A4 n4 c4 d a b c n t w hD hB hn
      | true =>
        cases hR : inR n 0 ((n0 : Int) - 1) with
        | false =>
          rw [show instrB (n0 : Int) s 3 d a b c n t = false by simp [instrB, hD, hB, hR]]
          exact i3_R_no A0 n0 c0 p v s A4 n4 c4 d a b c n t w hD hB hR hn
        | true =>
          cases hA : inB a s with
          | true =>
            rw [show instrB (n0 : Int) s 3 d a b c n t = (c == 0 && t.toList.isEmpty) by simp [instrB, hD, hB, hR, hA]]
            exact i3_a A0 n0 c0 p v s A4 n4 c4 d a b c n t w hD hB hR hA hn
          | false =>
            by_cases hm : a = -1
            · have hM : (a == -1) = true := beq_iff_eq.mpr hm
              have hM2 : (a != -1) = false := bne_eq_false_iff_eq.mpr hm
              rw [show instrB (n0 : Int) s 3 d a b c n t = (c == 0 && t.toList.isEmpty) by simp [instrB, hD, hB, hR, hA, hM]]
              exact i3_m A0 n0 c0 p v s A4 n4 c4 d a b c n t w hD hB hR hA hM hM2 hn
            · have hM : (a == -1) = false := beq_eq_false_iff_ne.mpr hm
              have hM2 : (a != -1) = true := bne_iff_ne.mpr hm
              rw [show instrB (n0 : Int) s 3 d a b c n t = false by simp [instrB, hD, hB, hR, hA, hM]]
              exact i3_X_no A0 n0 c0 p v s A4 n4 c4 d a b c n t w hD hB hR hA hM hM2 hn
  by_cases h4 : o = 4
  · subst h4
    cases hC : inB c s with
    | false =>
      rw [show instrB (n0 : Int) s 4 d a b c n t = false by simp [instrB, hC]]
      exact i4_C_no A0 n0 c0 p v s A4 n4 c4 d a b c n t w hC hn
    | true =>
      cases hB : inB b s with
      | false =>
        rw [show instrB (n0 : Int) s 4 d a b c n t = false by simp [instrB, hC, hB]]
        exact i4_B_no A0 n0 c0 p v s A4 n4 c4 d a b c n t w hC hB hn
      | true =>
        cases hR : inR n 0 ((n0 : Int) - 1) with
        | false =>
          rw [show instrB (n0 : Int) s 4 d a b c n t = false by simp [instrB, hC, hB, hR]]
          exact i4_R_no A0 n0 c0 p v s A4 n4 c4 d a b c n t w hC hB hR hn
        | true =>
          cases hA : inB a s with
          | true =>
            rw [show instrB (n0 : Int) s 4 d a b c n t = (d == 0 && t.toList.isEmpty) by simp [instrB, hC, hB, hR, hA]]
            exact i4_a A0 n0 c0 p v s A4 n4 c4 d a b c n t w hC hB hR hA hn
          | false =>
            by_cases hm : a = -1
            · have hM : (a == -1) = true := beq_iff_eq.mpr hm
              have hM2 : (a != -1) = false := bne_eq_false_iff_eq.mpr hm
              rw [show instrB (n0 : Int) s 4 d a b c n t = (d == 0 && t.toList.isEmpty) by simp [instrB, hC, hB, hR, hA, hM]]
              exact i4_m A0 n0 c0 p v s A4 n4 c4 d a b c n t w hC hB hR hA hM hM2 hn
            · have hM : (a == -1) = false := beq_eq_false_iff_ne.mpr hm
              have hM2 : (a != -1) = true := bne_iff_ne.mpr hm
              rw [show instrB (n0 : Int) s 4 d a b c n t = false by simp [instrB, hC, hB, hR, hA, hM]]
              exact i4_X_no A0 n0 c0 p v s A4 n4 c4 d a b c n t w hC hB hR hA hM hM2 hn
  by_cases h5 : o = 5
  · subst h5
    cases hD : inB d s with
    | false =>
      rw [show instrB (n0 : Int) s 5 d a b c n t = false by simp [instrB, hD]]
      exact i5_D_no A0 n0 c0 p v s A4 n4 c4 d a b c n t w hD hn
    | true =>
      rw [show instrB (n0 : Int) s 5 d a b c n t = (a == 0 && (b == 0 && (c == 0 && (n == 0 && t.toList.isEmpty)))) by simp [instrB, hD]]
      exact i5_yes A0 n0 c0 p v s A4 n4 c4 d a b c n t w hD hn
  by_cases h6 : o = 6
  · subst h6
    cases hA : inB a s with
    | false =>
      rw [show instrB (n0 : Int) s 6 d a b c n t = false by simp [instrB, hA]]
      exact i6_A_no A0 n0 c0 p v s A4 n4 c4 d a b c n t w hA hn
    | true =>
      rw [show instrB (n0 : Int) s 6 d a b c n t = (d == 0 && (b == 0 && (c == 0 && (n == 0 && t.toList.isEmpty)))) by simp [instrB, hA]]
      exact i6_yes A0 n0 c0 p v s A4 n4 c4 d a b c n t w hA hn
  rw [show instrB (n0 : Int) s o d a b c n t = false by simp [instrB, h0, h1, h2, h3, h4, h5, h6]]
  exact iother A0 n0 c0 p v s A4 n4 c4 o d a b c n t w (beq_eq_false_iff_ne.mpr h0) (beq_eq_false_iff_ne.mpr h1) (beq_eq_false_iff_ne.mpr h2) (beq_eq_false_iff_ne.mpr h3) (beq_eq_false_iff_ne.mpr h4) (beq_eq_false_iff_ne.mpr h5) (beq_eq_false_iff_ne.mpr h6) hn
theorem impl_isInstr.calls (A0_0 : Option Addr) (c0_0 : Nat) (l0_0 : List Int) (a0_1 : Int) (a0_2 : Int) (a0_3 : Int) (A0_4 : Option Addr) (c0_4 : Nat) (l0_4 : List (S49)) (a1_0 : Int) (a1_1 : Int) (a1_2 : Int) (a1_3 : Int) (a1_4 : Int) (a1_5 : Int) (a1_6 : ByteArray) (r : Bool) (w : World) (hr0_0 : Kd.C (Kd.int .i64) w A0_0 l0_0.length l0_0) (hc0_0 : l0_0.length ≤ c0_0) (hr0_4 : Kd.C k49 w A0_4 l0_4.length l0_4) (hc0_4 : l0_4.length ≤ c0_4) (h : impl_isInstr.f l0_0 a0_1 a0_2 a0_3 l0_4 a1_0 a1_1 a1_2 a1_3 a1_4 a1_5 a1_6 = some r) :
    Calls Try.prog 70 #[.agg #[.slice A0_0 l0_0.length c0_0, .int .i64 a0_1, .int .i64 a0_2, .int .i64 a0_3, .slice A0_4 l0_4.length c0_4], .agg #[.int .i64 a1_0, .int .i64 a1_1, .int .i64 a1_2, .int .i64 a1_3, .int .i64 a1_4, .int .i64 a1_5, .string a1_6]] w fun e w' => e = .returned (.bool r) ∧ Below w.heap.size w w' := by
  obtain rfl := Option.some.inj h
  exact isInstr_calls A0_0 l0_0.length c0_0 a0_1 a0_2 a0_3 A0_4 l0_4.length c0_4 a1_0 a1_1 a1_2 a1_3 a1_4 a1_5 a1_6 w (Kd.C_max hr0_0)
end Go.Proofs.Ytbbpmcignfhfmaa.P
namespace Go.Proofs.Ytbbpmcignfhfmaa.P
open Go.RowKit Go.Proofs.YtbbpmcignfhfmaaW.PrintWords Go.Proofs.YtbbpmcignfhfmaaW.PrintLast Go.Proofs.YtbbpmcignfhfmaaW.PrintMore Go.Proofs.Ytbbpmcignfhfmaa.Aux
set_option linter.unusedVariables false
set_option linter.unusedSimpArgs false
theorem any_hit (p : S39 → Bool) (xs : List S39) (k : Nat) (h : k < xs.length) (hp : p (rd_T39 xs (k : Int)) = true) : xs.any p = true := by
  have hr : rd_T39 xs (k : Int) = xs[k] := by simp [rd_T39, List.getD_eq_getElem?_getD, List.getElem?_eq_getElem h]
  rw [hr] at hp
  exact List.any_eq_true.2 ⟨_, List.getElem_mem h, hp⟩
theorem any_miss (p : S39 → Bool) (xs : List S39) (hp : ∀ k : Nat, k < xs.length → p (rd_T39 xs (k : Int)) = false) : xs.any p = false := by
  refine List.any_eq_false.2 fun x hx => ?_
  obtain ⟨k, h, rfl⟩ := List.getElem_of_mem hx
  have := hp k h
  rw [show rd_T39 xs (k : Int) = xs[k] by simp [rd_T39, List.getD_eq_getElem?_getD, List.getElem?_eq_getElem h]] at this
  simp [this]
set_option maxRecDepth 100000 in
set_option maxHeartbeats 2000000 in
/-- What slices.IndexFunc answers of steps: where, or -1; whatever the predicate. -/
theorem indexI_calls (g : Nat) (lb : Array Value) (p : S39 → Bool) (eg : ∀ args w, (callFunc g args).run Try.prog w = .ok (.enter g args) w) (A : Option Addr) (c : Nat) (l : List S39) (w : World)
    (hr : Kd.C k39 w A l.length l) (hc : l.length ≤ c)
    (hp : ∀ (W : World) (x : S39), Below w.heap.size w W → Calls Try.prog g (#[.agg #[.int .i64 x.f0, .int .i64 x.f1, .int .i64 x.f2, .int .i64 x.f3, .int .i64 x.f4, .int .i64 x.f5, .string x.f6]] ++ lb) W fun e w' => e = .returned (.bool (p x)) ∧ Below w.heap.size w w') :
    Calls Try.prog 119 #[.slice A l.length c, .func (.func g) #[] lb] w fun e w' => (∃ r : Int, e = .returned (.int .i64 r) ∧ decide (r ≥ 0) = l.any p) ∧ Below w.heap.size w w' := by
  have hu39 := Try.underlying39
  have hm : l.length ≤ 9223372036854775807 := Kd.C_max hr
  have HP := Aside0.mk hp
  have HR := Aside0.mk hr
  clear hp hr
  have HN := Aside0.mk hm
  clear hm
  go_enter Try.func119, Try.ntmps119
  go_wp2
  go_loopg [5, 8] l.length (fun gg _ s8 wr => ∃ x : Int, s8 = .int .i64 x ∧ Aside0 (Below w.heap.size w wr) ∧ Aside0 (∃ kk : Nat, (kk : Int) = x ∧ kk ≤ l.length ∧ l.length - kk ≤ gg ∧ ∀ j : Nat, j < kk → p (rd_T39 l (j : Int)) = false))
  case atStart => exact ⟨0, rfl, ⟨Below.refl _ w⟩, ⟨⟨0, rfl, Nat.zero_le _, by omega, fun j hj => absurd hj (Nat.not_lt_zero _)⟩⟩⟩
  case round =>
    obtain ⟨x, rfl, BW, A2⟩ := hrel
    by_cases hlt : x < (l.length : Int)
    · have c4b0 : decide (x < (l.length : Int)) = true := decide_eq_true hlt
      have p101 : 0 ≤ x := by obtain ⟨kk, h1, _⟩ := A2.out; omega
      obtain ⟨ad101, e101, hx101_0, hx101_1, hx101_2, hx101_3, hx101_4, hx101_5, hx101_6⟩ := at_T39 HR.out x p101 hlt
      cases e101
      replace hx101_0 := (BW.out.cell (World.block_lt_of_cell? w _ hx101_0)).trans hx101_0
      replace hx101_1 := (BW.out.cell (World.block_lt_of_cell? w _ hx101_1)).trans hx101_1
      replace hx101_2 := (BW.out.cell (World.block_lt_of_cell? w _ hx101_2)).trans hx101_2
      replace hx101_3 := (BW.out.cell (World.block_lt_of_cell? w _ hx101_3)).trans hx101_3
      replace hx101_4 := (BW.out.cell (World.block_lt_of_cell? w _ hx101_4)).trans hx101_4
      replace hx101_5 := (BW.out.cell (World.block_lt_of_cell? w _ hx101_5)).trans hx101_5
      replace hx101_6 := (BW.out.cell (World.block_lt_of_cell? w _ hx101_6)).trans hx101_6
      have hcall := Aside0.mk (HP.out wr (rd_T39 l x) BW.out)
      replace p101 := eq_true p101
      replace hlt := eq_true hlt
      cases hq : p (rd_T39 l x) with
      | true =>
        rw [hq] at hcall
        have HQ := Aside0.mk hq
        clear hq
        go_wp2_with (go_at_fn g; refine hcall.out.mono ?_; rintro e w' ⟨rfl, hb'⟩)
        go_ret
        obtain ⟨kk, rfl, h1, h2, h3⟩ := A2.out
        exact ⟨⟨_, rfl, by rw [any_hit p l kk (by have := of_eq_true hlt; omega) HQ.out]; exact decide_eq_true (by omega)⟩, hb'⟩
      | false =>
        rw [hq] at hcall
        have HQ := Aside0.mk hq
        clear hq
        go_wp2_with (go_at_fn g; refine hcall.out.mono ?_; rintro e w' ⟨rfl, hb'⟩)
        go_roundg (gk - 1)
        case measure => obtain ⟨kk, h0, h1, h2, h3⟩ := A2.out; have := of_eq_true hlt; omega
        case rel =>
          refine ⟨wrap64 (x + 1), by first | rfl | (simp; done), ⟨hb'⟩, ⟨?_⟩⟩
          obtain ⟨kk, rfl, h1, h2, h3⟩ := A2.out
          have h4 := of_eq_true hlt
          have h5 := HN.out
          refine ⟨kk + 1, by rw [wrap_ok (by omega) (by omega)]; omega, by omega, by omega, fun j hj => ?_⟩
          by_cases e : j = kk
          · subst e; exact HQ.out
          · exact h3 j (by omega)
    · have c4b0 : decide (x < (l.length : Int)) = false := decide_eq_false hlt
      have HL := Aside0.mk hlt
      clear hlt
      go_wp2
      go_ret
      refine ⟨⟨-1, rfl, ?_⟩, BW.out⟩
      obtain ⟨kk, rfl, h1, h2, h3⟩ := A2.out
      have h4 := HL.out
      rw [any_miss p l fun k hk => h3 k (by omega)]
      rfl
theorem containsI_calls (g : Nat) (lb : Array Value) (p : S39 → Bool) (eg : ∀ args w, (callFunc g args).run Try.prog w = .ok (.enter g args) w) (A : Option Addr) (c : Nat) (l : List S39) (w : World)
    (hr : Kd.C k39 w A l.length l) (hc : l.length ≤ c)
    (hp : ∀ (W : World) (x : S39), Below w.heap.size w W → Calls Try.prog g (#[.agg #[.int .i64 x.f0, .int .i64 x.f1, .int .i64 x.f2, .int .i64 x.f3, .int .i64 x.f4, .int .i64 x.f5, .string x.f6]] ++ lb) W fun e w' => e = .returned (.bool (p x)) ∧ Below w.heap.size w w') :
    Calls Try.prog 106 #[.slice A l.length c, .func (.func g) #[] lb] w fun e w' => e = .returned (.bool (l.any p)) ∧ Below w.heap.size w w' := by
  have HI := Aside0.mk (indexI_calls g lb p eg A c l w hr hc hp)
  clear hp hr eg
  go_enter Try.func106, Try.ntmps106
  go_wp2_with (go_at_call 119; refine HI.out.mono ?_; rintro e w' ⟨⟨r, rfl, hr⟩, hb'⟩)
  go_ret
  exact ⟨rfl, hb'⟩
set_option maxRecDepth 100000 in
set_option maxHeartbeats 2000000 in
theorem isBlock1_calls (b : Nat) (A0 : Option Addr) (n0 c0 : Nat) (p v s : Int) (A4 : Option Addr) (n4 c4 : Nat) (x : S39) (W : World) (hn : n0 ≤ 9223372036854775807)
    (h0 : W.cell? ⟨b, 0, none⟩ = some (.slice A0 n0 c0)) (h1 : W.cell? ⟨b, 1, none⟩ = some (.int .i64 p)) (h2 : W.cell? ⟨b, 2, none⟩ = some (.int .i64 v)) (h3 : W.cell? ⟨b, 3, none⟩ = some (.int .i64 s)) (h4 : W.cell? ⟨b, 4, none⟩ = some (.slice A4 n4 c4)) :
    Calls Try.prog 107 #[.agg #[.int .i64 x.f0, .int .i64 x.f1, .int .i64 x.f2, .int .i64 x.f3, .int .i64 x.f4, .int .i64 x.f5, .string x.f6], .pointer (some ⟨b, 0, none⟩)] W fun e w' => e = .returned (.bool (!instrB (n0 : Int) s x.f0 x.f1 x.f2 x.f3 x.f4 x.f5 x.f6)) ∧ Below W.heap.size W w' := by
  have hu30 := Try.underlying30
  have hu39 := Try.underlying39
  have hb : b < W.heap.size := World.block_lt_of_cell? W _ h0
  have hne : b ≠ W.heap.size := by omega
  go_enter Try.func107, Try.ntmps107
  go_wp2_with (go_at_call 70; refine (isInstr_calls A0 n0 c0 p v s A4 n4 c4 _ _ _ _ _ _ _ _ hn).mono ?_; rintro e w' ⟨rfl, hb'⟩)
  go_ret
  exact ⟨rfl, below_step (below_alloc (Below.refl _ _) _) hb'⟩
end Go.Proofs.Ytbbpmcignfhfmaa.P
namespace Go.Proofs.Ytbbpmcignfhfmaa.P
open Go.RowKit Go.Proofs.YtbbpmcignfhfmaaW.PrintWords Go.Proofs.YtbbpmcignfhfmaaW.PrintLast Go.Proofs.YtbbpmcignfhfmaaW.PrintMore
set_option linter.unusedVariables false
set_option linter.unusedSimpArgs false
def impl_Instr_106.f (zs : List Int) (s : Int) (code : List S39) : Option Bool := some (code.any fun x => !instrB (zs.length : Int) s x.f0 x.f1 x.f2 x.f3 x.f4 x.f5 x.f6)
theorem eg107 (args : Array Value) (w : World) : (callFunc 107 args).run Try.prog w = .ok (.enter 107 args) w := enters_of Try.func107 (by kernel_rfl) rfl _ _
theorem con_calls (b : Nat) (A0 : Option Addr) (n0 c0 : Nat) (p v s : Int) (A4 : Option Addr) (n4 c4 : Nat) (A1 : Option Addr) (c1 : Nat) (code : List S39) (W : World) (hn : n0 ≤ 9223372036854775807) (kB : Bool) (hK : (code.any fun x => !instrB (n0 : Int) s x.f0 x.f1 x.f2 x.f3 x.f4 x.f5 x.f6) = kB)
    (hr : Kd.C k39 W A1 code.length code) (hc : code.length ≤ c1)
    (h0 : W.cell? ⟨b, 0, none⟩ = some (.slice A0 n0 c0)) (h1 : W.cell? ⟨b, 1, none⟩ = some (.int .i64 p)) (h2 : W.cell? ⟨b, 2, none⟩ = some (.int .i64 v)) (h3 : W.cell? ⟨b, 3, none⟩ = some (.int .i64 s)) (h4 : W.cell? ⟨b, 4, none⟩ = some (.slice A4 n4 c4)) :
    Calls Try.prog 106 #[.slice A1 code.length c1, .func (.func 107) #[] #[.pointer (some ⟨b, 0, none⟩)]] W fun e w' => e = .returned (.bool kB) ∧ Below W.heap.size W w' := by
  subst hK
  have hb : b < W.heap.size := World.block_lt_of_cell? W _ h0
  exact containsI_calls _ _ _ eg107 A1 c1 code W hr hc fun W' x hw => (isBlock1_calls b A0 n0 c0 p v s A4 n4 c4 x W' hn ((hw.cell (p := ⟨b, 0, none⟩) hb).trans h0) ((hw.cell (p := ⟨b, 1, none⟩) hb).trans h1) ((hw.cell (p := ⟨b, 2, none⟩) hb).trans h2) ((hw.cell (p := ⟨b, 3, none⟩) hb).trans h3) ((hw.cell (p := ⟨b, 4, none⟩) hb).trans h4)).mono fun e w' h => ⟨h.1, below_step hw h.2⟩
theorem impl_Instr_106.calls (b : Nat) (A0 : Option Addr) (c0 : Nat) (l0 : List Int) (p v s : Int) (A4 : Option Addr) (c4 : Nat) (l4 : List S49) (A1 : Option Addr) (c1 : Nat) (code : List S39) (r : Bool) (W : World) (hn : l0.length ≤ 9223372036854775807)
    (hr : Kd.C k39 W A1 code.length code) (hc : code.length ≤ c1)
    (h0 : W.cell? ⟨b, 0, none⟩ = some (.slice A0 l0.length c0)) (h1 : W.cell? ⟨b, 1, none⟩ = some (.int .i64 p)) (h2 : W.cell? ⟨b, 2, none⟩ = some (.int .i64 v)) (h3 : W.cell? ⟨b, 3, none⟩ = some (.int .i64 s)) (h4 : W.cell? ⟨b, 4, none⟩ = some (.slice A4 l4.length c4)) (h : impl_Instr_106.f l0 s code = some r) :
    Calls Try.prog 106 #[.slice A1 code.length c1, .func (.func 107) #[] #[.pointer (some ⟨b, 0, none⟩)]] W fun e w' => e = .returned (.bool r) ∧ Below W.heap.size W w' :=
  con_calls b A0 l0.length c0 p v s A4 l4.length c4 A1 c1 code W hn r (Option.some.inj h) hr hc h0 h1 h2 h3 h4
end Go.Proofs.Ytbbpmcignfhfmaa.P
namespace Go.Proofs.Ytbbpmcignfhfmaa.Ok
open Go.RowKit Go.Proofs.Ytbbpmcignfhfmaa.P Go.Proofs.YtbbpmcignfhfmaaW.PrintWords Go.Proofs.YtbbpmcignfhfmaaW.PrintLast Go.Proofs.Ytbbpmcignfhfmaa.Aux
set_option linter.unusedVariables false
set_option linter.unusedSimpArgs false
theorem i64_wf {n : Int} (h : (Lit.int .i64 n).wf = true) : -9223372036854775808 ≤ n ∧ n ≤ 9223372036854775807 := by
  simp [Lit.wf, IntKind.min, IntKind.max, IntKind.signed, IntKind.bits] at h
  omega
theorem has_l0 (xs : List ByteArray) (s : ByteArray) (hn : xs.length < 9223372036854775807) (d : Nat) : ∀ i : Nat, i + d = xs.length → Ev (fun k => spec_l01Has.l0 k xs s (i : Int)) ((xs.drop i).any fun x => x.toList = s.toList) := by
  induction d with
  | zero =>
    intro i hi
    refine Ev.step (fun k => by rw [spec_l01Has.l0, if_neg (by omega)]) ?_
    rw [List.drop_eq_nil_of_le (by omega)]
    exact Ev.now _
  | succ d ih =>
    intro i hi
    have hd : xs.drop i = xs[i]'(by omega) :: xs.drop (i + 1) := List.drop_eq_getElem_cons (by omega)
    have hr := rdOf_lt ByteArray.empty xs i (by omega)
    rw [hd, List.any_cons]
    by_cases h : (xs[i]'(by omega)).toList = s.toList
    · refine Ev.step (f := fun _ => some true) (fun k => by rw [spec_l01Has.l0, if_pos (by omega), if_pos (by omega), hr, if_pos h]) ?_
      rw [decide_eq_true h, Bool.true_or]
      exact Ev.now _
    · refine Ev.step (f := fun k => spec_l01Has.l0 k xs s ((i + 1 : Nat) : Int)) (fun k => by rw [spec_l01Has.l0, if_pos (by omega), if_pos (by omega), hr, if_neg h, wrap_ok (by omega) (by omega), Int.natCast_succ]) ?_
      rw [decide_eq_false h, Bool.false_or]
      exact ih (i + 1) (by omega)
theorem has_ev (xs : List ByteArray) (s : ByteArray) (hn : xs.length < 9223372036854775807) : Ev (fun k => spec_l01Has.f k xs s) (xs.any fun x => x.toList = s.toList) := has_l0 xs s hn xs.length 0 (by omega)
theorem in_some (x a b : Int) : spec_l01In.f x a b = some (inR x a b) := by
  unfold spec_l01In.f inR
  by_cases h : x ≥ a
  · rw [if_pos h, decide_eq_true h, Bool.true_and]
  · rw [if_neg h, decide_eq_false h, Bool.false_and]
theorem inR_inB (x s : Int) : inR x 0 (s - 1) = inB x s := by
  unfold inR inB
  congr 1
  exact decide_eq_decide.2 (by omega)
theorem instr_ev (zs : List Int) (p v s : Int) (bs : List S49) (o d a b c n : Int) (t : ByteArray) (hs : 0 ≤ s) (hs2 : s ≤ 9223372036854775807) (hz : zs.length ≤ 9223372036854775807) :
    Ev (fun k => spec_l04InstrOk.f k zs p v s bs o d a b c n t) (instrB (zs.length : Int) s o d a b c n t) := by
  obtain ⟨N, hN⟩ := has_ev signs t (by simp [signs])
  refine ⟨N + 2, fun k hk => ?_⟩
  obtain ⟨m, rfl⟩ : ∃ m, k = m + 2 := ⟨k - 2, by omega⟩
  have hh := hN m (by omega)
  have w1 : wrap64 (s - 1) = s - 1 := wrap_ok (by omega) (by omega)
  have w2 : wrap64 ((zs.length : Int) - 1) = (zs.length : Int) - 1 := wrap_ok (by omega) (by omega)
  clear hN hk hs hs2 hz
  unfold spec_l04InstrOk.f
  have inS : ∀ x, inR x 0 (s - 1) = inB x s := fun x => inR_inB x s
  simp only [w1, w2, in_some, Option.bind_some, inS]
  clear w2
  rw [show (signs.any fun x => decide (x.toList = t.toList)) = signB t from rfl] at hh
  simp only [signs] at hh
  unfold instrB
  generalize hr : inR n 0 ((zs.length : Int) - 1) = r
  generalize hA : inB a s = A
  generalize hB : inB b s = B
  generalize hC : inB c s = C
  generalize hD : inB d s = D
  generalize hS : signB t = S at hh ⊢
  have L1 : ∀ X Y : Bool, (if X = true then some Y else some false) = some (X && Y) := fun X Y => by cases X <;> rfl
  have L2 : ∀ (x : Int) (Y : Bool), (if x = 0 then some Y else some false) = some ((x == 0) && Y) := fun x Y => by by_cases h : x = 0 <;> simp [h]
  have L3 : ∀ X Y : Bool, (if X = true then some false else some Y) = some (!X && Y) := fun X Y => by cases X <;> rfl
  have L4 : (!(c != 0)) = (c == 0) := by cases h : c == 0 <;> simp [bne, h]
  have ht : t.toList.isEmpty = decide (t.toList = []) := by cases t.toList <;> rfl
  rw [ht]
  clear ht
  by_cases h0 : o = 0
  · subst h0
    cases A <;> by_cases ha : a = -1 <;> cases B <;> by_cases ht : t.toList = [] <;> simp [spec_l04InstrOk.j0, spec_l04InstrOk.j1, ha, ht, L1, L2, L3, L4, Bool.and_comm, Bool.and_left_comm, Bool.and_assoc]
  by_cases h1 : o = 1
  · subst h1
    cases A <;> by_cases ha : a = -1 <;> cases B <;> by_cases ht : t.toList = [] <;> simp [spec_l04InstrOk.j0, spec_l04InstrOk.j1, ha, ht, L1, L2, L3, L4, Bool.and_comm, Bool.and_left_comm, Bool.and_assoc]
  by_cases h2 : o = 2
  · subst h2
    cases A <;> by_cases ha : a = -1 <;> cases B <;> simp [spec_l04InstrOk.j0, spec_l04InstrOk.j1, ha, hh, L1, L2, L3, L4, Bool.and_comm, Bool.and_left_comm, Bool.and_assoc]
  by_cases h3 : o = 3
  · subst h3
    cases A <;> by_cases ha : a = -1 <;> cases B <;> by_cases ht : t.toList = [] <;> simp [spec_l04InstrOk.j0, spec_l04InstrOk.j1, ha, ht, L1, L2, L3, L4, Bool.and_comm, Bool.and_left_comm, Bool.and_assoc]
  by_cases h4 : o = 4
  · subst h4
    cases A <;> by_cases ha : a = -1 <;> cases B <;> by_cases ht : t.toList = [] <;> simp [spec_l04InstrOk.j0, spec_l04InstrOk.j1, ha, ht, w1, in_some, inS, hC, L1, L2, L3, L4, Bool.and_comm, Bool.and_left_comm, Bool.and_assoc]
  by_cases h5 : o = 5
  · subst h5
    cases A <;> by_cases ha : a = -1 <;> cases B <;> by_cases ht : t.toList = [] <;> simp [spec_l04InstrOk.j0, spec_l04InstrOk.j1, ha, ht, L1, L2, L3, L4, Bool.and_comm, Bool.and_left_comm, Bool.and_assoc]
  by_cases h6 : o = 6
  · subst h6
    cases A <;> by_cases ha : a = -1 <;> cases B <;> by_cases ht : t.toList = [] <;> simp [spec_l04InstrOk.j0, spec_l04InstrOk.j1, ha, ht, L1, L2, L3, L4, Bool.and_comm, Bool.and_left_comm, Bool.and_assoc]
  cases A <;> by_cases ha : a = -1 <;> cases B <;> by_cases ht : t.toList = [] <;> simp [spec_l04InstrOk.j0, spec_l04InstrOk.j1, h0, h1, h2, h3, h4, h5, h6, ha, ht]
theorem instrB_low (z s o d a b c n : Int) (t : ByteArray) (hs : s ≤ 0) : instrB z s o d a b c n t = false := by
  have h : ∀ x, inB x s = false := fun x => by
    unfold inB
    by_cases h : 0 ≤ x
    · rw [decide_eq_false (show ¬ x < s by omega), Bool.and_false]
    · rw [decide_eq_false h, Bool.false_and]
  unfold instrB
  simp only [h, Bool.false_and, ite_self]
end Go.Proofs.Ytbbpmcignfhfmaa.Ok
