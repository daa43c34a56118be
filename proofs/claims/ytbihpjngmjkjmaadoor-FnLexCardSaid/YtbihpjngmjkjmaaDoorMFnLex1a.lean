/- Printed by a program over this seat's translation: a Lean function for each Go function, and that the Go code comes to its answers. -/
import Derived.Test.YtbihpjngmjkjmaaDoorMFnLex0a
import Derived.Test.YtbihpjngmjkjmaaDoorMFnLexxF55
namespace Go.Proofs.YtbihpjngmjkjmaaDoor.P
open Go.RowKit Go.Proofs.YtbihpjngmjkjmaaDoorW.PrintWords Go.Proofs.YtbihpjngmjkjmaaDoorW.PrintLast Go.Proofs.YtbihpjngmjkjmaaDoorW.PrintMore
attribute [local go_sem] max2_int min2_int max_two min_two max_three min_three max_four min_four   -- for this text's walks alone
set_option linter.unusedVariables false
set_option linter.unusedSimpArgs false

/-- A struct of four fields that is stored whole: its last field. -/
theorem four_setS (w : World) (g : Nat) {x : Value} (h : w.cell? ⟨g, 3, none⟩ = some x) (a b c d : Value) : ((((w.setCell ⟨g, 0, none⟩ a).setCell ⟨g, 1, none⟩ b).setCell ⟨g, 2, none⟩ c).setCell ⟨g, 3, none⟩ d).cell? ⟨g, 3, none⟩ = some d := by
  refine World.cell?_setCell_same _ _ _ (u := x) ?_
  rw [World.cell?_setCell_other _ _ _ _ (by simp), World.cell?_setCell_other _ _ _ _ (by simp), World.cell?_setCell_other _ _ _ _ (by simp)]
  exact h
/-! ### spec_Lex: function 27 -/
mutual
def spec_Lex.l0 : Nat → ByteArray → List (S56) → Int → Int → Option ((List (S56)) × Int)
  | 0, _, _, _, _ => none
  | k + 1, x0, x4, x5, x6 => if x6 < (x0.size : Int) then (if 0 ≤ x6 then (if (bt x0 x6) = 32 then (spec_Lex.j1 k x0 x4 x5 x6 true) else (spec_Lex.j1 k x0 x4 x5 x6 ((bt x0 x6) == 10))) else (none)) else (some (x4, 0))
def spec_Lex.j1 : Nat → ByteArray → List (S56) → Int → Int → Bool → Option ((List (S56)) × Int)
  | 0, _, _, _, _, _ => none
  | k + 1, x0, x4, x5, x6, x27 => if x27 = true then (if 0 ≤ x6 then (if x6 < (x0.size : Int) then (if (bt x0 x6) = 10 then (spec_Lex.l0 k x0 x4 (wrap64 (x5 + 1)) (wrap64 (x6 + 1))) else (spec_Lex.l0 k x0 x4 x5 (wrap64 (x6 + 1)))) else (none)) else (none)) else ((spec_l01Next.f k x0 x6).bind fun bt104 => (if bt104.2.2.2.2 < 0 then (some ((([] : List (S56))), x5)) else (if x4.length < 3518437208883 then (spec_Lex.l0 k x0 (x4 ++ [(⟨bt104.1, bt104.2.1, bt104.2.2.1, x5⟩ : S56)]) x5 bt104.2.2.2.2) else (none))))
end
def spec_Lex.f (k : Nat) (a0 : ByteArray) : Option ((List (S56)) × Int) := (some (([] : List (S56)) : List (S56))).bind fun y101 => (if (a0.size : Int) > 3000 then (some (y101, 1)) else (spec_Lex.l0 k a0 y101 1 0))
theorem spec_Lex.mono_l : ∀ k, (∀ y0 y1 y2 y3, LeO (spec_Lex.l0 k y0 y1 y2 y3) (spec_Lex.l0 (k + 1) y0 y1 y2 y3)) ∧ (∀ y0 y1 y2 y3 y4, LeO (spec_Lex.j1 k y0 y1 y2 y3 y4) (spec_Lex.j1 (k + 1) y0 y1 y2 y3 y4))
  | 0 => ⟨fun _ _ _ _ r h => by simp [spec_Lex.l0] at h, fun _ _ _ _ _ r h => by simp [spec_Lex.j1] at h⟩
  | k + 1 => by
    obtain ⟨ih0, ih1⟩ := spec_Lex.mono_l k
    refine ⟨?_, ?_⟩
    · intro y0 y1 y2 y3
      unfold spec_Lex.l0
      repeat' first
      | (with_reducible exact ih0 _ _ _ _)
      | (with_reducible exact ih1 _ _ _ _ _)
      | (with_reducible exact spec_l01Next.mono _ _ _)
      | (with_reducible exact LeO.refl _)
      | (with_reducible exact LeO.none _)
      | (with_reducible refine LeO.ite ?_ ?_)
      | (with_reducible refine LeO.bind ?_ (fun _ => ?_))
      | exact ih0 _ _ _ _
      | exact ih1 _ _ _ _ _
      | exact spec_l01Next.mono _ _ _
      | exact LeO.none _
      | refine LeO.ite ?_ ?_
      | refine LeO.bind ?_ (fun _ => ?_)
    · intro y0 y1 y2 y3 y4
      unfold spec_Lex.j1
      repeat' first
      | (with_reducible exact ih0 _ _ _ _)
      | (with_reducible exact ih1 _ _ _ _ _)
      | (with_reducible exact spec_l01Next.mono _ _ _)
      | (with_reducible exact LeO.refl _)
      | (with_reducible exact LeO.none _)
      | (with_reducible refine LeO.ite ?_ ?_)
      | (with_reducible refine LeO.bind ?_ (fun _ => ?_))
      | exact ih0 _ _ _ _
      | exact ih1 _ _ _ _ _
      | exact spec_l01Next.mono _ _ _
      | exact LeO.none _
      | refine LeO.ite ?_ ?_
      | refine LeO.bind ?_ (fun _ => ?_)
theorem spec_Lex.mono : ∀ a0 k, LeO (spec_Lex.f k a0) (spec_Lex.f (k + 1) a0) := by
  intro a0 k
  obtain ⟨ih0, ih1⟩ := spec_Lex.mono_l k
  unfold spec_Lex.f
  repeat' first
      | (with_reducible exact ih0 _ _ _ _)
      | (with_reducible exact ih1 _ _ _ _ _)
      | (with_reducible exact spec_l01Next.mono _ _ _)
      | (with_reducible exact LeO.refl _)
      | (with_reducible exact LeO.none _)
      | (with_reducible refine LeO.ite ?_ ?_)
      | (with_reducible refine LeO.bind ?_ (fun _ => ?_))
      | exact ih0 _ _ _ _
      | exact ih1 _ _ _ _ _
      | exact spec_l01Next.mono _ _ _
      | exact LeO.none _
      | refine LeO.ite ?_ ?_
      | refine LeO.bind ?_ (fun _ => ?_)
set_option maxHeartbeats 8000000 in
set_option maxRecDepth 100000 in
theorem spec_Lex.calls (k : Nat) (a0 : ByteArray) (r1 : List (S56)) (r2 : Int) (w : World) (h : spec_Lex.f k a0 = some (r1, r2)) :
    Calls Tryd.prog 27 #[.string a0] w fun e w' => ∃ v0_ : Value, e = .returned (.tuple #[v0_, .int .i64 r2]) ∧ Kd.R k56 56 w' w.heap.size (fun _ => True) v0_ r1 ∧ Below w.heap.size w w' := by
  have hu56 := Tryd.underlying56
  have HB := Zs0.mk (Below.refl w.heap.size w)
  have H : ((some (([] : List (S56)) : List (S56))).bind fun y101 => (if (a0.size : Int) > 3000 then (some (y101, 1)) else (spec_Lex.l0 k a0 y101 1 0))) = some (r1, r2) := h
  clear h
  obtain ⟨y101, hy101⟩ : ∃ y_ : List (S56), y_ = (([] : List (S56))) := ⟨_, rfl⟩
  replace H : (if (a0.size : Int) > 3000 then (some (y101, 1)) else (spec_Lex.l0 k a0 y101 1 0)) = some (r1, r2) := by first | (rw [hy101]; with_reducible exact H) | (have H2_ := (Option.bind_some _ _).symm.trans H; rw [hy101]; with_reducible exact H2_) | (have H2_ := (Option.bind_some _ _).symm.trans H; with_reducible exact H2_) | with_reducible exact H | (rw [hy101]; exact H) | exact H
  have Ny101 := Zs0.mk hy101
  clear hy101
  by_cases c2 : (a0.size : Int) > 3000
  · rw [if_pos c2] at H
    have c2b0 : decide (3000 < (a0.size : Int)) = true := decide_eq_true c2
    have c2b1 : decide (3000 < a0.size) = true := decide_eq_true (by omega)
    clear c2
    simp only [Option.some.injEq, Prod.mk.injEq] at H
    obtain ⟨rfl, rfl⟩ := H
    go_enter Tryd.func27, Tryd.ntmps27
    go_wp2_with (first | ((with_reducible refine gtD (N := 9) rfl ?_); refine Kd.R_lit k56 _ 56 ?hg (N := 9) ?hd (xs := ([] : List (S56))) (inner := []) (ok := fun _ => True) (okp := fun _ => True) ?hr ?hp (fun _ hk => hk) trivial (Below.refl _ _) (Nat.le_refl _) (by simp) ?_; (case hd => rfl); (case hg => rfl); (case hr => first | (go_simp; done) | (go_simp; rfl)); (case hp => exact (Reps.none _ _)); intro v102 w3 ho4 hb hg_ hnew_; clear hg_ hnew_; (first | rw [← Ny101.out] at ho4 | (simp only [Int.reduceToNat] at ho4; rw [← Ny101.out] at ho4)); have n0_ := Zs0.mk (Kd.R_lower ho4 (blZ (by repeat (first | (with_reducible first | exact HB.out | apply blA | apply pbN | apply bl1) | exact HB.out)))); have n1_ := Zs0.mk (blT (by repeat (first | (with_reducible first | exact HB.out | apply blA | apply pbN | apply bl1) | exact HB.out)) hb); clear HB; have HO103 := n0_; have HB := n1_; clear n0_ n1_; clear hb ho4))
    go_ret2
    exact ⟨_, by first | rfl | (simp [eWn, eWs] <;> rfl) | (simp [*, eWn, eWs] <;> rfl), by (with_reducible repeat (first | apply Kd.R_alloc | apply Kd.R_drewN | apply Kd.R_drew)); exact HO103.out, by repeat (first | (with_reducible first | exact HB.out | apply blA | apply pbN | apply bl1) | exact HB.out)⟩
  · rw [if_neg c2] at H
    have c2b0 : decide (3000 < (a0.size : Int)) = false := decide_eq_false c2
    have c2b1 : decide (3000 < a0.size) = false := decide_eq_false (by omega)
    clear c2
    have H' := Zs0.mk H
    clear H
    go_enter Tryd.func27, Tryd.ntmps27
    go_wp2_with (first | ((with_reducible refine gtD (N := 9) rfl ?_); refine Kd.R_lit k56 _ 56 ?hg (N := 9) ?hd (xs := ([] : List (S56))) (inner := []) (ok := fun _ => True) (okp := fun _ => True) ?hr ?hp (fun _ hk => hk) trivial (Below.refl _ _) (Nat.le_refl _) (by simp) ?_; (case hd => rfl); (case hg => rfl); (case hr => first | (go_simp; done) | (go_simp; rfl)); (case hp => exact (Reps.none _ _)); intro v102 w5 ho6 hb hg_ hnew_; clear hg_ hnew_; (first | rw [← Ny101.out] at ho6 | (simp only [Int.reduceToNat] at ho6; rw [← Ny101.out] at ho6)); have n0_ := Zs0.mk (Kd.R_lower ho6 (blZ (by repeat (first | (with_reducible first | exact HB.out | apply blA | apply pbN | apply bl1) | exact HB.out)))); have n1_ := Zs0.mk (blT (by repeat (first | (with_reducible first | exact HB.out | apply blA | apply pbN | apply bl1) | exact HB.out)) hb); clear HB; have HO103 := n0_; have HB := n1_; clear n0_ n1_; clear hb ho6))
    go_loopg [4, 5, 6] k (fun kq v4 v5 v6 w' => ∃ (x4_1 : List (S56)) (x5_1 : Int) (x6_1 : Int), v5 = .int .i64 x5_1 ∧ v6 = .int .i64 x6_1 ∧ Zs0 (spec_Lex.l0 kq a0 x4_1 x5_1 x6_1 = some (r1, r2)) ∧ Zs0 (kq ≤ k) ∧ Zs0 (Kd.R k56 56 w' w.heap.size (fun _ => True) v4 x4_1) ∧ Zs0 (Below w.heap.size w w'))
    case atStart => exact ⟨(y101), (1), (0), (by first | rfl | (simp; done) | (simp [*]; done)), (by first | rfl | (simp; done) | (simp [*]; done)), H', ⟨Nat.le_refl _⟩, ⟨by (with_reducible repeat (first | apply Kd.R_alloc | apply Kd.R_drewN | apply Kd.R_drew)); exact HO103.out⟩, ⟨by repeat (first | (with_reducible first | exact HB.out | apply blA | apply pbN | apply bl1) | exact HB.out)⟩⟩
    case round =>
      clear H'
      try clear c2
      try clear c2b0
      try clear c2b1
      try clear p2
      obtain ⟨x4_1, x5_1, x6_1, rfl, rfl, HA, HK1, HO_4, HB⟩ := hrel
      cases gk with
      | zero => exact absurd HA.out (by simp [spec_Lex.l0])
      | succ k1 =>
        have H := HA.out
        clear HA
        simp only [spec_Lex.l0] at H
        by_cases c7 : x6_1 < (a0.size : Int)
        · rw [if_pos c7] at H
          have c7b0 : decide (x6_1 < (a0.size : Int)) = true := decide_eq_true c7
          clear c7
          have HC8 := Zs0.mk H
          clear H
          go_upto_region 7 with (fail)
          go_cut [27] (fun v27 wc => ∃ (kq : Nat) (x27_7 : Bool), v27 = .bool x27_7 ∧ Zs0 (spec_Lex.j1 kq a0 x4_1 x5_1 x6_1 x27_7 = some (r1, r2)) ∧ Zs0 (kq ≤ k1) ∧ Zs0 (Kd.R k56 56 wc w.heap.size (fun _ => True) u4 x4_1) ∧ Zs0 (Below w.heap.size w wc))
          case first =>
            have H := HC8.out
            clear HC8
            have c9 := ipos H
            rw [if_pos c9] at H
            have c9b0 := decide_eq_true c9
            clear c9
            (first | rw [c9b0] | (simp only [i64_w, i32_w]; rw [c9b0]) | skip)
            by_cases c11 : (bt a0 x6_1) = 32
            · rw [if_pos c11] at H
              have c11b0 : ((bt a0 x6_1) == 32) = true := beq_iff_eq.mpr c11
              have c11b1 : ((bt a0 x6_1) != 32) = false := bne_eq_false_iff_eq.mpr c11
              clear c11
              have H' := Zs0.mk H
              clear H
              have p10 : 0 ≤ (x6_1 : Int) := of_decide_eq_true (by first | (with_reducible assumption) | assumption)
              have q10 : x6_1 < (a0.size : Int) := of_decide_eq_true (by first | (with_reducible assumption) | assumption)
              have hx10 := bt_at a0 x6_1
              replace p10 := eq_true p10
              replace q10 := eq_true q10
              go_wp2
              go_meet
              case rel => exact ⟨_, (true), (by first | rfl | (simp; done) | (simp [*]; done)), H', ⟨by have := HK1.out; first | omega | exact Nat.le_refl _⟩, ⟨by (with_reducible repeat (first | apply Kd.R_alloc | apply Kd.R_drewN | apply Kd.R_drew)); exact HO_4.out⟩, ⟨by repeat (first | (with_reducible first | exact HB.out | apply blA | apply pbN | apply bl1) | exact HB.out)⟩⟩
            · rw [if_neg c11] at H
              have c11b0 : ((bt a0 x6_1) == 32) = false := beq_eq_false_iff_ne.mpr c11
              have c11b1 : ((bt a0 x6_1) != 32) = true := bne_iff_ne.mpr c11
              have H' := Zs0.mk H
              clear H
              have p10 : 0 ≤ (x6_1 : Int) := of_decide_eq_true (by first | (with_reducible assumption) | assumption)
              have q10 : x6_1 < (a0.size : Int) := of_decide_eq_true (by first | (with_reducible assumption) | assumption)
              have hx10 := bt_at a0 x6_1
              replace p10 := eq_true p10
              replace q10 := eq_true q10
              have p12 : 0 ≤ (x6_1 : Int) := of_decide_eq_true (by first | (with_reducible assumption) | assumption)
              have q12 : x6_1 < (a0.size : Int) := of_decide_eq_true (by first | (with_reducible assumption) | assumption)
              have hx12 := bt_at a0 x6_1
              replace p12 := eq_true p12
              replace q12 := eq_true q12
              go_wp2
              go_meet
              case rel => exact ⟨_, (((bt a0 x6_1) == 10)), (by first | rfl | (simp; done) | (simp [*]; done)), H', ⟨by have := HK1.out; first | omega | exact Nat.le_refl _⟩, ⟨by (with_reducible repeat (first | apply Kd.R_alloc | apply Kd.R_drewN | apply Kd.R_drew)); exact HO_4.out⟩, ⟨by repeat (first | (with_reducible first | exact HB.out | apply blA | apply pbN | apply bl1) | exact HB.out)⟩⟩
          case rest =>
            clear HC8
            try clear c1
            try clear p1
            try clear q1
            try clear hx1
            try clear c2
            try clear c2b0
            try clear c2b1
            try clear p2
            try clear c7
            try clear c7b0
            try clear c9
            try clear c9b0
            try clear p10
            try clear q10
            try clear hx10
            try clear c11
            try clear c11b0
            try clear c11b1
            try clear p12
            try clear q12
            try clear hx12
            try clear p10
            try clear p12
            try clear p2
            try clear q10
            try clear q12
            obtain ⟨kq, x27_7, rfl, HA, HJ7, HO_4, HB⟩ := hcut
            cases kq with
            | zero => exact absurd HA.out (by simp [spec_Lex.j1])
            | succ kj7 =>
              have H := HA.out
              clear HA
              simp only [spec_Lex.j1] at H
              by_cases c13 : x27_7 = true
              · subst c13
                have H1 : (if 0 ≤ x6_1 then (if x6_1 < (a0.size : Int) then (if (bt a0 x6_1) = 10 then (spec_Lex.l0 kj7 a0 x4_1 (wrap64 (x5_1 + 1)) (wrap64 (x6_1 + 1))) else (spec_Lex.l0 kj7 a0 x4_1 x5_1 (wrap64 (x6_1 + 1)))) else (none)) else (none)) = some (r1, r2) := by rw [if_pos rfl] at H; exact H
                clear H
                have H := H1
                clear H1
                have c14 := ipos H
                rw [if_pos c14] at H
                have c14b0 := decide_eq_true c14
                clear c14
                have c15 := ipos H
                rw [if_pos c15] at H
                have c15b0 := decide_eq_true c15
                clear c15
                by_cases c17 : (bt a0 x6_1) = 10
                · rw [if_pos c17] at H
                  have c17b0 : ((bt a0 x6_1) == 10) = true := beq_iff_eq.mpr c17
                  have c17b1 : ((bt a0 x6_1) != 10) = false := bne_eq_false_iff_eq.mpr c17
                  clear c17
                  have H' := Zs0.mk H
                  clear H
                  have p16 : 0 ≤ (x6_1 : Int) := of_decide_eq_true (by first | (with_reducible assumption) | assumption)
                  have q16 : x6_1 < (a0.size : Int) := of_decide_eq_true (by first | (with_reducible assumption) | assumption)
                  have hx16 := bt_at a0 x6_1
                  replace p16 := eq_true p16
                  replace q16 := eq_true q16
                  go_wp2
                  go_roundg kj7
                  case measure => have := HK1.out; have := HJ7.out; omega
                  case rel => exact ⟨(x4_1), (wrap64 (x5_1 + 1)), (wrap64 (x6_1 + 1)), (by first | rfl | (simp; done) | (simp [*]; done)), (by first | rfl | (simp; done) | (simp [*]; done)), H', ⟨by have := HK1.out; have := HJ7.out; omega⟩, ⟨by (with_reducible repeat (first | apply Kd.R_alloc | apply Kd.R_drewN | apply Kd.R_drew)); exact HO_4.out⟩, ⟨by repeat (first | (with_reducible first | exact HB.out | apply blA | apply pbN | apply bl1) | exact HB.out)⟩⟩
                · rw [if_neg c17] at H
                  have c17b0 : ((bt a0 x6_1) == 10) = false := beq_eq_false_iff_ne.mpr c17
                  have c17b1 : ((bt a0 x6_1) != 10) = true := bne_iff_ne.mpr c17
                  have H' := Zs0.mk H
                  clear H
                  have p16 : 0 ≤ (x6_1 : Int) := of_decide_eq_true (by first | (with_reducible assumption) | assumption)
                  have q16 : x6_1 < (a0.size : Int) := of_decide_eq_true (by first | (with_reducible assumption) | assumption)
                  have hx16 := bt_at a0 x6_1
                  replace p16 := eq_true p16
                  replace q16 := eq_true q16
                  go_wp2
                  go_roundg kj7
                  case measure => have := HK1.out; have := HJ7.out; omega
                  case rel => exact ⟨(x4_1), (x5_1), (wrap64 (x6_1 + 1)), (by first | rfl | (simp; done) | (simp [*]; done)), (by first | rfl | (simp; done) | (simp [*]; done)), H', ⟨by have := HK1.out; have := HJ7.out; omega⟩, ⟨by (with_reducible repeat (first | apply Kd.R_alloc | apply Kd.R_drewN | apply Kd.R_drew)); exact HO_4.out⟩, ⟨by repeat (first | (with_reducible first | exact HB.out | apply blA | apply pbN | apply bl1) | exact HB.out)⟩⟩
              · replace c13 := Bool.eq_false_iff.mpr c13
                subst c13
                have H1 : ((spec_l01Next.f kj7 a0 x6_1).bind fun bt104 => (if bt104.2.2.2.2 < 0 then (some ((([] : List (S56))), x5_1)) else (if x4_1.length < 3518437208883 then (spec_Lex.l0 kj7 a0 (x4_1 ++ [(⟨bt104.1, bt104.2.1, bt104.2.2.1, x5_1⟩ : S56)]) x5_1 bt104.2.2.2.2) else (none)))) = some (r1, r2) := by rw [if_neg (show ¬ (false = true) by decide)] at H; exact H
                clear H
                have H := H1
                clear H1
                replace H := Option.bind_eq_some_iff.mp H
                obtain ⟨⟨t104, t105, t106, t107, t108⟩, A180, H⟩ := H
                replace H : (if t108 < 0 then (some ((([] : List (S56))), x5_1)) else (if x4_1.length < 3518437208883 then (spec_Lex.l0 kj7 a0 (x4_1 ++ [(⟨t104, t105, t106, x5_1⟩ : S56)]) x5_1 t108) else (none))) = some (r1, r2) := H
                have A18 := Zs0.mk A180
                clear A180
                by_cases c19 : t108 < 0
                · rw [if_pos c19] at H
                  have c19b0 : decide (t108 < 0) = true := decide_eq_true c19
                  clear c19
                  obtain ⟨y110, hy110⟩ : ∃ y_ : List (S56), y_ = (([] : List (S56))) := ⟨_, rfl⟩
                  replace H : (some (y110, x5_1)) = some (r1, r2) := by first | (rw [hy110]; with_reducible exact H) | (have H2_ := (Option.bind_some _ _).symm.trans H; rw [hy110]; with_reducible exact H2_) | (have H2_ := (Option.bind_some _ _).symm.trans H; with_reducible exact H2_) | with_reducible exact H | (rw [hy110]; exact H) | exact H
                  have Ny110 := Zs0.mk hy110
                  clear hy110
                  simp only [Option.some.injEq, Prod.mk.injEq] at H
                  obtain ⟨rfl, rfl⟩ := H
                  go_wp2_with (first | ((with_reducible refine gtC (f := 55) rfl ?_); refine goesL_ (some 39) rfl rfl Tryd.func55 (by kernel_rfl) rfl #[.string a0, .int .i64 x6_1] rfl (by (try simp only [List.map_toArray, List.map_cons, List.map_nil]); first | done | rfl | (simp only [List.length_drop, List.length_take]; rfl)) ?_; (with_reducible refine (spec_l01Next.calls kj7 a0 x6_1 t104 t105 t106 t107 t108 _ A18.out).mono ?_); rintro e w20 ⟨rfl, hb⟩; refine ⟨_, rfl, ?_⟩; have n0_ := Zs0.mk (Kd.R_below (by (with_reducible repeat (first | apply Kd.R_alloc | apply Kd.R_drewN | apply Kd.R_drew)); exact HO_4.out) hb); have n1_ := Zs0.mk (blT (by repeat (first | (with_reducible first | exact HB.out | apply blA | apply pbN | apply bl1) | exact HB.out)) hb); clear HO_4; clear HB; have HO_4 := n0_; have HB := n1_; clear n0_ n1_; (try clear hb); (try clear hb2); (try clear hk); (try clear hi)) | ((with_reducible refine gtD (N := 7) rfl ?_); refine box_event ?hg (N := 7) ?hd (cs := #[.int .i64 0, .string (⟨#[]⟩ : ByteArray), .int .i64 0, .int .i64 0]) (t := 56) ?hr ?_; (case hd => rfl); (case hg => rfl); (case hr => first | (go_simp; done) | (go_simp; rfl)); intro gb109 hg w21 hbox hb; have n0_ := Zs0.mk (Kd.R_below (Kd.R_elderB (by (with_reducible repeat (first | apply Kd.R_alloc | apply Kd.R_drewN | apply Kd.R_drew)); exact HO_4.out) gb109 (Nat.le_of_eq hg.symm)) hb); have n1_ := Zs0.mk (blT (by repeat (first | (with_reducible first | exact HB.out | apply blA | apply pbN | apply bl1) | exact HB.out)) hb); have n2_ := Zs0.mk (hbox); have n3_ := Zs0.mk ((by rw [hg]; exact (blZ (by repeat (first | (with_reducible first | exact HB.out | apply blA | apply pbN | apply bl1) | exact HB.out))) : w.heap.size ≤ gb109)); have n4_ := Zs0.mk ((by rw [hg]; exact (blZ (by repeat (first | (with_reducible first | exact HB.out | apply blA | apply pbN | apply bl1) | exact HB.out))) : w.heap.size ≤ gb109)); clear HO_4; clear HB; have HO_4 := n0_; have HB := n1_; have BK109 := n2_; have GW109 := n3_; have GE109 := n4_; clear n0_ n1_ n2_ n3_ n4_; clear hb hbox hg; obtain ⟨hcz22_0, hcz22_1, hcz22_2, hcz22_3, hfz22_0, hfz22_1, hfz22_2, hfz22_3⟩ := bx4 BK109.out; have hq4_ := four_setS w21 gb109 hcz22_3) | ((with_reducible refine gtD (N := 44) rfl ?_); refine Kd.R_lit k56 _ 56 ?hg (N := 44) ?hd (xs := ([] : List (S56))) (inner := []) (ok := fun _ => True) (okp := fun _ => True) ?hr ?hp (fun _ hk => hk) trivial (Below.refl _ _) (Nat.le_refl _) (by simp) ?_; (case hd => rfl); (case hg => rfl); (case hr => first | (go_simp; done) | (go_simp; rfl)); (case hp => exact (Reps.none _ _)); intro v111 w23 ho24 hb hg_ hnew_; clear hg_ hnew_; (first | rw [← Ny110.out] at ho24 | (simp only [Int.reduceToNat] at ho24; rw [← Ny110.out] at ho24)); have n0_ := Zs0.mk (Kd.R_elder' (by (with_reducible repeat (first | apply Kd.R_alloc | apply Kd.R_drewN | apply Kd.R_drew)); exact (Kd.R_mono (Kd.R_far (p := ⟨gb109, 3, none⟩) (Kd.R_far (p := ⟨gb109, 2, none⟩) (Kd.R_far (p := ⟨gb109, 1, none⟩) (Kd.R_far (p := ⟨gb109, 0, none⟩) (Kd.R_mono HO_4.out (fun k_ hk => (⟨hk, hk.2⟩ : _ ∧ k_ ≠ gb109))) (fun _ hk => hk.2) (.int .i64 t104)) (fun _ hk => hk.2) (.string t105)) (fun _ hk => hk.2) (.int .i64 t106)) (fun _ hk => hk.2) (.int .i64 t107)) (fun _ h_ => h_.1))) (Kd.R_base ho24) hb); have n1_ := Zs0.mk (Kd.R_lower (Kd.R_newB (Kd.R_new' ho24 (Kd.R_lt (by (with_reducible repeat (first | apply Kd.R_alloc | apply Kd.R_drewN | apply Kd.R_drew)); exact (Kd.R_mono (Kd.R_far (p := ⟨gb109, 3, none⟩) (Kd.R_far (p := ⟨gb109, 2, none⟩) (Kd.R_far (p := ⟨gb109, 1, none⟩) (Kd.R_far (p := ⟨gb109, 0, none⟩) (Kd.R_mono HO_4.out (fun k_ hk => (⟨hk, hk.2⟩ : _ ∧ k_ ≠ gb109))) (fun _ hk => hk.2) (.int .i64 t104)) (fun _ hk => hk.2) (.string t105)) (fun _ hk => hk.2) (.int .i64 t106)) (fun _ hk => hk.2) (.int .i64 t107)) (fun _ h_ => h_.1))))) (g := gb109) (o := .cells #[.int .i64 t104, .string t105, .int .i64 t106, .int .i64 t107] 56 (0, 0)) (by (with_reducible repeat (first | refine bkN ?_ _ | refine bk1 ?_ | refine bkA ?_ _)); refine blk_put (cs := #[.int .i64 t104, .string t105, .int .i64 t106, .int .i64 0]) ?_ 3 _ rfl; (with_reducible repeat (first | refine bkN ?_ _ | refine bk1 ?_ | refine bkA ?_ _)); refine blk_put (cs := #[.int .i64 t104, .string t105, .int .i64 0, .int .i64 0]) ?_ 2 _ rfl; (with_reducible repeat (first | refine bkN ?_ _ | refine bk1 ?_ | refine bkA ?_ _)); refine blk_put (cs := #[.int .i64 t104, .string (⟨#[]⟩ : ByteArray), .int .i64 0, .int .i64 0]) ?_ 1 _ rfl; (with_reducible repeat (first | refine bkN ?_ _ | refine bk1 ?_ | refine bkA ?_ _)); refine blk_put (cs := #[.int .i64 0, .string (⟨#[]⟩ : ByteArray), .int .i64 0, .int .i64 0]) ?_ 0 _ rfl; (with_reducible repeat (first | refine bkN ?_ _ | refine bk1 ?_ | refine bkA ?_ _)); exact BK109.out)) (blZ (by repeat (first | (with_reducible first | exact HB.out | apply blA | apply pbN | apply bl1 | refine blS ?_ GE109.out) | exact HB.out)))); have n2_ := Zs0.mk (blk_below (g := gb109) (o := .cells #[.int .i64 t104, .string t105, .int .i64 t106, .int .i64 t107] 56 (0, 0)) (by (with_reducible repeat (first | refine bkN ?_ _ | refine bk1 ?_ | refine bkA ?_ _)); refine blk_put (cs := #[.int .i64 t104, .string t105, .int .i64 t106, .int .i64 0]) ?_ 3 _ rfl; (with_reducible repeat (first | refine bkN ?_ _ | refine bk1 ?_ | refine bkA ?_ _)); refine blk_put (cs := #[.int .i64 t104, .string t105, .int .i64 0, .int .i64 0]) ?_ 2 _ rfl; (with_reducible repeat (first | refine bkN ?_ _ | refine bk1 ?_ | refine bkA ?_ _)); refine blk_put (cs := #[.int .i64 t104, .string (⟨#[]⟩ : ByteArray), .int .i64 0, .int .i64 0]) ?_ 1 _ rfl; (with_reducible repeat (first | refine bkN ?_ _ | refine bk1 ?_ | refine bkA ?_ _)); refine blk_put (cs := #[.int .i64 0, .string (⟨#[]⟩ : ByteArray), .int .i64 0, .int .i64 0]) ?_ 0 _ rfl; (with_reducible repeat (first | refine bkN ?_ _ | refine bk1 ?_ | refine bkA ?_ _)); exact BK109.out) hb); have n3_ := Zs0.mk (blT (by repeat (first | (with_reducible first | exact HB.out | apply blA | apply pbN | apply bl1 | refine blS ?_ GE109.out) | exact HB.out)) hb); clear HO_4; clear BK109; clear HB; have HO_4 := n0_; have HO112 := n1_; have BK109 := n2_; have HB := n3_; clear n0_ n1_ n2_ n3_; clear hb ho24))
                  go_ret2
                  exact ⟨_, by first | rfl | (simp [eWn, eWs] <;> rfl) | (simp [*, eWn, eWs] <;> rfl), by (with_reducible repeat (first | apply Kd.R_alloc | apply Kd.R_drewN | apply Kd.R_drew)); exact Kd.R_mono HO112.out (fun _ hk => trivial), by repeat (first | (with_reducible first | exact HB.out | apply blA | apply pbN | apply bl1 | refine blS ?_ GE109.out) | exact HB.out)⟩
                · rw [if_neg c19] at H
                  have c19b0 : decide (t108 < 0) = false := decide_eq_false c19
                  clear c19
                  have c25 := ipos H
                  rw [if_pos c25] at H
                  have LMc25 := Zs0.mk c25
                  clear c25
                  obtain ⟨y113, hy113⟩ : ∃ y_ : List (S56), y_ = (x4_1 ++ [(⟨t104, t105, t106, x5_1⟩ : S56)]) := ⟨_, rfl⟩
                  replace H : (spec_Lex.l0 kj7 a0 y113 x5_1 t108) = some (r1, r2) := by first | (rw [hy113]; with_reducible exact H) | (have H2_ := (Option.bind_some _ _).symm.trans H; rw [hy113]; with_reducible exact H2_) | (have H2_ := (Option.bind_some _ _).symm.trans H; with_reducible exact H2_) | with_reducible exact H | (rw [hy113]; exact H) | exact H
                  have Ny113 := Zs0.mk hy113
                  clear hy113
                  have H' := Zs0.mk H
                  clear H
                  go_wp2_with (first | ((with_reducible refine gtC (f := 55) rfl ?_); refine goesL_ (some 39) rfl rfl Tryd.func55 (by kernel_rfl) rfl #[.string a0, .int .i64 x6_1] rfl (by (try simp only [List.map_toArray, List.map_cons, List.map_nil]); first | done | rfl | (simp only [List.length_drop, List.length_take]; rfl)) ?_; (with_reducible refine (spec_l01Next.calls kj7 a0 x6_1 t104 t105 t106 t107 t108 _ A18.out).mono ?_); rintro e w26 ⟨rfl, hb⟩; refine ⟨_, rfl, ?_⟩; have n0_ := Zs0.mk (Kd.R_below (by (with_reducible repeat (first | apply Kd.R_alloc | apply Kd.R_drewN | apply Kd.R_drew)); exact HO_4.out) hb); have n1_ := Zs0.mk (blT (by repeat (first | (with_reducible first | exact HB.out | apply blA | apply pbN | apply bl1) | exact HB.out)) hb); clear HO_4; clear HB; have HO_4 := n0_; have HB := n1_; clear n0_ n1_; (try clear hb); (try clear hb2); (try clear hk); (try clear hi)) | ((with_reducible refine gtD (N := 7) rfl ?_); refine box_event ?hg (N := 7) ?hd (cs := #[.int .i64 0, .string (⟨#[]⟩ : ByteArray), .int .i64 0, .int .i64 0]) (t := 56) ?hr ?_; (case hd => rfl); (case hg => rfl); (case hr => first | (go_simp; done) | (go_simp; rfl)); intro gb109 hg w27 hbox hb; have n0_ := Zs0.mk (Kd.R_below (Kd.R_elderB (by (with_reducible repeat (first | apply Kd.R_alloc | apply Kd.R_drewN | apply Kd.R_drew)); exact HO_4.out) gb109 (Nat.le_of_eq hg.symm)) hb); have n1_ := Zs0.mk (blT (by repeat (first | (with_reducible first | exact HB.out | apply blA | apply pbN | apply bl1) | exact HB.out)) hb); have n2_ := Zs0.mk (hbox); have n3_ := Zs0.mk ((by rw [hg]; exact (blZ (by repeat (first | (with_reducible first | exact HB.out | apply blA | apply pbN | apply bl1) | exact HB.out))) : w.heap.size ≤ gb109)); have n4_ := Zs0.mk ((by rw [hg]; exact (blZ (by repeat (first | (with_reducible first | exact HB.out | apply blA | apply pbN | apply bl1) | exact HB.out))) : w.heap.size ≤ gb109)); clear HO_4; clear HB; have HO_4 := n0_; have HB := n1_; have BK109 := n2_; have GW109 := n3_; have GE109 := n4_; clear n0_ n1_ n2_ n3_ n4_; clear hb hbox hg; obtain ⟨hcz28_0, hcz28_1, hcz28_2, hcz28_3, hfz28_0, hfz28_1, hfz28_2, hfz28_3⟩ := bx4 BK109.out; have hq4_ := four_setS w27 gb109 hcz28_3) | ((with_reducible refine gate_builtin (b := .append) (xs := #[.tmp 48, .tmp 50]) rfl ?_); at_builtin; refine Kd.R_append k56 (w0 := w) w.heap.size rfl (.tmp 48) (.tmp 50) 46 56 (.agg #[(.int .i64 0), (.string ⟨#[]⟩), (.int .i64 0), (.int .i64 0)]) 40 rfl Tryd.underlying46 info56 rfl (by decide) (by omega) u4 x4_1 (⟨t104, t105, t106, x5_1⟩ : S56) [.int .i64 t104, .string t105, .int .i64 t106, .int .i64 x5_1] (fun k_ => k_ ≠ gb109) (fun _ => False) rfl (by first | (go_simp; done) | (go_simp; rfl)) ?aP (fun _ hk => hk.elim) ?aF ?aO ?aB ?aS ?aL ?_; (case aP => exact k56_mkM _ _ _ (⟨t104, t105, t106, x5_1⟩ : S56)); (case aB => exact (by repeat (first | (with_reducible first | exact HB.out | apply blA | apply pbN | apply bl1 | refine blS ?_ GE109.out) | exact HB.out))); (case aF => exact (fun k_ hk => Kd.freshB (g := gb109) (o := .cells #[.int .i64 t104, .string t105, .int .i64 t106, .int .i64 x5_1] 56 (0, 0)) (by (with_reducible repeat (first | refine bkN ?_ _ | refine bk1 ?_ | refine bkA ?_ _)); refine blk_put (cs := #[.int .i64 t104, .string t105, .int .i64 t106, .int .i64 t107]) ?_ 3 _ rfl; (with_reducible repeat (first | refine bkN ?_ _ | refine bk1 ?_ | refine bkA ?_ _)); refine blk_put (cs := #[.int .i64 t104, .string t105, .int .i64 t106, .int .i64 0]) ?_ 3 _ rfl; (with_reducible repeat (first | refine bkN ?_ _ | refine bk1 ?_ | refine bkA ?_ _)); refine blk_put (cs := #[.int .i64 t104, .string t105, .int .i64 0, .int .i64 0]) ?_ 2 _ rfl; (with_reducible repeat (first | refine bkN ?_ _ | refine bk1 ?_ | refine bkA ?_ _)); refine blk_put (cs := #[.int .i64 t104, .string (⟨#[]⟩ : ByteArray), .int .i64 0, .int .i64 0]) ?_ 1 _ rfl; (with_reducible repeat (first | refine bkN ?_ _ | refine bk1 ?_ | refine bkA ?_ _)); refine blk_put (cs := #[.int .i64 0, .string (⟨#[]⟩ : ByteArray), .int .i64 0, .int .i64 0]) ?_ 0 _ rfl; (with_reducible repeat (first | refine bkN ?_ _ | refine bk1 ?_ | refine bkA ?_ _)); exact BK109.out) k_ hk)); (case aO => exact (by (with_reducible repeat (first | apply Kd.R_alloc | apply Kd.R_drewN | apply Kd.R_drew)); exact Kd.R_mono (Kd.R_far (p := ⟨gb109, 3, none⟩) (Kd.R_far (p := ⟨gb109, 3, none⟩) (Kd.R_far (p := ⟨gb109, 2, none⟩) (Kd.R_far (p := ⟨gb109, 1, none⟩) (Kd.R_far (p := ⟨gb109, 0, none⟩) (Kd.R_mono HO_4.out (fun k_ hk => (⟨hk, hk.2⟩ : _ ∧ k_ ≠ gb109))) (fun _ hk => hk.2) (.int .i64 t104)) (fun _ hk => hk.2) (.string t105)) (fun _ hk => hk.2) (.int .i64 t106)) (fun _ hk => hk.2) (.int .i64 t107)) (fun _ hk => hk.2) (.int .i64 x5_1)) (fun _ hk => hk.1.2))); (case aS => exact (blZ (by repeat (first | (with_reducible first | exact HB.out | apply blA | apply pbN | apply bl1 | refine blS ?_ GE109.out) | exact HB.out)))); (case aL => have := LMc25.out; omega); intro v114 w29 ho hb hg hat; rw [← Ny113.out] at ho; have n0_ := Zs0.mk (blk_grown (g := gb109) (o := .cells #[.int .i64 t104, .string t105, .int .i64 t106, .int .i64 x5_1] 56 (0, 0)) (by (with_reducible repeat (first | refine bkN ?_ _ | refine bk1 ?_ | refine bkA ?_ _)); refine blk_put (cs := #[.int .i64 t104, .string t105, .int .i64 t106, .int .i64 t107]) ?_ 3 _ rfl; (with_reducible repeat (first | refine bkN ?_ _ | refine bk1 ?_ | refine bkA ?_ _)); refine blk_put (cs := #[.int .i64 t104, .string t105, .int .i64 t106, .int .i64 0]) ?_ 3 _ rfl; (with_reducible repeat (first | refine bkN ?_ _ | refine bk1 ?_ | refine bkA ?_ _)); refine blk_put (cs := #[.int .i64 t104, .string t105, .int .i64 0, .int .i64 0]) ?_ 2 _ rfl; (with_reducible repeat (first | refine bkN ?_ _ | refine bk1 ?_ | refine bkA ?_ _)); refine blk_put (cs := #[.int .i64 t104, .string (⟨#[]⟩ : ByteArray), .int .i64 0, .int .i64 0]) ?_ 1 _ rfl; (with_reducible repeat (first | refine bkN ?_ _ | refine bk1 ?_ | refine bkA ?_ _)); refine blk_put (cs := #[.int .i64 0, .string (⟨#[]⟩ : ByteArray), .int .i64 0, .int .i64 0]) ?_ 0 _ rfl; (with_reducible repeat (first | refine bkN ?_ _ | refine bk1 ?_ | refine bkA ?_ _)); exact BK109.out) hg (Kd.R_away HO_4.out (fun _ hk => hk.2))); have n1_ := Zs0.mk (hb); have n2_ := Zs0.mk (ho); clear BK109; clear HB; clear HO_4; have BK109 := n0_; have HB := n1_; have HO115 := n2_; clear n0_ n1_ n2_; clear ho hb hg hat))
                  go_roundg kj7
                  case measure => have := HK1.out; have := HJ7.out; omega
                  case rel => exact ⟨(y113), (x5_1), (t108), (by first | rfl | (simp; done) | (simp [*]; done)), (by first | rfl | (simp; done) | (simp [*]; done)), H', ⟨by have := HK1.out; have := HJ7.out; omega⟩, ⟨by (with_reducible repeat (first | apply Kd.R_alloc | apply Kd.R_drewN | apply Kd.R_drew)); exact Kd.R_mono HO115.out (fun _ hk => trivial)⟩, ⟨by repeat (first | (with_reducible first | exact HB.out | apply blA | apply pbN | apply bl1 | refine blS ?_ GE109.out) | exact HB.out)⟩⟩
        · rw [if_neg c7] at H
          have c7b0 : decide (x6_1 < (a0.size : Int)) = false := decide_eq_false c7
          clear c7
          simp only [Option.some.injEq, Prod.mk.injEq] at H
          obtain ⟨rfl, rfl⟩ := H
          go_wp2
          go_ret2
          exact ⟨_, by first | rfl | (simp [eWn, eWs] <;> rfl) | (simp [*, eWn, eWs] <;> rfl), by (with_reducible repeat (first | apply Kd.R_alloc | apply Kd.R_drewN | apply Kd.R_drew)); exact HO_4.out, by repeat (first | (with_reducible first | exact HB.out | apply blA | apply pbN | apply bl1) | exact HB.out)⟩

end Go.Proofs.YtbihpjngmjkjmaaDoor.P
