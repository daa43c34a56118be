/- Printed by a program over this seat's translation: a Lean function for each Go function, and that the Go code comes to its answers. -/
import Derived.Test.YtbihpjngmjkjmaaDoorMFnLex0a
import Derived.Test.YtbihpjngmjkjmaaDoorMFnLexxF56
namespace Go.Proofs.YtbihpjngmjkjmaaDoor.P
open Go.RowKit Go.Proofs.YtbihpjngmjkjmaaDoorW.PrintWords Go.Proofs.YtbihpjngmjkjmaaDoorW.PrintLast Go.Proofs.YtbihpjngmjkjmaaDoorW.PrintMore
attribute [local go_sem] max2_int min2_int max_two min_two max_three min_three max_four min_four   -- for this text's walks alone
set_option linter.unusedVariables false
set_option linter.unusedSimpArgs false

/-- A struct of four fields that is stored whole: its last field. -/
theorem four_setI (w : World) (g : Nat) {x : Value} (h : w.cell? ⟨g, 3, none⟩ = some x) (a b c d : Value) : ((((w.setCell ⟨g, 0, none⟩ a).setCell ⟨g, 1, none⟩ b).setCell ⟨g, 2, none⟩ c).setCell ⟨g, 3, none⟩ d).cell? ⟨g, 3, none⟩ = some d := by
  refine World.cell?_setCell_same _ _ _ (u := x) ?_
  rw [World.cell?_setCell_other _ _ _ _ (by simp), World.cell?_setCell_other _ _ _ _ (by simp), World.cell?_setCell_other _ _ _ _ (by simp)]
  exact h
/-! ### impl_Lex: function 28 -/
def impl_Lex.l0 : Nat → ByteArray → List (S56) → Int → Option ((List (S56)) × Int)
  | 0, _, _, _ => none
  | k + 1, x0, x4, x5 => if x0.toList = ([] : List UInt8) then (some (x4, 0)) else (if 0 < (x0.size : Int) then (if (bt x0 0) = 32 then (if 1 ≤ (x0.size : Int) then (impl_Lex.l0 k (x0.extract 1 x0.size) x4 x5) else (none)) else (if (bt x0 0) = 10 then (if 1 ≤ (x0.size : Int) then (impl_Lex.l0 k (x0.extract 1 x0.size) x4 (wrap64 (x5 + 1))) else (none)) else ((impl_tokenAt.f k x0).bind fun bt104 => (if bt104.2.2.2.2 = 0 then (some (([] : List (S56)), x5)) else (if x4.length < 3518437208883 then (if 0 ≤ bt104.2.2.2.2 then (if bt104.2.2.2.2 ≤ (x0.size : Int) then (impl_Lex.l0 k (x0.extract (bt104.2.2.2.2 : Int).toNat x0.size) (x4 ++ [(⟨bt104.1, bt104.2.1, bt104.2.2.1, x5⟩ : S56)]) x5) else (none)) else (none)) else (none)))))) else (none))
def impl_Lex.f (k : Nat) (a0 : ByteArray) : Option ((List (S56)) × Int) := if (a0.size : Int) > 3000 then (some (([] : List (S56)), 1)) else (impl_Lex.l0 k a0 (([] : List (S56))) 1)
theorem impl_Lex.mono_l : ∀ k, (∀ y0 y1 y2, LeO (impl_Lex.l0 k y0 y1 y2) (impl_Lex.l0 (k + 1) y0 y1 y2))
  | 0 => fun _ _ _ r h => by simp [impl_Lex.l0] at h
  | k + 1 => by
    have ih0 := impl_Lex.mono_l k
    · intro y0 y1 y2
      unfold impl_Lex.l0
      repeat' first
      | (with_reducible exact ih0 _ _ _)
      | (with_reducible exact impl_tokenAt.mono _ _)
      | (with_reducible exact LeO.refl _)
      | (with_reducible exact LeO.none _)
      | (with_reducible refine LeO.ite ?_ ?_)
      | (with_reducible refine LeO.bind ?_ (fun _ => ?_))
      | exact ih0 _ _ _
      | exact impl_tokenAt.mono _ _
      | exact LeO.none _
      | refine LeO.ite ?_ ?_
      | refine LeO.bind ?_ (fun _ => ?_)
theorem impl_Lex.mono : ∀ a0 k, LeO (impl_Lex.f k a0) (impl_Lex.f (k + 1) a0) := by
  intro a0 k
  have ih0 := impl_Lex.mono_l k
  unfold impl_Lex.f
  repeat' first
      | (with_reducible exact ih0 _ _ _)
      | (with_reducible exact impl_tokenAt.mono _ _)
      | (with_reducible exact LeO.refl _)
      | (with_reducible exact LeO.none _)
      | (with_reducible refine LeO.ite ?_ ?_)
      | (with_reducible refine LeO.bind ?_ (fun _ => ?_))
      | exact ih0 _ _ _
      | exact impl_tokenAt.mono _ _
      | exact LeO.none _
      | refine LeO.ite ?_ ?_
      | refine LeO.bind ?_ (fun _ => ?_)
set_option maxHeartbeats 8000000 in
set_option maxRecDepth 100000 in
theorem impl_Lex.calls (k : Nat) (a0 : ByteArray) (r1 : List (S56)) (r2 : Int) (w : World) (h : impl_Lex.f k a0 = some (r1, r2)) (ht : TabE w) :
    Calls Tryd.prog 28 #[.string a0] w fun e w' => ∃ v0_ : Value, e = .returned (.tuple #[v0_, .int .i64 r2]) ∧ Kd.R k56 56 w' w.heap.size (fun _ => True) v0_ r1 ∧ Below w.heap.size w w' := by
  have hu56 := Tryd.underlying56
  have HB := Zs0.mk (Below.refl w.heap.size w)
  have HT := Zs0.mk ht
  clear ht
  have H : (if (a0.size : Int) > 3000 then (some (([] : List (S56)), 1)) else (impl_Lex.l0 k a0 (([] : List (S56))) 1)) = some (r1, r2) := h
  clear h
  by_cases c2 : (a0.size : Int) > 3000
  · rw [if_pos c2] at H
    have c2b0 : decide (3000 < (a0.size : Int)) = true := decide_eq_true c2
    have c2b1 : decide (3000 < a0.size) = true := decide_eq_true (by omega)
    clear c2
    simp only [Option.some.injEq, Prod.mk.injEq] at H
    obtain ⟨rfl, rfl⟩ := H
    go_enter Tryd.func28, Tryd.ntmps28
    go_wp2
    go_ret2
    exact ⟨_, by first | rfl | (simp [eWn, eWs] <;> rfl) | (simp [*, eWn, eWs] <;> rfl), by first | exact Kd.R_nil _ _ _ _ _ | exact Kd.N_nil _ _ _ _ _ | exact Kd.V_nil _ _ _ _ _ | exact Kd.Q_nil _ _ _ _ _ | exact Kd.S_nil _ _ _ _ _, by repeat (first | (with_reducible first | exact HB.out | apply blA | apply pbN | apply bl1) | exact HB.out)⟩
  · rw [if_neg c2] at H
    have c2b0 : decide (3000 < (a0.size : Int)) = false := decide_eq_false c2
    have c2b1 : decide (3000 < a0.size) = false := decide_eq_false (by omega)
    clear c2
    obtain ⟨y101, hy101⟩ : ∃ y_ : List (S56), y_ = (([] : List (S56))) := ⟨_, rfl⟩
    replace H : (impl_Lex.l0 k a0 y101 1) = some (r1, r2) := by first | (rw [hy101]; with_reducible exact H) | (have H2_ := (Option.bind_some _ _).symm.trans H; rw [hy101]; with_reducible exact H2_) | (have H2_ := (Option.bind_some _ _).symm.trans H; with_reducible exact H2_) | with_reducible exact H | (rw [hy101]; exact H) | exact H
    have Ny101 := Zs0.mk hy101
    clear hy101
    have H' := Zs0.mk H
    clear H
    go_enter Tryd.func28, Tryd.ntmps28
    go_wp2_with (first | ((with_reducible refine gtD (N := 11) rfl ?_); refine Kd.R_lit k56 _ 56 ?hg (N := 11) ?hd (xs := ([] : List (S56))) (inner := []) (ok := fun _ => True) (okp := fun _ => True) ?hr ?hp (fun _ hk => hk) trivial (Below.refl _ _) (Nat.le_refl _) (by simp) ?_; (case hd => rfl); (case hg => rfl); (case hr => first | (go_simp; done) | (go_simp; rfl)); (case hp => exact (Reps.none _ _)); intro v102 w3 ho4 hb hg_ hnew_; clear hg_ hnew_; (first | rw [← Ny101.out] at ho4 | (simp only [Int.reduceToNat] at ho4; rw [← Ny101.out] at ho4)); have n0_ := Zs0.mk (Kd.R_lower ho4 (blZ (by repeat (first | (with_reducible first | exact HB.out | apply blA | apply pbN | apply bl1) | exact HB.out)))); have n1_ := Zs0.mk (blT (by repeat (first | (with_reducible first | exact HB.out | apply blA | apply pbN | apply bl1) | exact HB.out)) hb); clear HB; have HO103 := n0_; have HB := n1_; clear n0_ n1_; clear hb ho4))
    go_loopg [0, 4, 5] k (fun kq v0 v4 v5 w' => ∃ (x0_1 : ByteArray) (x4_1 : List (S56)) (x5_1 : Int), v0 = .string x0_1 ∧ v5 = .int .i64 x5_1 ∧ Zs0 (impl_Lex.l0 kq x0_1 x4_1 x5_1 = some (r1, r2)) ∧ Zs0 (kq ≤ k) ∧ Zs0 (Kd.R k56 56 w' w.heap.size (fun _ => True) v4 x4_1) ∧ Zs0 (Below w.heap.size w w'))
    case atStart => exact ⟨(a0), (y101), (1), (by first | rfl | (simp; done) | (simp [*]; done)), (by first | rfl | (simp; done) | (simp [*]; done)), H', ⟨Nat.le_refl _⟩, ⟨by (with_reducible repeat (first | apply Kd.R_alloc | apply Kd.R_drewN | apply Kd.R_drew)); exact HO103.out⟩, ⟨by repeat (first | (with_reducible first | exact HB.out | apply blA | apply pbN | apply bl1) | exact HB.out)⟩⟩
    case round =>
      clear H'
      try clear c2
      try clear c2b0
      try clear c2b1
      try clear p2
      obtain ⟨x0_1, x4_1, x5_1, rfl, rfl, HA, HK1, HO_4, HB⟩ := hrel
      cases gk with
      | zero => exact absurd HA.out (by simp [impl_Lex.l0])
      | succ k1 =>
        have H := HA.out
        clear HA
        simp only [impl_Lex.l0] at H
        by_cases c5 : x0_1.toList = ([] : List UInt8)
        · rw [if_pos c5] at H
          have c5b0 : (x0_1.toList == ([] : List UInt8)) = true := beq_iff_eq.mpr c5
          have c5b1 : (x0_1.toList != ([] : List UInt8)) = false := bne_eq_false_iff_eq.mpr c5
          clear c5
          simp only [Option.some.injEq, Prod.mk.injEq] at H
          obtain ⟨rfl, rfl⟩ := H
          go_wp2
          go_ret2
          exact ⟨_, by first | rfl | (simp [eWn, eWs] <;> rfl) | (simp [*, eWn, eWs] <;> rfl), by (with_reducible repeat (first | apply Kd.R_alloc | apply Kd.R_drewN | apply Kd.R_drew)); exact HO_4.out, by repeat (first | (with_reducible first | exact HB.out | apply blA | apply pbN | apply bl1) | exact HB.out)⟩
        · rw [if_neg c5] at H
          have c5b0 : (x0_1.toList == ([] : List UInt8)) = false := beq_eq_false_iff_ne.mpr c5
          have c5b1 : (x0_1.toList != ([] : List UInt8)) = true := bne_iff_ne.mpr c5
          have c6 := ipos H
          rw [if_pos c6] at H
          have c6b0 := decide_eq_true c6
          have c6b1 : decide (0 < x0_1.size) = true := decide_eq_true (by omega)
          clear c6
          by_cases c8 : (bt x0_1 0) = 32
          · rw [if_pos c8] at H
            have c8b0 : ((bt x0_1 0) == 32) = true := beq_iff_eq.mpr c8
            have c8b1 : ((bt x0_1 0) != 32) = false := bne_eq_false_iff_eq.mpr c8
            clear c8
            have c9 := ipos H
            rw [if_pos c9] at H
            have c9b0 := eq_true c9
            have c9b1 := decide_eq_true c9
            clear c9
            have H' := Zs0.mk H
            clear H
            have p7 : 0 ≤ (0 : Int) := (by omega)
            have q7 : 0 < x0_1.size := (by have : (0 : Int) < (x0_1.size : Int) := of_decide_eq_true (by first | (with_reducible assumption) | assumption); omega)
            have hx7 : ∀ h : 0 < x0_1.size, ((x0_1[0]'h).toNat : Int) = bt x0_1 0 := bt_at x0_1 0
            clear p7
            have qi7 : (0 < (x0_1.size : Int)) = True := eq_true (of_decide_eq_true (by first | (with_reducible assumption) | assumption))
            replace q7 := eq_true q7
            go_wp2
            go_roundg k1
            case measure => have := HK1.out; omega
            case rel => exact ⟨(x0_1.extract 1 x0_1.size), (x4_1), (x5_1), (by first | rfl | (simp; done) | (simp [*]; done)), (by first | rfl | (simp; done) | (simp [*]; done)), H', ⟨by have := HK1.out; omega⟩, ⟨by (with_reducible repeat (first | apply Kd.R_alloc | apply Kd.R_drewN | apply Kd.R_drew)); exact HO_4.out⟩, ⟨by repeat (first | (with_reducible first | exact HB.out | apply blA | apply pbN | apply bl1) | exact HB.out)⟩⟩
          · rw [if_neg c8] at H
            have c8b0 : ((bt x0_1 0) == 32) = false := beq_eq_false_iff_ne.mpr c8
            have c8b1 : ((bt x0_1 0) != 32) = true := bne_iff_ne.mpr c8
            by_cases c11 : (bt x0_1 0) = 10
            · rw [if_pos c11] at H
              have c11b0 : ((bt x0_1 0) == 10) = true := beq_iff_eq.mpr c11
              have c11b1 : ((bt x0_1 0) != 10) = false := bne_eq_false_iff_eq.mpr c11
              clear c11
              have c12 := ipos H
              rw [if_pos c12] at H
              have c12b0 := eq_true c12
              have c12b1 := decide_eq_true c12
              clear c12
              have H' := Zs0.mk H
              clear H
              have p7 : 0 ≤ (0 : Int) := (by omega)
              have q7 : 0 < x0_1.size := (by have : (0 : Int) < (x0_1.size : Int) := of_decide_eq_true (by first | (with_reducible assumption) | assumption); omega)
              have hx7 : ∀ h : 0 < x0_1.size, ((x0_1[0]'h).toNat : Int) = bt x0_1 0 := bt_at x0_1 0
              clear p7
              have qi7 : (0 < (x0_1.size : Int)) = True := eq_true (of_decide_eq_true (by first | (with_reducible assumption) | assumption))
              replace q7 := eq_true q7
              have p10 : 0 ≤ (0 : Int) := (by omega)
              have q10 : 0 < x0_1.size := (by have : (0 : Int) < (x0_1.size : Int) := of_decide_eq_true (by first | (with_reducible assumption) | assumption); omega)
              have hx10 : ∀ h : 0 < x0_1.size, ((x0_1[0]'h).toNat : Int) = bt x0_1 0 := bt_at x0_1 0
              clear p10
              have qi10 : (0 < (x0_1.size : Int)) = True := eq_true (of_decide_eq_true (by first | (with_reducible assumption) | assumption))
              replace q10 := eq_true q10
              go_wp2
              go_roundg k1
              case measure => have := HK1.out; omega
              case rel => exact ⟨(x0_1.extract 1 x0_1.size), (x4_1), (wrap64 (x5_1 + 1)), (by first | rfl | (simp; done) | (simp [*]; done)), (by first | rfl | (simp; done) | (simp [*]; done)), H', ⟨by have := HK1.out; omega⟩, ⟨by (with_reducible repeat (first | apply Kd.R_alloc | apply Kd.R_drewN | apply Kd.R_drew)); exact HO_4.out⟩, ⟨by repeat (first | (with_reducible first | exact HB.out | apply blA | apply pbN | apply bl1) | exact HB.out)⟩⟩
            · rw [if_neg c11] at H
              have c11b0 : ((bt x0_1 0) == 10) = false := beq_eq_false_iff_ne.mpr c11
              have c11b1 : ((bt x0_1 0) != 10) = true := bne_iff_ne.mpr c11
              replace H := Option.bind_eq_some_iff.mp H
              obtain ⟨⟨t104, t105, t106, t107, t108⟩, A130, H⟩ := H
              replace H : (if t108 = 0 then (some (([] : List (S56)), x5_1)) else (if x4_1.length < 3518437208883 then (if 0 ≤ t108 then (if t108 ≤ (x0_1.size : Int) then (impl_Lex.l0 k1 (x0_1.extract (t108 : Int).toNat x0_1.size) (x4_1 ++ [(⟨t104, t105, t106, x5_1⟩ : S56)]) x5_1) else (none)) else (none)) else (none))) = some (r1, r2) := H
              have A13 := Zs0.mk A130
              clear A130
              by_cases c14 : t108 = 0
              · rw [if_pos c14] at H
                have c14b0 : (t108 == 0) = true := beq_iff_eq.mpr c14
                have c14b1 : (t108 != 0) = false := bne_eq_false_iff_eq.mpr c14
                clear c14
                simp only [Option.some.injEq, Prod.mk.injEq] at H
                obtain ⟨rfl, rfl⟩ := H
                have p7 : 0 ≤ (0 : Int) := (by omega)
                have q7 : 0 < x0_1.size := (by have : (0 : Int) < (x0_1.size : Int) := of_decide_eq_true (by first | (with_reducible assumption) | assumption); omega)
                have hx7 : ∀ h : 0 < x0_1.size, ((x0_1[0]'h).toNat : Int) = bt x0_1 0 := bt_at x0_1 0
                clear p7
                have qi7 : (0 < (x0_1.size : Int)) = True := eq_true (of_decide_eq_true (by first | (with_reducible assumption) | assumption))
                replace q7 := eq_true q7
                have p10 : 0 ≤ (0 : Int) := (by omega)
                have q10 : 0 < x0_1.size := (by have : (0 : Int) < (x0_1.size : Int) := of_decide_eq_true (by first | (with_reducible assumption) | assumption); omega)
                have hx10 : ∀ h : 0 < x0_1.size, ((x0_1[0]'h).toNat : Int) = bt x0_1 0 := bt_at x0_1 0
                clear p10
                have qi10 : (0 < (x0_1.size : Int)) = True := eq_true (of_decide_eq_true (by first | (with_reducible assumption) | assumption))
                replace q10 := eq_true q10
                go_wp2_with (first | ((with_reducible refine gtC (f := 56) rfl ?_); refine goesL_ (some 30) rfl rfl Tryd.func56 (by kernel_rfl) rfl #[.string x0_1] rfl (by (try simp only [List.map_toArray, List.map_cons, List.map_nil]); first | done | rfl | (simp only [List.length_drop, List.length_take]; rfl)) ?_; (with_reducible refine (impl_tokenAt.calls k1 x0_1 t104 t105 t106 t107 t108 _ A13.out (tabEB HT.out (by repeat (first | (with_reducible first | exact HB.out | apply blA | apply pbN | apply bl1) | exact HB.out)))).mono ?_); rintro e w15 ⟨rfl, hb⟩; refine ⟨_, rfl, ?_⟩; have n0_ := Zs0.mk (Kd.R_below (by (with_reducible repeat (first | apply Kd.R_alloc | apply Kd.R_drewN | apply Kd.R_drew)); exact HO_4.out) hb); have n1_ := Zs0.mk (blT (by repeat (first | (with_reducible first | exact HB.out | apply blA | apply pbN | apply bl1) | exact HB.out)) hb); clear HO_4; clear HB; have HO_4 := n0_; have HB := n1_; clear n0_ n1_; (try clear hb); (try clear hb2); (try clear hk); (try clear hi)) | ((with_reducible refine gtD (N := 6) rfl ?_); refine box_event ?hg (N := 6) ?hd (cs := #[.int .i64 0, .string (⟨#[]⟩ : ByteArray), .int .i64 0, .int .i64 0]) (t := 56) ?hr ?_; (case hd => rfl); (case hg => rfl); (case hr => first | (go_simp; done) | (go_simp; rfl)); intro gb109 hg w16 hbox hb; have n0_ := Zs0.mk (Kd.R_below (Kd.R_elderB (by (with_reducible repeat (first | apply Kd.R_alloc | apply Kd.R_drewN | apply Kd.R_drew)); exact HO_4.out) gb109 (Nat.le_of_eq hg.symm)) hb); have n1_ := Zs0.mk (blT (by repeat (first | (with_reducible first | exact HB.out | apply blA | apply pbN | apply bl1) | exact HB.out)) hb); have n2_ := Zs0.mk (hbox); have n3_ := Zs0.mk ((by rw [hg]; exact (blZ (by repeat (first | (with_reducible first | exact HB.out | apply blA | apply pbN | apply bl1) | exact HB.out))) : w.heap.size ≤ gb109)); have n4_ := Zs0.mk ((by rw [hg]; exact (blZ (by repeat (first | (with_reducible first | exact HB.out | apply blA | apply pbN | apply bl1) | exact HB.out))) : w.heap.size ≤ gb109)); clear HO_4; clear HB; have HO_4 := n0_; have HB := n1_; have BK109 := n2_; have GW109 := n3_; have GE109 := n4_; clear n0_ n1_ n2_ n3_ n4_; clear hb hbox hg; obtain ⟨hcz17_0, hcz17_1, hcz17_2, hcz17_3, hfz17_0, hfz17_1, hfz17_2, hfz17_3⟩ := bx4 BK109.out; have hq4_ := four_setI w16 gb109 hcz17_3))
                go_ret2
                exact ⟨_, by first | rfl | (simp [eWn, eWs] <;> rfl) | (simp [*, eWn, eWs] <;> rfl), by first | exact Kd.R_nil _ _ _ _ _ | exact Kd.N_nil _ _ _ _ _ | exact Kd.V_nil _ _ _ _ _ | exact Kd.Q_nil _ _ _ _ _ | exact Kd.S_nil _ _ _ _ _, by repeat (first | (with_reducible first | exact HB.out | apply blA | apply pbN | apply bl1 | refine blS ?_ GE109.out) | exact HB.out)⟩
              · rw [if_neg c14] at H
                have c14b0 : (t108 == 0) = false := beq_eq_false_iff_ne.mpr c14
                have c14b1 : (t108 != 0) = true := bne_iff_ne.mpr c14
                have c18 := ipos H
                rw [if_pos c18] at H
                have LMc18 := Zs0.mk c18
                clear c18
                obtain ⟨y110, hy110⟩ : ∃ y_ : List (S56), y_ = (x4_1 ++ [(⟨t104, t105, t106, x5_1⟩ : S56)]) := ⟨_, rfl⟩
                replace H : (if 0 ≤ t108 then (if t108 ≤ (x0_1.size : Int) then (impl_Lex.l0 k1 (x0_1.extract (t108 : Int).toNat x0_1.size) y110 x5_1) else (none)) else (none)) = some (r1, r2) := by first | (rw [hy110]; with_reducible exact H) | (have H2_ := (Option.bind_some _ _).symm.trans H; rw [hy110]; with_reducible exact H2_) | (have H2_ := (Option.bind_some _ _).symm.trans H; with_reducible exact H2_) | with_reducible exact H | (rw [hy110]; exact H) | exact H
                have Ny110 := Zs0.mk hy110
                clear hy110
                have c19 := ipos H
                rw [if_pos c19] at H
                have c19b0 := eq_true c19
                have c19b1 := decide_eq_true c19
                clear c19
                have c20 := ipos H
                rw [if_pos c20] at H
                have c20b0 := eq_true c20
                have c20b1 := decide_eq_true c20
                clear c20
                have H' := Zs0.mk H
                clear H
                have p7 : 0 ≤ (0 : Int) := (by omega)
                have q7 : 0 < x0_1.size := (by have : (0 : Int) < (x0_1.size : Int) := of_decide_eq_true (by first | (with_reducible assumption) | assumption); omega)
                have hx7 : ∀ h : 0 < x0_1.size, ((x0_1[0]'h).toNat : Int) = bt x0_1 0 := bt_at x0_1 0
                clear p7
                have qi7 : (0 < (x0_1.size : Int)) = True := eq_true (of_decide_eq_true (by first | (with_reducible assumption) | assumption))
                replace q7 := eq_true q7
                have p10 : 0 ≤ (0 : Int) := (by omega)
                have q10 : 0 < x0_1.size := (by have : (0 : Int) < (x0_1.size : Int) := of_decide_eq_true (by first | (with_reducible assumption) | assumption); omega)
                have hx10 : ∀ h : 0 < x0_1.size, ((x0_1[0]'h).toNat : Int) = bt x0_1 0 := bt_at x0_1 0
                clear p10
                have qi10 : (0 < (x0_1.size : Int)) = True := eq_true (of_decide_eq_true (by first | (with_reducible assumption) | assumption))
                replace q10 := eq_true q10
                go_wp2_with (first | ((with_reducible refine gtC (f := 56) rfl ?_); refine goesL_ (some 30) rfl rfl Tryd.func56 (by kernel_rfl) rfl #[.string x0_1] rfl (by (try simp only [List.map_toArray, List.map_cons, List.map_nil]); first | done | rfl | (simp only [List.length_drop, List.length_take]; rfl)) ?_; (with_reducible refine (impl_tokenAt.calls k1 x0_1 t104 t105 t106 t107 t108 _ A13.out (tabEB HT.out (by repeat (first | (with_reducible first | exact HB.out | apply blA | apply pbN | apply bl1) | exact HB.out)))).mono ?_); rintro e w21 ⟨rfl, hb⟩; refine ⟨_, rfl, ?_⟩; have n0_ := Zs0.mk (Kd.R_below (by (with_reducible repeat (first | apply Kd.R_alloc | apply Kd.R_drewN | apply Kd.R_drew)); exact HO_4.out) hb); have n1_ := Zs0.mk (blT (by repeat (first | (with_reducible first | exact HB.out | apply blA | apply pbN | apply bl1) | exact HB.out)) hb); clear HO_4; clear HB; have HO_4 := n0_; have HB := n1_; clear n0_ n1_; (try clear hb); (try clear hb2); (try clear hk); (try clear hi)) | ((with_reducible refine gtD (N := 6) rfl ?_); refine box_event ?hg (N := 6) ?hd (cs := #[.int .i64 0, .string (⟨#[]⟩ : ByteArray), .int .i64 0, .int .i64 0]) (t := 56) ?hr ?_; (case hd => rfl); (case hg => rfl); (case hr => first | (go_simp; done) | (go_simp; rfl)); intro gb109 hg w22 hbox hb; have n0_ := Zs0.mk (Kd.R_below (Kd.R_elderB (by (with_reducible repeat (first | apply Kd.R_alloc | apply Kd.R_drewN | apply Kd.R_drew)); exact HO_4.out) gb109 (Nat.le_of_eq hg.symm)) hb); have n1_ := Zs0.mk (blT (by repeat (first | (with_reducible first | exact HB.out | apply blA | apply pbN | apply bl1) | exact HB.out)) hb); have n2_ := Zs0.mk (hbox); have n3_ := Zs0.mk ((by rw [hg]; exact (blZ (by repeat (first | (with_reducible first | exact HB.out | apply blA | apply pbN | apply bl1) | exact HB.out))) : w.heap.size ≤ gb109)); have n4_ := Zs0.mk ((by rw [hg]; exact (blZ (by repeat (first | (with_reducible first | exact HB.out | apply blA | apply pbN | apply bl1) | exact HB.out))) : w.heap.size ≤ gb109)); clear HO_4; clear HB; have HO_4 := n0_; have HB := n1_; have BK109 := n2_; have GW109 := n3_; have GE109 := n4_; clear n0_ n1_ n2_ n3_ n4_; clear hb hbox hg; obtain ⟨hcz23_0, hcz23_1, hcz23_2, hcz23_3, hfz23_0, hfz23_1, hfz23_2, hfz23_3⟩ := bx4 BK109.out; have hq4_ := four_setI w22 gb109 hcz23_3) | ((with_reducible refine gate_builtin (b := .append) (xs := #[.tmp 38, .tmp 40]) rfl ?_); at_builtin; refine Kd.R_append k56 (w0 := w) w.heap.size rfl (.tmp 38) (.tmp 40) 46 56 (.agg #[(.int .i64 0), (.string ⟨#[]⟩), (.int .i64 0), (.int .i64 0)]) 40 rfl Tryd.underlying46 info56 rfl (by decide) (by omega) u4 x4_1 (⟨t104, t105, t106, x5_1⟩ : S56) [.int .i64 t104, .string t105, .int .i64 t106, .int .i64 x5_1] (fun k_ => k_ ≠ gb109) (fun _ => False) rfl (by first | (go_simp; done) | (go_simp; rfl)) ?aP (fun _ hk => hk.elim) ?aF ?aO ?aB ?aS ?aL ?_; (case aP => exact k56_mkM _ _ _ (⟨t104, t105, t106, x5_1⟩ : S56)); (case aB => exact (by repeat (first | (with_reducible first | exact HB.out | apply blA | apply pbN | apply bl1 | refine blS ?_ GE109.out) | exact HB.out))); (case aF => exact (fun k_ hk => Kd.freshB (g := gb109) (o := .cells #[.int .i64 t104, .string t105, .int .i64 t106, .int .i64 x5_1] 56 (0, 0)) (by (with_reducible repeat (first | refine bkN ?_ _ | refine bk1 ?_ | refine bkA ?_ _)); refine blk_put (cs := #[.int .i64 t104, .string t105, .int .i64 t106, .int .i64 t107]) ?_ 3 _ rfl; (with_reducible repeat (first | refine bkN ?_ _ | refine bk1 ?_ | refine bkA ?_ _)); refine blk_put (cs := #[.int .i64 t104, .string t105, .int .i64 t106, .int .i64 0]) ?_ 3 _ rfl; (with_reducible repeat (first | refine bkN ?_ _ | refine bk1 ?_ | refine bkA ?_ _)); refine blk_put (cs := #[.int .i64 t104, .string t105, .int .i64 0, .int .i64 0]) ?_ 2 _ rfl; (with_reducible repeat (first | refine bkN ?_ _ | refine bk1 ?_ | refine bkA ?_ _)); refine blk_put (cs := #[.int .i64 t104, .string (⟨#[]⟩ : ByteArray), .int .i64 0, .int .i64 0]) ?_ 1 _ rfl; (with_reducible repeat (first | refine bkN ?_ _ | refine bk1 ?_ | refine bkA ?_ _)); refine blk_put (cs := #[.int .i64 0, .string (⟨#[]⟩ : ByteArray), .int .i64 0, .int .i64 0]) ?_ 0 _ rfl; (with_reducible repeat (first | refine bkN ?_ _ | refine bk1 ?_ | refine bkA ?_ _)); exact BK109.out) k_ hk)); (case aO => exact (by (with_reducible repeat (first | apply Kd.R_alloc | apply Kd.R_drewN | apply Kd.R_drew)); exact Kd.R_mono (Kd.R_far (p := ⟨gb109, 3, none⟩) (Kd.R_far (p := ⟨gb109, 3, none⟩) (Kd.R_far (p := ⟨gb109, 2, none⟩) (Kd.R_far (p := ⟨gb109, 1, none⟩) (Kd.R_far (p := ⟨gb109, 0, none⟩) (Kd.R_mono HO_4.out (fun k_ hk => (⟨hk, hk.2⟩ : _ ∧ k_ ≠ gb109))) (fun _ hk => hk.2) (.int .i64 t104)) (fun _ hk => hk.2) (.string t105)) (fun _ hk => hk.2) (.int .i64 t106)) (fun _ hk => hk.2) (.int .i64 t107)) (fun _ hk => hk.2) (.int .i64 x5_1)) (fun _ hk => hk.1.2))); (case aS => exact (blZ (by repeat (first | (with_reducible first | exact HB.out | apply blA | apply pbN | apply bl1 | refine blS ?_ GE109.out) | exact HB.out)))); (case aL => have := LMc18.out; omega); intro v111 w24 ho hb hg hat; rw [← Ny110.out] at ho; have n0_ := Zs0.mk (blk_grown (g := gb109) (o := .cells #[.int .i64 t104, .string t105, .int .i64 t106, .int .i64 x5_1] 56 (0, 0)) (by (with_reducible repeat (first | refine bkN ?_ _ | refine bk1 ?_ | refine bkA ?_ _)); refine blk_put (cs := #[.int .i64 t104, .string t105, .int .i64 t106, .int .i64 t107]) ?_ 3 _ rfl; (with_reducible repeat (first | refine bkN ?_ _ | refine bk1 ?_ | refine bkA ?_ _)); refine blk_put (cs := #[.int .i64 t104, .string t105, .int .i64 t106, .int .i64 0]) ?_ 3 _ rfl; (with_reducible repeat (first | refine bkN ?_ _ | refine bk1 ?_ | refine bkA ?_ _)); refine blk_put (cs := #[.int .i64 t104, .string t105, .int .i64 0, .int .i64 0]) ?_ 2 _ rfl; (with_reducible repeat (first | refine bkN ?_ _ | refine bk1 ?_ | refine bkA ?_ _)); refine blk_put (cs := #[.int .i64 t104, .string (⟨#[]⟩ : ByteArray), .int .i64 0, .int .i64 0]) ?_ 1 _ rfl; (with_reducible repeat (first | refine bkN ?_ _ | refine bk1 ?_ | refine bkA ?_ _)); refine blk_put (cs := #[.int .i64 0, .string (⟨#[]⟩ : ByteArray), .int .i64 0, .int .i64 0]) ?_ 0 _ rfl; (with_reducible repeat (first | refine bkN ?_ _ | refine bk1 ?_ | refine bkA ?_ _)); exact BK109.out) hg (Kd.R_away HO_4.out (fun _ hk => hk.2))); have n1_ := Zs0.mk (hb); have n2_ := Zs0.mk (ho); clear BK109; clear HB; clear HO_4; have BK109 := n0_; have HB := n1_; have HO112 := n2_; clear n0_ n1_ n2_; clear ho hb hg hat))
                go_roundg k1
                case measure => have := HK1.out; omega
                case rel => exact ⟨(x0_1.extract (t108 : Int).toNat x0_1.size), (y110), (x5_1), (by first | rfl | (simp; done) | (simp [*]; done)), (by first | rfl | (simp; done) | (simp [*]; done)), H', ⟨by have := HK1.out; omega⟩, ⟨by (with_reducible repeat (first | apply Kd.R_alloc | apply Kd.R_drewN | apply Kd.R_drew)); exact Kd.R_mono HO112.out (fun _ hk => trivial)⟩, ⟨by repeat (first | (with_reducible first | exact HB.out | apply blA | apply pbN | apply bl1 | refine blS ?_ GE109.out) | exact HB.out)⟩⟩

end Go.Proofs.YtbihpjngmjkjmaaDoor.P
