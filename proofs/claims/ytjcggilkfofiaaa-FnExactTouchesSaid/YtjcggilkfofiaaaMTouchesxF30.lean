/- Printed by a program over this seat's translation: a Lean function for each Go function, and that the Go code comes to its answers. -/
import Derived.Test.YtjcggilkfofiaaaMTouches0a
import Derived.Test.YtjcggilkfofiaaaMTouches0c
import Derived.Test.YtjcggilkfofiaaaMTouches0d
import Derived.Test.YtjcggilkfofiaaaMTouchesxF54
namespace Go.Proofs.Ytjcggilkfofiaaa.P
open Go.RowKit Go.Proofs.YtjcggilkfofiaaaW.PrintWords Go.Proofs.YtjcggilkfofiaaaW.PrintLast Go.Proofs.YtjcggilkfofiaaaW.PrintMore
attribute [local go_sem] max2_int min2_int max_two min_two max_three min_three max_four min_four   -- for this text's walks alone
set_option linter.unusedVariables false
set_option linter.unusedSimpArgs false

/-! ### spec_Touches: function 30 -/
mutual
def spec_Touches.l0 : Nat → List Int → List (S62) → Int → List Int → Int → Int → List (S62) → Option (List Int)
  | 0, _, _, _, _, _, _, _ => none
  | k + 1, x3, x4, x5, x102000, x102001, x102002, x102003 => if x5 < (x4.length : Int) then (if 0 ≤ x5 then (if ((rd_T62 x4 x5).f0) = 1 then ((spec_l02Add.f k x3 ((rd_T62 x4 x5).f1)).bind fun t110 => (spec_Touches.l0 k t110 x4 (wrap64 (x5 + 1)) x102000 x102001 x102002 x102003)) else (spec_Touches.l0 k x3 x4 (wrap64 (x5 + 1)) x102000 x102001 x102002 x102003)) else (none)) else ((spec_l02All.f k x102000 x102001 x102002 x102003).bind fun t113 => (spec_Touches.l1 k x3 t113 0))
def spec_Touches.l1 : Nat → List Int → List (S29) → Int → Option (List Int)
  | 0, _, _, _ => none
  | k + 1, x3, x6, x7 => if x7 < (x6.length : Int) then (if 0 ≤ x7 then (if ((rd_T29 x6 x7).f0) = 2 then ((spec_l02Add.f k x3 ((rd_T29 x6 x7).f1)).bind fun t118 => (spec_Touches.l1 k t118 x6 (wrap64 (x7 + 1)))) else (spec_Touches.l1 k x3 x6 (wrap64 (x7 + 1)))) else (none)) else (some x3)
end
def spec_Touches.f (k : Nat) (l0_0 : List Int) (a0_1 : Int) (a0_2 : Int) (l0_3 : List (S62)) : Option (List Int) := (spec_l02Stmts.f k l0_3).bind fun t105 => (spec_Touches.l0 k (([] : List Int)) t105 0 l0_0 a0_1 a0_2 l0_3)
theorem spec_Touches.mono_l : ∀ k, (∀ y0 y1 y2 y3 y4 y5 y6, LeO (spec_Touches.l0 k y0 y1 y2 y3 y4 y5 y6) (spec_Touches.l0 (k + 1) y0 y1 y2 y3 y4 y5 y6)) ∧ (∀ y0 y1 y2, LeO (spec_Touches.l1 k y0 y1 y2) (spec_Touches.l1 (k + 1) y0 y1 y2))
  | 0 => ⟨fun _ _ _ _ _ _ _ r h => by simp [spec_Touches.l0] at h, fun _ _ _ r h => by simp [spec_Touches.l1] at h⟩
  | k + 1 => by
    obtain ⟨ih0, ih1⟩ := spec_Touches.mono_l k
    refine ⟨?_, ?_⟩
    · intro y0 y1 y2 y3 y4 y5 y6
      unfold spec_Touches.l0
      repeat' first
      | (with_reducible exact ih0 _ _ _ _ _ _ _)
      | (with_reducible exact ih1 _ _ _)
      | (with_reducible exact spec_l02Add.mono _ _ _)
      | (with_reducible exact spec_l02All.mono _ _ _ _ _)
      | (with_reducible exact spec_l02Stmts.mono _ _)
      | (with_reducible exact LeO.refl _)
      | (with_reducible exact LeO.none _)
      | (with_reducible refine LeO.ite ?_ ?_)
      | (with_reducible refine LeO.bind ?_ (fun _ => ?_))
      | exact ih0 _ _ _ _ _ _ _
      | exact ih1 _ _ _
      | exact spec_l02Add.mono _ _ _
      | exact spec_l02All.mono _ _ _ _ _
      | exact spec_l02Stmts.mono _ _
      | exact LeO.none _
      | refine LeO.ite ?_ ?_
      | refine LeO.bind ?_ (fun _ => ?_)
    · intro y0 y1 y2
      unfold spec_Touches.l1
      repeat' first
      | (with_reducible exact ih0 _ _ _ _ _ _ _)
      | (with_reducible exact ih1 _ _ _)
      | (with_reducible exact spec_l02Add.mono _ _ _)
      | (with_reducible exact spec_l02All.mono _ _ _ _ _)
      | (with_reducible exact spec_l02Stmts.mono _ _)
      | (with_reducible exact LeO.refl _)
      | (with_reducible exact LeO.none _)
      | (with_reducible refine LeO.ite ?_ ?_)
      | (with_reducible refine LeO.bind ?_ (fun _ => ?_))
      | exact ih0 _ _ _ _ _ _ _
      | exact ih1 _ _ _
      | exact spec_l02Add.mono _ _ _
      | exact spec_l02All.mono _ _ _ _ _
      | exact spec_l02Stmts.mono _ _
      | exact LeO.none _
      | refine LeO.ite ?_ ?_
      | refine LeO.bind ?_ (fun _ => ?_)
theorem spec_Touches.mono : ∀ a0 a1 a2 a3 k, LeO (spec_Touches.f k a0 a1 a2 a3) (spec_Touches.f (k + 1) a0 a1 a2 a3) := by
  intro a0 a1 a2 a3 k
  obtain ⟨ih0, ih1⟩ := spec_Touches.mono_l k
  unfold spec_Touches.f
  repeat' first
      | (with_reducible exact ih0 _ _ _ _ _ _ _)
      | (with_reducible exact ih1 _ _ _)
      | (with_reducible exact spec_l02Add.mono _ _ _)
      | (with_reducible exact spec_l02All.mono _ _ _ _ _)
      | (with_reducible exact spec_l02Stmts.mono _ _)
      | (with_reducible exact LeO.refl _)
      | (with_reducible exact LeO.none _)
      | (with_reducible refine LeO.ite ?_ ?_)
      | (with_reducible refine LeO.bind ?_ (fun _ => ?_))
      | exact ih0 _ _ _ _ _ _ _
      | exact ih1 _ _ _
      | exact spec_l02Add.mono _ _ _
      | exact spec_l02All.mono _ _ _ _ _
      | exact spec_l02Stmts.mono _ _
      | exact LeO.none _
      | refine LeO.ite ?_ ?_
      | refine LeO.bind ?_ (fun _ => ?_)
set_option maxHeartbeats 8000000 in
set_option maxRecDepth 100000 in
theorem spec_Touches.calls (k : Nat) (A0_0 : Option Addr) (c0_0 : Nat) (l0_0 : List Int) (a0_1 : Int) (a0_2 : Int) (A0_3 : Option Addr) (c0_3 : Nat) (l0_3 : List (S62)) (r : List Int) (w : World) (hr0_0 : Kd.C (Kd.int .i64) w A0_0 l0_0.length l0_0) (hc0_0 : l0_0.length ≤ c0_0) (hr0_3 : Kd.C k62 w A0_3 l0_3.length l0_3) (hc0_3 : l0_3.length ≤ c0_3) (h : spec_Touches.f k l0_0 a0_1 a0_2 l0_3 = some r) :
    Calls Try.prog 30 #[.agg #[.slice A0_0 l0_0.length c0_0, .int .i64 a0_1, .int .i64 a0_2, .slice A0_3 l0_3.length c0_3]] w fun e w' => ∃ v0_ : Value, e = .returned (v0_) ∧ Kd.R (Kd.int .i64) 3 w' w.heap.size (fun _ => True) v0_ r ∧ Below w.heap.size w w' := by
  have hu40 := Try.underlying40
  have HR0_0 := Zs0.mk hr0_0
  have HC0_0 := Zs0.mk hc0_0
  clear hr0_0 hc0_0
  have HR0_3 := Zs0.mk hr0_3
  have HC0_3 := Zs0.mk hc0_3
  clear hr0_3 hc0_3
  have HB := Zs0.mk (Below.refl w.heap.size w)
  have H : ((spec_l02Stmts.f k l0_3).bind fun t105 => (spec_Touches.l0 k (([] : List Int)) t105 0 l0_0 a0_1 a0_2 l0_3)) = some r := h
  clear h
  obtain ⟨y102, hy102⟩ : ∃ y_ : List Int, y_ = (([] : List Int)) := ⟨_, rfl⟩
  replace H : ((spec_l02Stmts.f k l0_3).bind fun t105 => (spec_Touches.l0 k y102 t105 0 l0_0 a0_1 a0_2 l0_3)) = some r := by first | (rw [hy102]; with_reducible exact H) | (have H2_ := (Option.bind_some _ _).symm.trans H; rw [hy102]; with_reducible exact H2_) | (have H2_ := (Option.bind_some _ _).symm.trans H; with_reducible exact H2_) | with_reducible exact H | (rw [hy102]; exact H) | exact H
  have Ny102 := Zs0.mk hy102
  clear hy102
  replace H := Option.bind_eq_some_iff.mp H
  obtain ⟨t105, A20, H⟩ := H
  replace H : (spec_Touches.l0 k y102 t105 0 l0_0 a0_1 a0_2 l0_3) = some r := H
  have A2 := Zs0.mk A20
  clear A20
  have H' := Zs0.mk H
  clear H
  go_enter Try.func30, Try.ntmps30
  go_wp2_with (first | ((with_reducible refine gtD (N := 1) rfl ?_); refine box_event ?hg (N := 1) ?hd (cs := #[.slice A0_0 l0_0.length c0_0, .int .i64 a0_1, .int .i64 a0_2, .slice A0_3 l0_3.length c0_3]) (t := 40) ?hr ?_; (case hd => rfl); (case hg => rfl); (case hr => first | (go_simp; done) | (go_simp; rfl)); intro gb101 hg w3 hbox hb; have n0_ := Zs0.mk (blT (by repeat (first | (with_reducible first | exact HB.out | apply blA | apply pbN | apply bl1) | exact HB.out)) hb); have n1_ := Zs0.mk (hbox); have n2_ := Zs0.mk ((by rw [hg]; exact (blZ (by repeat (first | (with_reducible first | exact HB.out | apply blA | apply pbN | apply bl1) | exact HB.out))) : w.heap.size ≤ gb101)); have n3_ := Zs0.mk ((by rw [hg]; exact (blZ (by repeat (first | (with_reducible first | exact HB.out | apply blA | apply pbN | apply bl1) | exact HB.out))) : w.heap.size ≤ gb101)); clear HB; have HB := n0_; have BK101 := n1_; have GW101 := n2_; have GE101 := n3_; clear n0_ n1_ n2_ n3_; clear hb hbox hg) | ((with_reducible refine gtD (N := 8) rfl ?_); refine Kd.R_lit (Kd.int .i64) _ 3 ?hg (N := 8) ?hd (xs := ([] : List Int)) (inner := []) (ok := fun _ => True) (okp := fun _ => True) ?hr ?hp (fun _ hk => hk) trivial (Below.refl _ _) (Nat.le_refl _) (by simp) ?_; (case hd => rfl); (case hg => rfl); (case hr => first | (go_simp; done) | (go_simp; rfl)); (case hp => exact (Reps.none _ _)); intro v103 w4 ho5 hb hg_ hnew_; clear hg_ hnew_; (first | rw [← Ny102.out] at ho5 | (simp only [Int.reduceToNat] at ho5; rw [← Ny102.out] at ho5)); have n0_ := Zs0.mk (Kd.R_lower ho5 (blZ (by repeat (first | (with_reducible first | exact HB.out | apply blA | apply pbN | apply bl1 | refine blS ?_ GE101.out) | exact HB.out)))); have n1_ := Zs0.mk (blk_below (g := gb101) (o := .cells #[.slice A0_0 l0_0.length c0_0, .int .i64 a0_1, .int .i64 a0_2, .slice A0_3 l0_3.length c0_3] 40 (0, 0)) (by (with_reducible repeat (first | refine bkN ?_ _ | refine bk1 ?_ | refine bkA ?_ _)); exact BK101.out) hb); have n2_ := Zs0.mk (blT (by repeat (first | (with_reducible first | exact HB.out | apply blA | apply pbN | apply bl1 | refine blS ?_ GE101.out) | exact HB.out)) hb); clear BK101; clear HB; have HO104 := n0_; have BK101 := n1_; have HB := n2_; clear n0_ n1_ n2_; clear hb ho5; obtain ⟨hcz6_0, hcz6_1, hcz6_2, hcz6_3, hfz6_0, hfz6_1, hfz6_2, hfz6_3⟩ := bx4 BK101.out) | ((with_reducible refine gtC (f := 39) rfl ?_); refine goesL_ (some 11) rfl rfl Try.func39 (by kernel_rfl) rfl #[.slice A0_3 l0_3.length c0_3] rfl (by (try simp only [List.map_toArray, List.map_cons, List.map_nil]); first | done | rfl | (simp only [List.length_drop, List.length_take]; rfl)) ?_; (with_reducible refine (spec_l02Stmts.calls k (fun k_ => k_ < w.heap.size) _ _ l0_3 t105 _ ?side1 A2.out).mono ?_); (case side1 => exact Kd.V_mk HC0_3.out (Kd.F_below (Kd.C_F k62_heap HR0_3.out) (by repeat (first | (with_reducible first | exact HB.out | apply blA | apply pbN | apply bl1 | refine blS ?_ GE101.out) | exact HB.out)))); rintro e w7 ⟨v106, rfl, ho0, hb⟩; refine ⟨_, rfl, ?_⟩; have n0_ := Zs0.mk (Kd.R_below (by (with_reducible repeat (first | apply Kd.R_alloc | apply Kd.R_drewN | apply Kd.R_drew)); exact HO104.out) hb); have n1_ := Zs0.mk (Kd.N_lower (Kd.N_mono (ok' := fun k_ => some k_ ≠ (v103 : Value).ownBlock ∧ k_ ≠ gb101) ho0 (fun k_ hk_ => ⟨Or.elim hk_ (fun hs_ => fun e_ => Nat.not_le.2 hs_ (Kd.R_base HO104.out k_ e_.symm)) (fun hn_ => (Kd.fresh' (Kd.R_lt (by (with_reducible repeat (first | apply Kd.R_alloc | apply Kd.R_drewN | apply Kd.R_drew)); exact HO104.out)) k_ hn_)), Or.elim hk_ (fun hs_ => fun e_ => Nat.not_le.2 hs_ (by rw [e_]; exact GW101.out)) (fun hn_ => (Kd.freshB (g := gb101) (o := .cells #[.slice A0_0 l0_0.length c0_0, .int .i64 a0_1, .int .i64 a0_2, .slice A0_3 l0_3.length c0_3] 40 (0, 0)) (by (with_reducible repeat (first | refine bkN ?_ _ | refine bk1 ?_ | refine bkA ?_ _)); exact BK101.out) k_ hn_))⟩)) (blZ (by repeat (first | (with_reducible first | exact HB.out | apply blA | apply pbN | apply bl1 | refine blS ?_ GE101.out) | exact HB.out)))); have n2_ := Zs0.mk (blk_below (g := gb101) (o := .cells #[.slice A0_0 l0_0.length c0_0, .int .i64 a0_1, .int .i64 a0_2, .slice A0_3 l0_3.length c0_3] 40 (0, 0)) (by (with_reducible repeat (first | refine bkN ?_ _ | refine bk1 ?_ | refine bkA ?_ _)); exact BK101.out) hb); have n3_ := Zs0.mk (blT (by repeat (first | (with_reducible first | exact HB.out | apply blA | apply pbN | apply bl1 | refine blS ?_ GE101.out) | exact HB.out)) hb); clear HO104; clear BK101; clear HB; have HO104 := n0_; have HO107 := n1_; have BK101 := n2_; have HB := n3_; clear n0_ n1_ n2_ n3_; (try clear hb); (try clear hb2); (try clear hk); (try clear hi); (try clear ho0)))
  go_loopg [3, 5] k (fun kq v3 v5 w' => ∃ (x3_1 : List Int) (x5_1 : Int), v5 = .int .i64 x5_1 ∧ Zs0 (spec_Touches.l0 kq x3_1 t105 x5_1 l0_0 a0_1 a0_2 l0_3 = some r) ∧ Zs0 (kq ≤ k) ∧ Zs0 (Kd.R (Kd.int .i64) 3 w' w.heap.size (fun _ => True) v3 x3_1) ∧ Zs0 (Kd.N k62 62 w' w.heap.size (fun k_ => some k_ ≠ (v3 : Value).ownBlock ∧ k_ ≠ gb101) v106 t105) ∧ Zs0 (w'.heap[gb101]? = some (.cells #[(.slice A0_0 l0_0.length c0_0), .int .i64 a0_1, .int .i64 a0_2, (.slice A0_3 l0_3.length c0_3)] 40 (0, 0))) ∧ Zs0 (Below w.heap.size w w'))
  case atStart => exact ⟨(y102), (0), (by first | rfl | (simp; done) | (simp [*]; done)), H', ⟨Nat.le_refl _⟩, ⟨by (with_reducible repeat (first | apply Kd.R_alloc | apply Kd.R_drewN | apply Kd.R_drew)); exact HO104.out⟩, ⟨by (with_reducible repeat (first | apply Kd.N_alloc | apply Kd.N_drewN | apply Kd.N_drew)); exact HO107.out⟩, ⟨by (with_reducible repeat (first | refine bkN ?_ _ | refine bk1 ?_ | refine bkA ?_ _)); exact BK101.out⟩, ⟨by repeat (first | (with_reducible first | exact HB.out | apply blA | apply pbN | apply bl1 | refine blS ?_ GE101.out) | exact HB.out)⟩⟩
  case round =>
    clear H'
    try clear p2
    try clear c3
    try clear hcz6_0
    try clear hcz6_1
    try clear hcz6_2
    try clear hcz6_3
    try clear hfz6_0
    try clear hfz6_1
    try clear hfz6_2
    try clear hfz6_3
    obtain ⟨x3_1, x5_1, rfl, HA, HK1, HO_3, HO_4, BK101, HB⟩ := hrel
    cases gk with
    | zero => exact absurd HA.out (by simp [spec_Touches.l0])
    | succ k1 =>
      have H := HA.out
      clear HA
      simp only [spec_Touches.l0] at H
      by_cases c8 : x5_1 < (t105.length : Int)
      · rw [if_pos c8] at H
        have c8b0 : decide (x5_1 < (t105.length : Int)) = true := decide_eq_true c8
        clear c8
        have c9 := ipos H
        rw [if_pos c9] at H
        have c9b0 := decide_eq_true c9
        clear c9
        by_cases c10 : ((rd_T62 t105 x5_1).f0) = 1
        · rw [if_pos c10] at H
          have c10b0 : (((rd_T62 t105 x5_1).f0) == 1) = true := beq_iff_eq.mpr c10
          have c10b1 : (((rd_T62 t105 x5_1).f0) != 1) = false := bne_eq_false_iff_eq.mpr c10
          clear c10
          replace H := Option.bind_eq_some_iff.mp H
          obtain ⟨t110, A110, H⟩ := H
          replace H : (spec_Touches.l0 k1 t110 t105 (wrap64 (x5_1 + 1)) l0_0 a0_1 a0_2 l0_3) = some r := H
          have A11 := Zs0.mk A110
          clear A110
          have H' := Zs0.mk H
          clear H
          obtain ⟨Ao12, co12, eo12⟩ := Kd.N_slice HO_4.out
          subst eo12
          have p108 : 0 ≤ (x5_1 : Int) := of_decide_eq_true (by first | (with_reducible assumption) | assumption)
          have q108 : x5_1 < (t105.length : Int) := of_decide_eq_true (by first | (with_reducible assumption) | assumption)
          obtain ⟨ad108, A108_3, c108_3, A108_4, c108_4, A108_5, c108_5, e108, hx108_0, hx108_1, hx108_2, hx108_3, hx108_4, hx108_5, hl108_3, hi108_3, hl108_4, hi108_4, hl108_5, hi108_5⟩ := at_T62 (Kd.N_reads' HO_4.out).2.2 x5_1 p108 q108
          cases e108
          obtain ⟨ce108, hce108, hMe108, hcc108⟩ := Kd.N_get HO_4.out z62 x5_1 p108 (by first | exact q108 | exact of_decide_eq_true (by first | (with_reducible assumption) | assumption) | (have e_ := (Kd.N_reads' HO_4.out).1; omega))
          obtain ⟨ua108_3, uc108_3, ua108_4, uc108_4, ua108_5, uc108_5, rfl, ul108_3, ge108_3, ul108_4, ge108_4, ul108_5, ge108_5⟩ := k62_openF hMe108
          have hv108_3 := hcc108 3 _ rfl
          rw [add_field _ _ 3 (by omega)] at hv108_3
          replace hv108_3 := Option.some.inj (hv108_3.symm.trans hx108_3)
          injection hv108_3 with hva_ hvn_ hvc_
          rw [hva_] at ge108_3
          rw [hvc_] at ul108_3
          have HL108_3 := Zs0.mk (show Kd.V k29 29 _ w.heap.size _ _ ((rd_T62 t105 x5_1).f3) from Kd.V_mk ul108_3 ge108_3)
          clear hva_ hvn_ hvc_ ge108_3 ul108_3
          have hv108_4 := hcc108 4 _ rfl
          rw [add_field _ _ 4 (by omega)] at hv108_4
          replace hv108_4 := Option.some.inj (hv108_4.symm.trans hx108_4)
          injection hv108_4 with hva_ hvn_ hvc_
          rw [hva_] at ge108_4
          rw [hvc_] at ul108_4
          have HL108_4 := Zs0.mk (show Kd.V k62 62 _ w.heap.size _ _ ((rd_T62 t105 x5_1).f4) from Kd.V_mk ul108_4 ge108_4)
          clear hva_ hvn_ hvc_ ge108_4 ul108_4
          have hv108_5 := hcc108 5 _ rfl
          rw [add_field _ _ 5 (by omega)] at hv108_5
          replace hv108_5 := Option.some.inj (hv108_5.symm.trans hx108_5)
          injection hv108_5 with hva_ hvn_ hvc_
          rw [hva_] at ge108_5
          rw [hvc_] at ul108_5
          have HL108_5 := Zs0.mk (show Kd.V k62 62 _ w.heap.size _ _ ((rd_T62 t105 x5_1).f5) from Kd.V_mk ul108_5 ge108_5)
          clear hva_ hvn_ hvc_ ge108_5 ul108_5
          clear hcc108 hce108
          have HR108_3 := Zs0.mk hi108_3
          have HC108_3 := Zs0.mk hl108_3
          clear hi108_3 hl108_3
          have HR108_4 := Zs0.mk hi108_4
          have HC108_4 := Zs0.mk hl108_4
          clear hi108_4 hl108_4
          have HR108_5 := Zs0.mk hi108_5
          have HC108_5 := Zs0.mk hl108_5
          clear hi108_5 hl108_5
          replace p108 := eq_true p108
          replace q108 := eq_true q108
          have p109 : 0 ≤ (x5_1 : Int) := of_decide_eq_true (by first | (with_reducible assumption) | assumption)
          have q109 : x5_1 < (t105.length : Int) := of_decide_eq_true (by first | (with_reducible assumption) | assumption)
          obtain ⟨ad109, A109_3, c109_3, A109_4, c109_4, A109_5, c109_5, e109, hx109_0, hx109_1, hx109_2, hx109_3, hx109_4, hx109_5, hl109_3, hi109_3, hl109_4, hi109_4, hl109_5, hi109_5⟩ := at_T62 (Kd.N_reads' HO_4.out).2.2 x5_1 p109 q109
          obtain rfl : ad108 = ad109 := (by injection e109)
          obtain ⟨ce109, hce109, hMe109, hcc109⟩ := Kd.N_get HO_4.out z62 x5_1 p109 (by first | exact q109 | exact of_decide_eq_true (by first | (with_reducible assumption) | assumption) | (have e_ := (Kd.N_reads' HO_4.out).1; omega))
          obtain ⟨ua109_3, uc109_3, ua109_4, uc109_4, ua109_5, uc109_5, rfl, ul109_3, ge109_3, ul109_4, ge109_4, ul109_5, ge109_5⟩ := k62_openF hMe109
          have hv109_3 := hcc109 3 _ rfl
          rw [add_field _ _ 3 (by omega)] at hv109_3
          replace hv109_3 := Option.some.inj (hv109_3.symm.trans hx109_3)
          injection hv109_3 with hva_ hvn_ hvc_
          rw [hva_] at ge109_3
          rw [hvc_] at ul109_3
          have HL109_3 := Zs0.mk (show Kd.V k29 29 _ w.heap.size _ _ ((rd_T62 t105 x5_1).f3) from Kd.V_mk ul109_3 ge109_3)
          clear hva_ hvn_ hvc_ ge109_3 ul109_3
          have hv109_4 := hcc109 4 _ rfl
          rw [add_field _ _ 4 (by omega)] at hv109_4
          replace hv109_4 := Option.some.inj (hv109_4.symm.trans hx109_4)
          injection hv109_4 with hva_ hvn_ hvc_
          rw [hva_] at ge109_4
          rw [hvc_] at ul109_4
          have HL109_4 := Zs0.mk (show Kd.V k62 62 _ w.heap.size _ _ ((rd_T62 t105 x5_1).f4) from Kd.V_mk ul109_4 ge109_4)
          clear hva_ hvn_ hvc_ ge109_4 ul109_4
          have hv109_5 := hcc109 5 _ rfl
          rw [add_field _ _ 5 (by omega)] at hv109_5
          replace hv109_5 := Option.some.inj (hv109_5.symm.trans hx109_5)
          injection hv109_5 with hva_ hvn_ hvc_
          rw [hva_] at ge109_5
          rw [hvc_] at ul109_5
          have HL109_5 := Zs0.mk (show Kd.V k62 62 _ w.heap.size _ _ ((rd_T62 t105 x5_1).f5) from Kd.V_mk ul109_5 ge109_5)
          clear hva_ hvn_ hvc_ ge109_5 ul109_5
          clear hcc109 hce109
          have HR109_3 := Zs0.mk hi109_3
          have HC109_3 := Zs0.mk hl109_3
          clear hi109_3 hl109_3
          have HR109_4 := Zs0.mk hi109_4
          have HC109_4 := Zs0.mk hl109_4
          clear hi109_4 hl109_4
          have HR109_5 := Zs0.mk hi109_5
          have HC109_5 := Zs0.mk hl109_5
          clear hi109_5 hl109_5
          replace p109 := eq_true p109
          replace q109 := eq_true q109
          have ea_ := Option.some.inj (hx108_3.symm.trans hx109_3)
          injection ea_ with ea_ en_ ec_
          subst ea_
          subst ec_
          clear en_
          have ea_ := Option.some.inj (hx108_4.symm.trans hx109_4)
          injection ea_ with ea_ en_ ec_
          subst ea_
          subst ec_
          clear en_
          have ea_ := Option.some.inj (hx108_5.symm.trans hx109_5)
          injection ea_ with ea_ en_ ec_
          subst ea_
          subst ec_
          clear en_
          obtain ⟨Ao13, co13, eo13⟩ := Kd.R_slice HO_3.out
          subst eo13
          go_wp2_with (first | ((with_reducible refine gtC (f := 54) rfl ?_); refine goesL_ (some 30) rfl rfl Try.func54 (by kernel_rfl) rfl #[.slice Ao13 x3_1.length co13, .int .i64 ((rd_T62 t105 x5_1).f1)] rfl (by (try simp only [List.map_toArray, List.map_cons, List.map_nil]); first | done | rfl | (simp only [List.length_drop, List.length_take]; rfl)) ?_; (with_reducible refine (spec_l02Add.calls k1 _ _ x3_1 ((rd_T62 t105 x5_1).f1) t110 _ ?side1 ?side2 A11.out).mono ?_); (case side1 => repeat (first | exact (Kd.R_reads' HO_3.out).2.2 | (with_reducible refine Kd.C_alloc ?_ _) | (with_reducible refine Kd.C_drewN ?_ _) | (with_reducible refine Kd.C_drew ?_))); (case side2 => exact (Kd.R_reads' HO_3.out).2.1); rintro e w14 ⟨v111, rfl, ho0, hb⟩; refine ⟨_, rfl, ?_⟩; have n0_ := Zs0.mk (Kd.R_below (by (with_reducible repeat (first | apply Kd.R_alloc | apply Kd.R_drewN | apply Kd.R_drew)); exact HO_3.out) hb); have n1_ := Zs0.mk (addN ho0 (by (with_reducible repeat (first | apply Kd.N_alloc | apply Kd.N_drewN | apply Kd.N_drew)); exact HO_4.out) hb (by intro k_ hk_; first | exact hk_ | exact hk_.1 | exact hk_.2 | exact hk_.1.1 | exact hk_.1.2 | exact hk_.2.1 | exact hk_.2.2 | exact hk_.1.1.1 | exact hk_.1.1.2 | exact hk_.1.2.1 | exact hk_.1.2.2 | exact hk_.2.1.1 | exact hk_.2.1.2 | exact hk_.2.2.1 | exact hk_.2.2.2 | exact hk_.1.1.1.1 | exact hk_.1.1.1.2 | exact hk_.1.1.2.1 | exact hk_.1.1.2.2 | exact hk_.1.2.1.1 | exact hk_.1.2.1.2 | exact hk_.1.2.2.1 | exact hk_.1.2.2.2 | exact hk_.2.1.1.1 | exact hk_.2.1.1.2 | exact hk_.2.1.2.1 | exact hk_.2.1.2.2 | exact hk_.2.2.1.1 | exact hk_.2.2.1.2 | exact hk_.2.2.2.1 | exact hk_.2.2.2.2)); have n2_ := Zs0.mk (trivial); have n3_ := Zs0.mk (trivial); have n4_ := Zs0.mk (trivial); have n5_ := Zs0.mk (trivial); have n6_ := Zs0.mk (trivial); have n7_ := Zs0.mk (trivial); have n8_ := Zs0.mk (add_newR ho0 (by (with_reducible repeat (first | apply Kd.R_alloc | apply Kd.R_drewN | apply Kd.R_drew)); exact HO_3.out) (blZ (by repeat (first | (with_reducible first | exact HB.out | apply blA | apply pbN | apply bl1 | refine blS ?_ GE101.out) | exact HB.out))) hb); have n9_ := Zs0.mk (blk_below (g := gb101) (o := .cells #[.slice A0_0 l0_0.length c0_0, .int .i64 a0_1, .int .i64 a0_2, .slice A0_3 l0_3.length c0_3] 40 (0, 0)) (by (with_reducible repeat (first | refine bkN ?_ _ | refine bk1 ?_ | refine bkA ?_ _)); exact BK101.out) hb); have n10_ := Zs0.mk (Kd.C_below (by repeat (first | (with_reducible exact HR108_3.out) | (with_reducible refine Kd.C_alloc ?_ _) | (with_reducible refine Kd.C_drewN ?_ _) | (with_reducible refine Kd.C_drew ?_) | exact HR108_3.out)) hb); have n11_ := Zs0.mk (Kd.C_below (by repeat (first | (with_reducible exact HR108_4.out) | (with_reducible refine Kd.C_alloc ?_ _) | (with_reducible refine Kd.C_drewN ?_ _) | (with_reducible refine Kd.C_drew ?_) | exact HR108_4.out)) hb); have n12_ := Zs0.mk (Kd.C_below (by repeat (first | (with_reducible exact HR108_5.out) | (with_reducible refine Kd.C_alloc ?_ _) | (with_reducible refine Kd.C_drewN ?_ _) | (with_reducible refine Kd.C_drew ?_) | exact HR108_5.out)) hb); have n13_ := Zs0.mk (Kd.C_below (by repeat (first | (with_reducible exact HR109_3.out) | (with_reducible refine Kd.C_alloc ?_ _) | (with_reducible refine Kd.C_drewN ?_ _) | (with_reducible refine Kd.C_drew ?_) | exact HR109_3.out)) hb); have n14_ := Zs0.mk (Kd.C_below (by repeat (first | (with_reducible exact HR109_4.out) | (with_reducible refine Kd.C_alloc ?_ _) | (with_reducible refine Kd.C_drewN ?_ _) | (with_reducible refine Kd.C_drew ?_) | exact HR109_4.out)) hb); have n15_ := Zs0.mk (Kd.C_below (by repeat (first | (with_reducible exact HR109_5.out) | (with_reducible refine Kd.C_alloc ?_ _) | (with_reducible refine Kd.C_drewN ?_ _) | (with_reducible refine Kd.C_drew ?_) | exact HR109_5.out)) hb); have n16_ := Zs0.mk (blT (by repeat (first | (with_reducible first | exact HB.out | apply blA | apply pbN | apply bl1 | refine blS ?_ GE101.out) | exact HB.out)) hb); clear HO_3; clear HO_4; clear HL108_3; clear HL108_4; clear HL108_5; clear HL109_3; clear HL109_4; clear HL109_5; clear BK101; clear HR108_3; clear HR108_4; clear HR108_5; clear HR109_3; clear HR109_4; clear HR109_5; clear HB; have HO_3 := n0_; have HO_4 := n1_; have HL108_3 := n2_; have HL108_4 := n3_; have HL108_5 := n4_; have HL109_3 := n5_; have HL109_4 := n6_; have HL109_5 := n7_; have HO112 := n8_; have BK101 := n9_; have HR108_3 := n10_; have HR108_4 := n11_; have HR108_5 := n12_; have HR109_3 := n13_; have HR109_4 := n14_; have HR109_5 := n15_; have HB := n16_; clear n0_ n1_ n2_ n3_ n4_ n5_ n6_ n7_ n8_ n9_ n10_ n11_ n12_ n13_ n14_ n15_ n16_; (try clear hb); (try clear hb2); (try clear hk); (try clear hi); (try clear ho0)))
          go_roundg k1
          case measure => have := HK1.out; omega
          case rel => exact ⟨(t110), (wrap64 (x5_1 + 1)), (by first | rfl | (simp; done) | (simp [*]; done)), H', ⟨by have := HK1.out; omega⟩, ⟨by (with_reducible repeat (first | apply Kd.R_alloc | apply Kd.R_drewN | apply Kd.R_drew)); exact Kd.R_mono HO112.out (fun _ hk => trivial)⟩, ⟨by (with_reducible repeat (first | apply Kd.N_alloc | apply Kd.N_drewN | apply Kd.N_drew)); exact Kd.N_mono HO_4.out (fun _ hk => ⟨hk.2, hk.1.2⟩)⟩, ⟨by (with_reducible repeat (first | refine bkN ?_ _ | refine bk1 ?_ | refine bkA ?_ _)); exact BK101.out⟩, ⟨by repeat (first | (with_reducible first | exact HB.out | apply blA | apply pbN | apply bl1 | refine blS ?_ GE101.out) | exact HB.out)⟩⟩
        · rw [if_neg c10] at H
          have c10b0 : (((rd_T62 t105 x5_1).f0) == 1) = false := beq_eq_false_iff_ne.mpr c10
          have c10b1 : (((rd_T62 t105 x5_1).f0) != 1) = true := bne_iff_ne.mpr c10
          have H' := Zs0.mk H
          clear H
          obtain ⟨Ao15, co15, eo15⟩ := Kd.N_slice HO_4.out
          subst eo15
          have p108 : 0 ≤ (x5_1 : Int) := of_decide_eq_true (by first | (with_reducible assumption) | assumption)
          have q108 : x5_1 < (t105.length : Int) := of_decide_eq_true (by first | (with_reducible assumption) | assumption)
          obtain ⟨ad108, A108_3, c108_3, A108_4, c108_4, A108_5, c108_5, e108, hx108_0, hx108_1, hx108_2, hx108_3, hx108_4, hx108_5, hl108_3, hi108_3, hl108_4, hi108_4, hl108_5, hi108_5⟩ := at_T62 (Kd.N_reads' HO_4.out).2.2 x5_1 p108 q108
          cases e108
          obtain ⟨ce108, hce108, hMe108, hcc108⟩ := Kd.N_get HO_4.out z62 x5_1 p108 (by first | exact q108 | exact of_decide_eq_true (by first | (with_reducible assumption) | assumption) | (have e_ := (Kd.N_reads' HO_4.out).1; omega))
          obtain ⟨ua108_3, uc108_3, ua108_4, uc108_4, ua108_5, uc108_5, rfl, ul108_3, ge108_3, ul108_4, ge108_4, ul108_5, ge108_5⟩ := k62_openF hMe108
          have hv108_3 := hcc108 3 _ rfl
          rw [add_field _ _ 3 (by omega)] at hv108_3
          replace hv108_3 := Option.some.inj (hv108_3.symm.trans hx108_3)
          injection hv108_3 with hva_ hvn_ hvc_
          rw [hva_] at ge108_3
          rw [hvc_] at ul108_3
          have HL108_3 := Zs0.mk (show Kd.V k29 29 _ w.heap.size _ _ ((rd_T62 t105 x5_1).f3) from Kd.V_mk ul108_3 ge108_3)
          clear hva_ hvn_ hvc_ ge108_3 ul108_3
          have hv108_4 := hcc108 4 _ rfl
          rw [add_field _ _ 4 (by omega)] at hv108_4
          replace hv108_4 := Option.some.inj (hv108_4.symm.trans hx108_4)
          injection hv108_4 with hva_ hvn_ hvc_
          rw [hva_] at ge108_4
          rw [hvc_] at ul108_4
          have HL108_4 := Zs0.mk (show Kd.V k62 62 _ w.heap.size _ _ ((rd_T62 t105 x5_1).f4) from Kd.V_mk ul108_4 ge108_4)
          clear hva_ hvn_ hvc_ ge108_4 ul108_4
          have hv108_5 := hcc108 5 _ rfl
          rw [add_field _ _ 5 (by omega)] at hv108_5
          replace hv108_5 := Option.some.inj (hv108_5.symm.trans hx108_5)
          injection hv108_5 with hva_ hvn_ hvc_
          rw [hva_] at ge108_5
          rw [hvc_] at ul108_5
          have HL108_5 := Zs0.mk (show Kd.V k62 62 _ w.heap.size _ _ ((rd_T62 t105 x5_1).f5) from Kd.V_mk ul108_5 ge108_5)
          clear hva_ hvn_ hvc_ ge108_5 ul108_5
          clear hcc108 hce108
          have HR108_3 := Zs0.mk hi108_3
          have HC108_3 := Zs0.mk hl108_3
          clear hi108_3 hl108_3
          have HR108_4 := Zs0.mk hi108_4
          have HC108_4 := Zs0.mk hl108_4
          clear hi108_4 hl108_4
          have HR108_5 := Zs0.mk hi108_5
          have HC108_5 := Zs0.mk hl108_5
          clear hi108_5 hl108_5
          replace p108 := eq_true p108
          replace q108 := eq_true q108
          go_wp2
          go_roundg k1
          case measure => have := HK1.out; omega
          case rel => exact ⟨(x3_1), (wrap64 (x5_1 + 1)), (by first | rfl | (simp; done) | (simp [*]; done)), H', ⟨by have := HK1.out; omega⟩, ⟨by (with_reducible repeat (first | apply Kd.R_alloc | apply Kd.R_drewN | apply Kd.R_drew)); exact HO_3.out⟩, ⟨by (with_reducible repeat (first | apply Kd.N_alloc | apply Kd.N_drewN | apply Kd.N_drew)); exact HO_4.out⟩, ⟨by (with_reducible repeat (first | refine bkN ?_ _ | refine bk1 ?_ | refine bkA ?_ _)); exact BK101.out⟩, ⟨by repeat (first | (with_reducible first | exact HB.out | apply blA | apply pbN | apply bl1 | refine blS ?_ GE101.out) | exact HB.out)⟩⟩
      · rw [if_neg c8] at H
        have c8b0 : decide (x5_1 < (t105.length : Int)) = false := decide_eq_false c8
        clear c8
        replace H := Option.bind_eq_some_iff.mp H
        obtain ⟨t113, A160, H⟩ := H
        replace H : (spec_Touches.l1 k1 x3_1 t113 0) = some r := H
        have A16 := Zs0.mk A160
        clear A160
        have H' := Zs0.mk H
        clear H
        obtain ⟨Ao17, co17, eo17⟩ := Kd.N_slice HO_4.out
        subst eo17
        obtain ⟨hcz18_0, hcz18_1, hcz18_2, hcz18_3, hfz18_0, hfz18_1, hfz18_2, hfz18_3⟩ := bx4 BK101.out
        go_wp2_with (first | ((with_reducible refine gtC (f := 40) rfl ?_); refine goesL_ (some 32) rfl rfl Try.func40 (by kernel_rfl) rfl #[.agg #[.slice A0_0 l0_0.length c0_0, .int .i64 a0_1, .int .i64 a0_2, .slice A0_3 l0_3.length c0_3]] rfl (by (try simp only [List.map_toArray, List.map_cons, List.map_nil]); first | done | rfl | (simp only [List.length_drop, List.length_take]; rfl)) ?_; (with_reducible refine (spec_l02All.calls k1 _ _ l0_0 a0_1 a0_2 (fun k_ => k_ < w.heap.size) _ _ l0_3 t113 _ ?side1 ?side2 ?side3 A16.out).mono ?_); (case side1 => repeat (first | exact (Kd.C_below HR0_0.out HB.out) | (with_reducible refine Kd.C_alloc ?_ _) | (with_reducible refine Kd.C_drewN ?_ _) | (with_reducible refine Kd.C_drew ?_))); (case side2 => exact HC0_0.out); (case side3 => exact Kd.V_mk HC0_3.out (Kd.F_below (Kd.C_F k62_heap HR0_3.out) (by repeat (first | (with_reducible first | exact HB.out | apply blA | apply pbN | apply bl1 | refine blS ?_ GE101.out) | exact HB.out)))); rintro e w19 ⟨v114, rfl, ho0, hb⟩; refine ⟨_, rfl, ?_⟩; have n0_ := Zs0.mk (Kd.R_below (by (with_reducible repeat (first | apply Kd.R_alloc | apply Kd.R_drewN | apply Kd.R_drew)); exact HO_3.out) hb); have n1_ := Zs0.mk (Kd.N_elder' (by (with_reducible repeat (first | apply Kd.N_alloc | apply Kd.N_drewN | apply Kd.N_drew)); exact HO_4.out) (Kd.N_base ho0) hb); have n2_ := Zs0.mk (Kd.N_lower (Kd.N_mono (ok' := fun k_ => some k_ ≠ (u3 : Value).ownBlock ∧ some k_ ≠ (.slice Ao17 t105.length co17 : Value).ownBlock ∧ k_ ≠ gb101) ho0 (fun k_ hk_ => ⟨Or.elim hk_ (fun hs_ => fun e_ => Nat.not_le.2 hs_ (Kd.R_base HO_3.out k_ e_.symm)) (fun hn_ => (Kd.fresh' (Kd.R_lt (by (with_reducible repeat (first | apply Kd.R_alloc | apply Kd.R_drewN | apply Kd.R_drew)); exact HO_3.out)) k_ hn_)), Or.elim hk_ (fun hs_ => fun e_ => Nat.not_le.2 hs_ (Kd.N_base HO_4.out k_ e_.symm)) (fun hn_ => (Kd.fresh' (Kd.N_lt (by (with_reducible repeat (first | apply Kd.N_alloc | apply Kd.N_drewN | apply Kd.N_drew)); exact HO_4.out)) k_ hn_)), Or.elim hk_ (fun hs_ => fun e_ => Nat.not_le.2 hs_ (by rw [e_]; exact GW101.out)) (fun hn_ => (Kd.freshB (g := gb101) (o := .cells #[.slice A0_0 l0_0.length c0_0, .int .i64 a0_1, .int .i64 a0_2, .slice A0_3 l0_3.length c0_3] 40 (0, 0)) (by (with_reducible repeat (first | refine bkN ?_ _ | refine bk1 ?_ | refine bkA ?_ _)); exact BK101.out) k_ hn_))⟩)) (blZ (by repeat (first | (with_reducible first | exact HB.out | apply blA | apply pbN | apply bl1 | refine blS ?_ GE101.out) | exact HB.out)))); have n3_ := Zs0.mk (blk_below (g := gb101) (o := .cells #[.slice A0_0 l0_0.length c0_0, .int .i64 a0_1, .int .i64 a0_2, .slice A0_3 l0_3.length c0_3] 40 (0, 0)) (by (with_reducible repeat (first | refine bkN ?_ _ | refine bk1 ?_ | refine bkA ?_ _)); exact BK101.out) hb); have n4_ := Zs0.mk (blT (by repeat (first | (with_reducible first | exact HB.out | apply blA | apply pbN | apply bl1 | refine blS ?_ GE101.out) | exact HB.out)) hb); clear HO_3; clear HO_4; clear BK101; clear HB; have HO_3 := n0_; have HO_4 := n1_; have HO115 := n2_; have BK101 := n3_; have HB := n4_; clear n0_ n1_ n2_ n3_ n4_; (try clear hb); (try clear hb2); (try clear hk); (try clear hi); (try clear ho0)))
        go_loopg [3, 7] k1 (fun kq v3 v7 w' => ∃ (x3_2 : List Int) (x7_2 : Int), v7 = .int .i64 x7_2 ∧ Zs0 (spec_Touches.l1 kq x3_2 t113 x7_2 = some r) ∧ Zs0 (kq ≤ k1) ∧ Zs0 (Kd.R (Kd.int .i64) 3 w' w.heap.size (fun _ => True) v3 x3_2) ∧ Zs0 (Kd.N k29 29 w' w.heap.size (fun k_ => some k_ ≠ (v3 : Value).ownBlock ∧ k_ ≠ gb101) v114 t113) ∧ Zs0 (w'.heap[gb101]? = some (.cells #[(.slice A0_0 l0_0.length c0_0), .int .i64 a0_1, .int .i64 a0_2, (.slice A0_3 l0_3.length c0_3)] 40 (0, 0))) ∧ Zs0 (Below w.heap.size w w'))
        case atStart => exact ⟨(x3_1), (0), (by first | rfl | (simp; done) | (simp [*]; done)), H', ⟨Nat.le_refl _⟩, ⟨by (with_reducible repeat (first | apply Kd.R_alloc | apply Kd.R_drewN | apply Kd.R_drew)); exact HO_3.out⟩, ⟨by (with_reducible repeat (first | apply Kd.N_alloc | apply Kd.N_drewN | apply Kd.N_drew)); exact Kd.N_mono HO115.out (fun _ hk => ⟨hk.1, hk.2.2⟩)⟩, ⟨by (with_reducible repeat (first | refine bkN ?_ _ | refine bk1 ?_ | refine bkA ?_ _)); exact BK101.out⟩, ⟨by repeat (first | (with_reducible first | exact HB.out | apply blA | apply pbN | apply bl1 | refine blS ?_ GE101.out) | exact HB.out)⟩⟩
        case round =>
          clear H'
          try clear c1
          try clear p1
          try clear q1
          try clear hx1
          try clear p2
          try clear c3
          try clear c4
          try clear c5
          try clear p6
          try clear c8
          try clear c8b0
          try clear c9
          try clear c9b0
          try clear c10
          try clear c10b0
          try clear c10b1
          try clear p10
          try clear q10
          try clear hx10
          try clear hcz18_0
          try clear hcz18_1
          try clear hcz18_2
          try clear hcz18_3
          try clear hcz6_0
          try clear hcz6_1
          try clear hcz6_2
          try clear hcz6_3
          try clear hfz18_0
          try clear hfz18_1
          try clear hfz18_2
          try clear hfz18_3
          try clear hfz6_0
          try clear hfz6_1
          try clear hfz6_2
          try clear hfz6_3
          try clear hx108_0
          try clear hx108_1
          try clear hx108_2
          try clear hx108_3
          try clear hx108_4
          try clear hx108_5
          try clear hx109_0
          try clear hx109_1
          try clear hx109_2
          try clear hx109_3
          try clear hx109_4
          try clear hx109_5
          try clear p108
          try clear p109
          try clear p2
          try clear q108
          try clear q109
          obtain ⟨x3_2, x7_2, rfl, HA, HK2, HO_3, HO_6, BK101, HB⟩ := hrel
          cases gk with
          | zero => exact absurd HA.out (by simp [spec_Touches.l1])
          | succ k2 =>
            have H := HA.out
            clear HA
            simp only [spec_Touches.l1] at H
            by_cases c20 : x7_2 < (t113.length : Int)
            · rw [if_pos c20] at H
              have c20b0 : decide (x7_2 < (t113.length : Int)) = true := decide_eq_true c20
              clear c20
              have c21 := ipos H
              rw [if_pos c21] at H
              have c21b0 := decide_eq_true c21
              clear c21
              by_cases c22 : ((rd_T29 t113 x7_2).f0) = 2
              · rw [if_pos c22] at H
                have c22b0 : (((rd_T29 t113 x7_2).f0) == 2) = true := beq_iff_eq.mpr c22
                have c22b1 : (((rd_T29 t113 x7_2).f0) != 2) = false := bne_eq_false_iff_eq.mpr c22
                clear c22
                replace H := Option.bind_eq_some_iff.mp H
                obtain ⟨t118, A230, H⟩ := H
                replace H : (spec_Touches.l1 k2 t118 t113 (wrap64 (x7_2 + 1))) = some r := H
                have A23 := Zs0.mk A230
                clear A230
                have H' := Zs0.mk H
                clear H
                obtain ⟨Ao24, co24, eo24⟩ := Kd.N_slice HO_6.out
                subst eo24
                have p116 : 0 ≤ (x7_2 : Int) := of_decide_eq_true (by first | (with_reducible assumption) | assumption)
                have q116 : x7_2 < (t113.length : Int) := of_decide_eq_true (by first | (with_reducible assumption) | assumption)
                obtain ⟨ad116, A116_4, c116_4, e116, hx116_0, hx116_1, hx116_2, hx116_3, hx116_4, hl116_4, hi116_4⟩ := at_T29 (Kd.N_reads' HO_6.out).2.2 x7_2 p116 q116
                cases e116
                obtain ⟨ce116, hce116, hMe116, hcc116⟩ := Kd.N_get HO_6.out z29 x7_2 p116 (by first | exact q116 | exact of_decide_eq_true (by first | (with_reducible assumption) | assumption) | (have e_ := (Kd.N_reads' HO_6.out).1; omega))
                obtain ⟨ua116_4, uc116_4, rfl, ul116_4, ge116_4⟩ := k29_openF hMe116
                have hv116_4 := hcc116 4 _ rfl
                rw [add_field _ _ 4 (by omega)] at hv116_4
                replace hv116_4 := Option.some.inj (hv116_4.symm.trans hx116_4)
                injection hv116_4 with hva_ hvn_ hvc_
                rw [hva_] at ge116_4
                rw [hvc_] at ul116_4
                have HL116_4 := Zs0.mk (show Kd.V k29 29 _ w.heap.size _ _ ((rd_T29 t113 x7_2).f4) from Kd.V_mk ul116_4 ge116_4)
                clear hva_ hvn_ hvc_ ge116_4 ul116_4
                clear hcc116 hce116
                have HR116_4 := Zs0.mk hi116_4
                have HC116_4 := Zs0.mk hl116_4
                clear hi116_4 hl116_4
                replace p116 := eq_true p116
                replace q116 := eq_true q116
                have p117 : 0 ≤ (x7_2 : Int) := of_decide_eq_true (by first | (with_reducible assumption) | assumption)
                have q117 : x7_2 < (t113.length : Int) := of_decide_eq_true (by first | (with_reducible assumption) | assumption)
                obtain ⟨ad117, A117_4, c117_4, e117, hx117_0, hx117_1, hx117_2, hx117_3, hx117_4, hl117_4, hi117_4⟩ := at_T29 (Kd.N_reads' HO_6.out).2.2 x7_2 p117 q117
                obtain rfl : ad116 = ad117 := (by injection e117)
                obtain ⟨ce117, hce117, hMe117, hcc117⟩ := Kd.N_get HO_6.out z29 x7_2 p117 (by first | exact q117 | exact of_decide_eq_true (by first | (with_reducible assumption) | assumption) | (have e_ := (Kd.N_reads' HO_6.out).1; omega))
                obtain ⟨ua117_4, uc117_4, rfl, ul117_4, ge117_4⟩ := k29_openF hMe117
                have hv117_4 := hcc117 4 _ rfl
                rw [add_field _ _ 4 (by omega)] at hv117_4
                replace hv117_4 := Option.some.inj (hv117_4.symm.trans hx117_4)
                injection hv117_4 with hva_ hvn_ hvc_
                rw [hva_] at ge117_4
                rw [hvc_] at ul117_4
                have HL117_4 := Zs0.mk (show Kd.V k29 29 _ w.heap.size _ _ ((rd_T29 t113 x7_2).f4) from Kd.V_mk ul117_4 ge117_4)
                clear hva_ hvn_ hvc_ ge117_4 ul117_4
                clear hcc117 hce117
                have HR117_4 := Zs0.mk hi117_4
                have HC117_4 := Zs0.mk hl117_4
                clear hi117_4 hl117_4
                replace p117 := eq_true p117
                replace q117 := eq_true q117
                have ea_ := Option.some.inj (hx116_4.symm.trans hx117_4)
                injection ea_ with ea_ en_ ec_
                subst ea_
                subst ec_
                clear en_
                obtain ⟨Ao25, co25, eo25⟩ := Kd.R_slice HO_3.out
                subst eo25
                go_wp2_with (first | ((with_reducible refine gtC (f := 54) rfl ?_); refine goesL_ (some 51) rfl rfl Try.func54 (by kernel_rfl) rfl #[.slice Ao25 x3_2.length co25, .int .i64 ((rd_T29 t113 x7_2).f1)] rfl (by (try simp only [List.map_toArray, List.map_cons, List.map_nil]); first | done | rfl | (simp only [List.length_drop, List.length_take]; rfl)) ?_; (with_reducible refine (spec_l02Add.calls k2 _ _ x3_2 ((rd_T29 t113 x7_2).f1) t118 _ ?side1 ?side2 A23.out).mono ?_); (case side1 => repeat (first | exact (Kd.R_reads' HO_3.out).2.2 | (with_reducible refine Kd.C_alloc ?_ _) | (with_reducible refine Kd.C_drewN ?_ _) | (with_reducible refine Kd.C_drew ?_))); (case side2 => exact (Kd.R_reads' HO_3.out).2.1); rintro e w26 ⟨v119, rfl, ho0, hb⟩; refine ⟨_, rfl, ?_⟩; have n0_ := Zs0.mk (Kd.R_below (by (with_reducible repeat (first | apply Kd.R_alloc | apply Kd.R_drewN | apply Kd.R_drew)); exact HO_3.out) hb); have n1_ := Zs0.mk (addN ho0 (by (with_reducible repeat (first | apply Kd.N_alloc | apply Kd.N_drewN | apply Kd.N_drew)); exact HO_6.out) hb (by intro k_ hk_; first | exact hk_ | exact hk_.1 | exact hk_.2 | exact hk_.1.1 | exact hk_.1.2 | exact hk_.2.1 | exact hk_.2.2 | exact hk_.1.1.1 | exact hk_.1.1.2 | exact hk_.1.2.1 | exact hk_.1.2.2 | exact hk_.2.1.1 | exact hk_.2.1.2 | exact hk_.2.2.1 | exact hk_.2.2.2 | exact hk_.1.1.1.1 | exact hk_.1.1.1.2 | exact hk_.1.1.2.1 | exact hk_.1.1.2.2 | exact hk_.1.2.1.1 | exact hk_.1.2.1.2 | exact hk_.1.2.2.1 | exact hk_.1.2.2.2 | exact hk_.2.1.1.1 | exact hk_.2.1.1.2 | exact hk_.2.1.2.1 | exact hk_.2.1.2.2 | exact hk_.2.2.1.1 | exact hk_.2.2.1.2 | exact hk_.2.2.2.1 | exact hk_.2.2.2.2)); have n2_ := Zs0.mk (trivial); have n3_ := Zs0.mk (trivial); have n4_ := Zs0.mk (add_newR ho0 (by (with_reducible repeat (first | apply Kd.R_alloc | apply Kd.R_drewN | apply Kd.R_drew)); exact HO_3.out) (blZ (by repeat (first | (with_reducible first | exact HB.out | apply blA | apply pbN | apply bl1 | refine blS ?_ GE101.out) | exact HB.out))) hb); have n5_ := Zs0.mk (blk_below (g := gb101) (o := .cells #[.slice A0_0 l0_0.length c0_0, .int .i64 a0_1, .int .i64 a0_2, .slice A0_3 l0_3.length c0_3] 40 (0, 0)) (by (with_reducible repeat (first | refine bkN ?_ _ | refine bk1 ?_ | refine bkA ?_ _)); exact BK101.out) hb); have n6_ := Zs0.mk (Kd.C_below (by repeat (first | (with_reducible exact HR116_4.out) | (with_reducible refine Kd.C_alloc ?_ _) | (with_reducible refine Kd.C_drewN ?_ _) | (with_reducible refine Kd.C_drew ?_) | exact HR116_4.out)) hb); have n7_ := Zs0.mk (Kd.C_below (by repeat (first | (with_reducible exact HR117_4.out) | (with_reducible refine Kd.C_alloc ?_ _) | (with_reducible refine Kd.C_drewN ?_ _) | (with_reducible refine Kd.C_drew ?_) | exact HR117_4.out)) hb); have n8_ := Zs0.mk (blT (by repeat (first | (with_reducible first | exact HB.out | apply blA | apply pbN | apply bl1 | refine blS ?_ GE101.out) | exact HB.out)) hb); clear HO_3; clear HO_6; clear HL116_4; clear HL117_4; clear BK101; clear HR116_4; clear HR117_4; clear HB; have HO_3 := n0_; have HO_6 := n1_; have HL116_4 := n2_; have HL117_4 := n3_; have HO120 := n4_; have BK101 := n5_; have HR116_4 := n6_; have HR117_4 := n7_; have HB := n8_; clear n0_ n1_ n2_ n3_ n4_ n5_ n6_ n7_ n8_; (try clear hb); (try clear hb2); (try clear hk); (try clear hi); (try clear ho0)))
                go_roundg k2
                case measure => have := HK1.out; have := HK2.out; omega
                case rel => exact ⟨(t118), (wrap64 (x7_2 + 1)), (by first | rfl | (simp; done) | (simp [*]; done)), H', ⟨by have := HK1.out; have := HK2.out; omega⟩, ⟨by (with_reducible repeat (first | apply Kd.R_alloc | apply Kd.R_drewN | apply Kd.R_drew)); exact Kd.R_mono HO120.out (fun _ hk => trivial)⟩, ⟨by (with_reducible repeat (first | apply Kd.N_alloc | apply Kd.N_drewN | apply Kd.N_drew)); exact Kd.N_mono HO_6.out (fun _ hk => ⟨hk.2, hk.1.2⟩)⟩, ⟨by (with_reducible repeat (first | refine bkN ?_ _ | refine bk1 ?_ | refine bkA ?_ _)); exact BK101.out⟩, ⟨by repeat (first | (with_reducible first | exact HB.out | apply blA | apply pbN | apply bl1 | refine blS ?_ GE101.out) | exact HB.out)⟩⟩
              · rw [if_neg c22] at H
                have c22b0 : (((rd_T29 t113 x7_2).f0) == 2) = false := beq_eq_false_iff_ne.mpr c22
                have c22b1 : (((rd_T29 t113 x7_2).f0) != 2) = true := bne_iff_ne.mpr c22
                have H' := Zs0.mk H
                clear H
                obtain ⟨Ao27, co27, eo27⟩ := Kd.N_slice HO_6.out
                subst eo27
                have p116 : 0 ≤ (x7_2 : Int) := of_decide_eq_true (by first | (with_reducible assumption) | assumption)
                have q116 : x7_2 < (t113.length : Int) := of_decide_eq_true (by first | (with_reducible assumption) | assumption)
                obtain ⟨ad116, A116_4, c116_4, e116, hx116_0, hx116_1, hx116_2, hx116_3, hx116_4, hl116_4, hi116_4⟩ := at_T29 (Kd.N_reads' HO_6.out).2.2 x7_2 p116 q116
                cases e116
                obtain ⟨ce116, hce116, hMe116, hcc116⟩ := Kd.N_get HO_6.out z29 x7_2 p116 (by first | exact q116 | exact of_decide_eq_true (by first | (with_reducible assumption) | assumption) | (have e_ := (Kd.N_reads' HO_6.out).1; omega))
                obtain ⟨ua116_4, uc116_4, rfl, ul116_4, ge116_4⟩ := k29_openF hMe116
                have hv116_4 := hcc116 4 _ rfl
                rw [add_field _ _ 4 (by omega)] at hv116_4
                replace hv116_4 := Option.some.inj (hv116_4.symm.trans hx116_4)
                injection hv116_4 with hva_ hvn_ hvc_
                rw [hva_] at ge116_4
                rw [hvc_] at ul116_4
                have HL116_4 := Zs0.mk (show Kd.V k29 29 _ w.heap.size _ _ ((rd_T29 t113 x7_2).f4) from Kd.V_mk ul116_4 ge116_4)
                clear hva_ hvn_ hvc_ ge116_4 ul116_4
                clear hcc116 hce116
                have HR116_4 := Zs0.mk hi116_4
                have HC116_4 := Zs0.mk hl116_4
                clear hi116_4 hl116_4
                replace p116 := eq_true p116
                replace q116 := eq_true q116
                go_wp2
                go_roundg k2
                case measure => have := HK1.out; have := HK2.out; omega
                case rel => exact ⟨(x3_2), (wrap64 (x7_2 + 1)), (by first | rfl | (simp; done) | (simp [*]; done)), H', ⟨by have := HK1.out; have := HK2.out; omega⟩, ⟨by (with_reducible repeat (first | apply Kd.R_alloc | apply Kd.R_drewN | apply Kd.R_drew)); exact HO_3.out⟩, ⟨by (with_reducible repeat (first | apply Kd.N_alloc | apply Kd.N_drewN | apply Kd.N_drew)); exact HO_6.out⟩, ⟨by (with_reducible repeat (first | refine bkN ?_ _ | refine bk1 ?_ | refine bkA ?_ _)); exact BK101.out⟩, ⟨by repeat (first | (with_reducible first | exact HB.out | apply blA | apply pbN | apply bl1 | refine blS ?_ GE101.out) | exact HB.out)⟩⟩
            · rw [if_neg c20] at H
              have c20b0 : decide (x7_2 < (t113.length : Int)) = false := decide_eq_false c20
              clear c20
              obtain rfl := Option.some.inj H
              obtain ⟨Ao28, co28, eo28⟩ := Kd.N_slice HO_6.out
              subst eo28
              go_wp2
              go_ret
              exact ⟨_, by first | rfl | (simp [eWn, eWs] <;> rfl) | (simp [*, eWn, eWs] <;> rfl), by (with_reducible repeat (first | apply Kd.R_alloc | apply Kd.R_drewN | apply Kd.R_drew)); exact HO_3.out, by repeat (first | (with_reducible first | exact HB.out | apply blA | apply pbN | apply bl1 | refine blS ?_ GE101.out) | exact HB.out)⟩

end Go.Proofs.Ytjcggilkfofiaaa.P
