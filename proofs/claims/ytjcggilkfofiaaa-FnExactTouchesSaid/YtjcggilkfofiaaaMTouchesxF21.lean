/- Printed by a program over this seat's translation: a Lean function for each Go function, and that the Go code comes to its answers. -/
import Derived.Test.YtjcggilkfofiaaaMTouches0a
import Derived.Test.YtjcggilkfofiaaaMTouches0d
import Derived.Test.YtjcggilkfofiaaaMTouchesxF54
namespace Go.Proofs.Ytjcggilkfofiaaa.P
open Go.RowKit Go.Proofs.YtjcggilkfofiaaaW.PrintWords Go.Proofs.YtjcggilkfofiaaaW.PrintLast Go.Proofs.YtjcggilkfofiaaaW.PrintMore
attribute [local go_sem] max2_int min2_int max_two min_two max_three min_three max_four min_four   -- for this text's walks alone
set_option linter.unusedVariables false
set_option linter.unusedSimpArgs false

/-! ### spec_VarsOf: function 21 -/
def spec_VarsOf.l0 : Nat → List Int → List (S29) → Int → Option (List Int)
  | 0, _, _, _ => none
  | k + 1, x3, x4, x5 => if x5 < (x4.length : Int) then (if 0 ≤ x5 then (if ((rd_T29 x4 x5).f0) = 1 then ((spec_l02Add.f k x3 ((rd_T29 x4 x5).f1)).bind fun t110 => (if ((rd_T29 x4 x5).f0) = 2 then (if ((rd_T29 x4 x5).f2) ≥ 0 then ((spec_l02Add.f k t110 ((rd_T29 x4 x5).f2)).bind fun t116 => (spec_VarsOf.l0 k t116 x4 (wrap64 (x5 + 1)))) else (spec_VarsOf.l0 k t110 x4 (wrap64 (x5 + 1)))) else (spec_VarsOf.l0 k t110 x4 (wrap64 (x5 + 1))))) else (if ((rd_T29 x4 x5).f0) = 2 then (if ((rd_T29 x4 x5).f2) ≥ 0 then ((spec_l02Add.f k x3 ((rd_T29 x4 x5).f2)).bind fun t122 => (spec_VarsOf.l0 k t122 x4 (wrap64 (x5 + 1)))) else (spec_VarsOf.l0 k x3 x4 (wrap64 (x5 + 1)))) else (spec_VarsOf.l0 k x3 x4 (wrap64 (x5 + 1))))) else (none)) else (some x3)
def spec_VarsOf.f (k : Nat) (a0_0 : Int) (a0_1 : Int) (a0_2 : Int) (a0_3 : ByteArray) (l0_4 : List (S29)) : Option (List Int) := (spec_l02Exps.f k a0_0 a0_1 a0_2 a0_3 l0_4).bind fun t105 => (spec_VarsOf.l0 k (([] : List Int)) t105 0)
theorem spec_VarsOf.mono_l : ∀ k, (∀ y0 y1 y2, LeO (spec_VarsOf.l0 k y0 y1 y2) (spec_VarsOf.l0 (k + 1) y0 y1 y2))
  | 0 => fun _ _ _ r h => by simp [spec_VarsOf.l0] at h
  | k + 1 => by
    have ih0 := spec_VarsOf.mono_l k
    · intro y0 y1 y2
      unfold spec_VarsOf.l0
      repeat' first
      | (with_reducible exact ih0 _ _ _)
      | (with_reducible exact spec_l02Add.mono _ _ _)
      | (with_reducible exact spec_l02Exps.mono _ _ _ _ _ _)
      | (with_reducible exact LeO.refl _)
      | (with_reducible exact LeO.none _)
      | (with_reducible refine LeO.ite ?_ ?_)
      | (with_reducible refine LeO.bind ?_ (fun _ => ?_))
      | exact ih0 _ _ _
      | exact spec_l02Add.mono _ _ _
      | exact spec_l02Exps.mono _ _ _ _ _ _
      | exact LeO.none _
      | refine LeO.ite ?_ ?_
      | refine LeO.bind ?_ (fun _ => ?_)
theorem spec_VarsOf.mono : ∀ a0 a1 a2 a3 a4 k, LeO (spec_VarsOf.f k a0 a1 a2 a3 a4) (spec_VarsOf.f (k + 1) a0 a1 a2 a3 a4) := by
  intro a0 a1 a2 a3 a4 k
  have ih0 := spec_VarsOf.mono_l k
  unfold spec_VarsOf.f
  repeat' first
      | (with_reducible exact ih0 _ _ _)
      | (with_reducible exact spec_l02Add.mono _ _ _)
      | (with_reducible exact spec_l02Exps.mono _ _ _ _ _ _)
      | (with_reducible exact LeO.refl _)
      | (with_reducible exact LeO.none _)
      | (with_reducible refine LeO.ite ?_ ?_)
      | (with_reducible refine LeO.bind ?_ (fun _ => ?_))
      | exact ih0 _ _ _
      | exact spec_l02Add.mono _ _ _
      | exact spec_l02Exps.mono _ _ _ _ _ _
      | exact LeO.none _
      | refine LeO.ite ?_ ?_
      | refine LeO.bind ?_ (fun _ => ?_)
set_option maxHeartbeats 8000000 in
set_option maxRecDepth 100000 in
theorem spec_VarsOf.calls (k : Nat) (a0_0 : Int) (a0_1 : Int) (a0_2 : Int) (a0_3 : ByteArray) (A0_4 : Option Addr) (c0_4 : Nat) (l0_4 : List (S29)) (r : List Int) (w : World) (hr0_4 : Kd.C k29 w A0_4 l0_4.length l0_4) (hc0_4 : l0_4.length ≤ c0_4) (h : spec_VarsOf.f k a0_0 a0_1 a0_2 a0_3 l0_4 = some r) :
    Calls Try.prog 21 #[.agg #[.int .i64 a0_0, .int .i64 a0_1, .int .i64 a0_2, .string a0_3, .slice A0_4 l0_4.length c0_4]] w fun e w' => ∃ v0_ : Value, e = .returned (v0_) ∧ Kd.R (Kd.int .i64) 3 w' w.heap.size (fun _ => True) v0_ r ∧ Below w.heap.size w w' := by
  have hu29 := Try.underlying29
  have HR0_4 := Zs0.mk hr0_4
  have HC0_4 := Zs0.mk hc0_4
  clear hr0_4 hc0_4
  have HB := Zs0.mk (Below.refl w.heap.size w)
  have H : ((spec_l02Exps.f k a0_0 a0_1 a0_2 a0_3 l0_4).bind fun t105 => (spec_VarsOf.l0 k (([] : List Int)) t105 0)) = some r := h
  clear h
  obtain ⟨y102, hy102⟩ : ∃ y_ : List Int, y_ = (([] : List Int)) := ⟨_, rfl⟩
  replace H : ((spec_l02Exps.f k a0_0 a0_1 a0_2 a0_3 l0_4).bind fun t105 => (spec_VarsOf.l0 k y102 t105 0)) = some r := by first | (rw [hy102]; with_reducible exact H) | (have H2_ := (Option.bind_some _ _).symm.trans H; rw [hy102]; with_reducible exact H2_) | (have H2_ := (Option.bind_some _ _).symm.trans H; with_reducible exact H2_) | with_reducible exact H | (rw [hy102]; exact H) | exact H
  have Ny102 := Zs0.mk hy102
  clear hy102
  replace H := Option.bind_eq_some_iff.mp H
  obtain ⟨t105, A20, H⟩ := H
  replace H : (spec_VarsOf.l0 k y102 t105 0) = some r := H
  have A2 := Zs0.mk A20
  clear A20
  have H' := Zs0.mk H
  clear H
  go_enter Try.func21, Try.ntmps21
  go_wp2_with (first | ((with_reducible refine gtD (N := 1) rfl ?_); refine box_event ?hg (N := 1) ?hd (cs := #[.int .i64 a0_0, .int .i64 a0_1, .int .i64 a0_2, .string a0_3, .slice A0_4 l0_4.length c0_4]) (t := 29) ?hr ?_; (case hd => rfl); (case hg => rfl); (case hr => first | (go_simp; done) | (go_simp; rfl)); intro gb101 hg w3 hbox hb; have n0_ := Zs0.mk (blT (by repeat (first | (with_reducible first | exact HB.out | apply blA | apply pbN | apply bl1) | exact HB.out)) hb); have n1_ := Zs0.mk (hbox); have n2_ := Zs0.mk ((by rw [hg]; exact (blZ (by repeat (first | (with_reducible first | exact HB.out | apply blA | apply pbN | apply bl1) | exact HB.out))) : w.heap.size ≤ gb101)); have n3_ := Zs0.mk ((by rw [hg]; exact (blZ (by repeat (first | (with_reducible first | exact HB.out | apply blA | apply pbN | apply bl1) | exact HB.out))) : w.heap.size ≤ gb101)); clear HB; have HB := n0_; have BK101 := n1_; have GW101 := n2_; have GE101 := n3_; clear n0_ n1_ n2_ n3_; clear hb hbox hg) | ((with_reducible refine gtD (N := 6) rfl ?_); refine Kd.R_lit (Kd.int .i64) _ 3 ?hg (N := 6) ?hd (xs := ([] : List Int)) (inner := []) (ok := fun _ => True) (okp := fun _ => True) ?hr ?hp (fun _ hk => hk) trivial (Below.refl _ _) (Nat.le_refl _) (by simp) ?_; (case hd => rfl); (case hg => rfl); (case hr => first | (go_simp; done) | (go_simp; rfl)); (case hp => exact (Reps.none _ _)); intro v103 w4 ho5 hb hg_ hnew_; clear hg_ hnew_; (first | rw [← Ny102.out] at ho5 | (simp only [Int.reduceToNat] at ho5; rw [← Ny102.out] at ho5)); have n0_ := Zs0.mk (Kd.R_lower ho5 (blZ (by repeat (first | (with_reducible first | exact HB.out | apply blA | apply pbN | apply bl1 | refine blS ?_ GE101.out) | exact HB.out)))); have n1_ := Zs0.mk (blk_below (g := gb101) (o := .cells #[.int .i64 a0_0, .int .i64 a0_1, .int .i64 a0_2, .string a0_3, .slice A0_4 l0_4.length c0_4] 29 (0, 0)) (by (with_reducible repeat (first | refine bkN ?_ _ | refine bk1 ?_ | refine bkA ?_ _)); exact BK101.out) hb); have n2_ := Zs0.mk (blT (by repeat (first | (with_reducible first | exact HB.out | apply blA | apply pbN | apply bl1 | refine blS ?_ GE101.out) | exact HB.out)) hb); clear BK101; clear HB; have HO104 := n0_; have BK101 := n1_; have HB := n2_; clear n0_ n1_ n2_; clear hb ho5; obtain ⟨hcz6_0, hcz6_1, hcz6_2, hcz6_3, hcz6_4, hfz6_0, hfz6_1, hfz6_2, hfz6_3, hfz6_4⟩ := bx5 BK101.out) | ((with_reducible refine gtC (f := 53) rfl ?_); refine goesL_ (some 8) rfl rfl Try.func53 (by kernel_rfl) rfl #[.agg #[.int .i64 a0_0, .int .i64 a0_1, .int .i64 a0_2, .string a0_3, .slice A0_4 l0_4.length c0_4]] rfl (by (try simp only [List.map_toArray, List.map_cons, List.map_nil]); first | done | rfl | (simp only [List.length_drop, List.length_take]; rfl)) ?_; (with_reducible refine (spec_l02Exps.calls k a0_0 a0_1 a0_2 a0_3 (fun k_ => k_ < w.heap.size) _ _ l0_4 t105 _ ?side1 A2.out).mono ?_); (case side1 => exact Kd.V_mk HC0_4.out (Kd.F_below (Kd.C_F k29_heap HR0_4.out) (by repeat (first | (with_reducible first | exact HB.out | apply blA | apply pbN | apply bl1 | refine blS ?_ GE101.out) | exact HB.out)))); rintro e w7 ⟨v106, rfl, ho0, hb⟩; refine ⟨_, rfl, ?_⟩; have n0_ := Zs0.mk (Kd.R_below (by (with_reducible repeat (first | apply Kd.R_alloc | apply Kd.R_drewN | apply Kd.R_drew)); exact HO104.out) hb); have n1_ := Zs0.mk (Kd.N_lower (Kd.N_mono (ok' := fun k_ => some k_ ≠ (v103 : Value).ownBlock ∧ k_ ≠ gb101) ho0 (fun k_ hk_ => ⟨Or.elim hk_ (fun hs_ => fun e_ => Nat.not_le.2 hs_ (Kd.R_base HO104.out k_ e_.symm)) (fun hn_ => (Kd.fresh' (Kd.R_lt (by (with_reducible repeat (first | apply Kd.R_alloc | apply Kd.R_drewN | apply Kd.R_drew)); exact HO104.out)) k_ hn_)), Or.elim hk_ (fun hs_ => fun e_ => Nat.not_le.2 hs_ (by rw [e_]; exact GW101.out)) (fun hn_ => (Kd.freshB (g := gb101) (o := .cells #[.int .i64 a0_0, .int .i64 a0_1, .int .i64 a0_2, .string a0_3, .slice A0_4 l0_4.length c0_4] 29 (0, 0)) (by (with_reducible repeat (first | refine bkN ?_ _ | refine bk1 ?_ | refine bkA ?_ _)); exact BK101.out) k_ hn_))⟩)) (blZ (by repeat (first | (with_reducible first | exact HB.out | apply blA | apply pbN | apply bl1 | refine blS ?_ GE101.out) | exact HB.out)))); have n2_ := Zs0.mk (blk_below (g := gb101) (o := .cells #[.int .i64 a0_0, .int .i64 a0_1, .int .i64 a0_2, .string a0_3, .slice A0_4 l0_4.length c0_4] 29 (0, 0)) (by (with_reducible repeat (first | refine bkN ?_ _ | refine bk1 ?_ | refine bkA ?_ _)); exact BK101.out) hb); have n3_ := Zs0.mk (blT (by repeat (first | (with_reducible first | exact HB.out | apply blA | apply pbN | apply bl1 | refine blS ?_ GE101.out) | exact HB.out)) hb); clear HO104; clear BK101; clear HB; have HO104 := n0_; have HO107 := n1_; have BK101 := n2_; have HB := n3_; clear n0_ n1_ n2_ n3_; (try clear hb); (try clear hb2); (try clear hk); (try clear hi); (try clear ho0)))
  go_loopg [3, 5] k (fun kq v3 v5 w' => ∃ (x3_1 : List Int) (x5_1 : Int), v5 = .int .i64 x5_1 ∧ Zs0 (spec_VarsOf.l0 kq x3_1 t105 x5_1 = some r) ∧ Zs0 (kq ≤ k) ∧ Zs0 (Kd.R (Kd.int .i64) 3 w' w.heap.size (fun _ => True) v3 x3_1) ∧ Zs0 (Kd.N k29 29 w' w.heap.size (fun k_ => some k_ ≠ (v3 : Value).ownBlock ∧ k_ ≠ gb101) v106 t105) ∧ Zs0 (w'.heap[gb101]? = some (.cells #[.int .i64 a0_0, .int .i64 a0_1, .int .i64 a0_2, .string a0_3, (.slice A0_4 l0_4.length c0_4)] 29 (0, 0))) ∧ Zs0 (Below w.heap.size w w'))
  case atStart => exact ⟨(y102), (0), (by first | rfl | (simp; done) | (simp [*]; done)), H', ⟨Nat.le_refl _⟩, ⟨by (with_reducible repeat (first | apply Kd.R_alloc | apply Kd.R_drewN | apply Kd.R_drew)); exact HO104.out⟩, ⟨by (with_reducible repeat (first | apply Kd.N_alloc | apply Kd.N_drewN | apply Kd.N_drew)); exact HO107.out⟩, ⟨by (with_reducible repeat (first | refine bkN ?_ _ | refine bk1 ?_ | refine bkA ?_ _)); exact BK101.out⟩, ⟨by repeat (first | (with_reducible first | exact HB.out | apply blA | apply pbN | apply bl1 | refine blS ?_ GE101.out) | exact HB.out)⟩⟩
  case round =>
    clear H'
    try clear c2
    try clear p2
    try clear c5
    try clear hcz6_0
    try clear hcz6_1
    try clear hcz6_2
    try clear hcz6_3
    try clear hcz6_4
    try clear hfz6_0
    try clear hfz6_1
    try clear hfz6_2
    try clear hfz6_3
    try clear hfz6_4
    obtain ⟨x3_1, x5_1, rfl, HA, HK1, HO_3, HO_4, BK101, HB⟩ := hrel
    cases gk with
    | zero => exact absurd HA.out (by simp [spec_VarsOf.l0])
    | succ k1 =>
      have H := HA.out
      clear HA
      simp only [spec_VarsOf.l0] at H
      by_cases c8 : x5_1 < (t105.length : Int)
      · rw [if_pos c8] at H
        have c8b0 : decide (x5_1 < (t105.length : Int)) = true := decide_eq_true c8
        clear c8
        have c9 := ipos H
        rw [if_pos c9] at H
        have c9b0 := decide_eq_true c9
        clear c9
        by_cases c10 : ((rd_T29 t105 x5_1).f0) = 1
        · rw [if_pos c10] at H
          have c10b0 : (((rd_T29 t105 x5_1).f0) == 1) = true := beq_iff_eq.mpr c10
          have c10b1 : (((rd_T29 t105 x5_1).f0) != 1) = false := bne_eq_false_iff_eq.mpr c10
          clear c10
          replace H := Option.bind_eq_some_iff.mp H
          obtain ⟨t110, A110, H⟩ := H
          replace H : (if ((rd_T29 t105 x5_1).f0) = 2 then (if ((rd_T29 t105 x5_1).f2) ≥ 0 then ((spec_l02Add.f k1 t110 ((rd_T29 t105 x5_1).f2)).bind fun t116 => (spec_VarsOf.l0 k1 t116 t105 (wrap64 (x5_1 + 1)))) else (spec_VarsOf.l0 k1 t110 t105 (wrap64 (x5_1 + 1)))) else (spec_VarsOf.l0 k1 t110 t105 (wrap64 (x5_1 + 1)))) = some r := H
          have A11 := Zs0.mk A110
          clear A110
          by_cases c12 : ((rd_T29 t105 x5_1).f0) = 2
          · rw [if_pos c12] at H
            have c12b0 : (((rd_T29 t105 x5_1).f0) == 2) = true := beq_iff_eq.mpr c12
            have c12b1 : (((rd_T29 t105 x5_1).f0) != 2) = false := bne_eq_false_iff_eq.mpr c12
            clear c12
            by_cases c13 : ((rd_T29 t105 x5_1).f2) ≥ 0
            · rw [if_pos c13] at H
              have c13b0 : decide (0 ≤ ((rd_T29 t105 x5_1).f2)) = true := decide_eq_true c13
              clear c13
              replace H := Option.bind_eq_some_iff.mp H
              obtain ⟨t116, A140, H⟩ := H
              replace H : (spec_VarsOf.l0 k1 t116 t105 (wrap64 (x5_1 + 1))) = some r := H
              have A14 := Zs0.mk A140
              clear A140
              have H' := Zs0.mk H
              clear H
              obtain ⟨Ao15, co15, eo15⟩ := Kd.N_slice HO_4.out
              subst eo15
              have p108 : 0 ≤ (x5_1 : Int) := of_decide_eq_true (by first | (with_reducible assumption) | assumption)
              have q108 : x5_1 < (t105.length : Int) := of_decide_eq_true (by first | (with_reducible assumption) | assumption)
              obtain ⟨ad108, A108_4, c108_4, e108, hx108_0, hx108_1, hx108_2, hx108_3, hx108_4, hl108_4, hi108_4⟩ := at_T29 (Kd.N_reads' HO_4.out).2.2 x5_1 p108 q108
              cases e108
              obtain ⟨ce108, hce108, hMe108, hcc108⟩ := Kd.N_get HO_4.out z29 x5_1 p108 (by first | exact q108 | exact of_decide_eq_true (by first | (with_reducible assumption) | assumption) | (have e_ := (Kd.N_reads' HO_4.out).1; omega))
              obtain ⟨ua108_4, uc108_4, rfl, ul108_4, ge108_4⟩ := k29_openF hMe108
              have hv108_4 := hcc108 4 _ rfl
              rw [add_field _ _ 4 (by omega)] at hv108_4
              replace hv108_4 := Option.some.inj (hv108_4.symm.trans hx108_4)
              injection hv108_4 with hva_ hvn_ hvc_
              rw [hva_] at ge108_4
              rw [hvc_] at ul108_4
              have HL108_4 := Zs0.mk (show Kd.V k29 29 _ w.heap.size _ _ ((rd_T29 t105 x5_1).f4) from Kd.V_mk ul108_4 ge108_4)
              clear hva_ hvn_ hvc_ ge108_4 ul108_4
              clear hcc108 hce108
              have HR108_4 := Zs0.mk hi108_4
              have HC108_4 := Zs0.mk hl108_4
              clear hi108_4 hl108_4
              replace p108 := eq_true p108
              replace q108 := eq_true q108
              have p109 : 0 ≤ (x5_1 : Int) := of_decide_eq_true (by first | (with_reducible assumption) | assumption)
              have q109 : x5_1 < (t105.length : Int) := of_decide_eq_true (by first | (with_reducible assumption) | assumption)
              obtain ⟨ad109, A109_4, c109_4, e109, hx109_0, hx109_1, hx109_2, hx109_3, hx109_4, hl109_4, hi109_4⟩ := at_T29 (Kd.N_reads' HO_4.out).2.2 x5_1 p109 q109
              obtain rfl : ad108 = ad109 := (by injection e109)
              obtain ⟨ce109, hce109, hMe109, hcc109⟩ := Kd.N_get HO_4.out z29 x5_1 p109 (by first | exact q109 | exact of_decide_eq_true (by first | (with_reducible assumption) | assumption) | (have e_ := (Kd.N_reads' HO_4.out).1; omega))
              obtain ⟨ua109_4, uc109_4, rfl, ul109_4, ge109_4⟩ := k29_openF hMe109
              have hv109_4 := hcc109 4 _ rfl
              rw [add_field _ _ 4 (by omega)] at hv109_4
              replace hv109_4 := Option.some.inj (hv109_4.symm.trans hx109_4)
              injection hv109_4 with hva_ hvn_ hvc_
              rw [hva_] at ge109_4
              rw [hvc_] at ul109_4
              have HL109_4 := Zs0.mk (show Kd.V k29 29 _ w.heap.size _ _ ((rd_T29 t105 x5_1).f4) from Kd.V_mk ul109_4 ge109_4)
              clear hva_ hvn_ hvc_ ge109_4 ul109_4
              clear hcc109 hce109
              have HR109_4 := Zs0.mk hi109_4
              have HC109_4 := Zs0.mk hl109_4
              clear hi109_4 hl109_4
              replace p109 := eq_true p109
              replace q109 := eq_true q109
              have ea_ := Option.some.inj (hx108_4.symm.trans hx109_4)
              injection ea_ with ea_ en_ ec_
              subst ea_
              subst ec_
              clear en_
              obtain ⟨Ao16, co16, eo16⟩ := Kd.R_slice HO_3.out
              subst eo16
              go_wp2_with (first | ((with_reducible refine gtC (f := 54) rfl ?_); refine goesL_ (some 27) rfl rfl Try.func54 (by kernel_rfl) rfl #[.slice Ao16 x3_1.length co16, .int .i64 ((rd_T29 t105 x5_1).f1)] rfl (by (try simp only [List.map_toArray, List.map_cons, List.map_nil]); first | done | rfl | (simp only [List.length_drop, List.length_take]; rfl)) ?_; (with_reducible refine (spec_l02Add.calls k1 _ _ x3_1 ((rd_T29 t105 x5_1).f1) t110 _ ?side1 ?side2 A11.out).mono ?_); (case side1 => repeat (first | exact (Kd.R_reads' HO_3.out).2.2 | (with_reducible refine Kd.C_alloc ?_ _) | (with_reducible refine Kd.C_drewN ?_ _) | (with_reducible refine Kd.C_drew ?_))); (case side2 => exact (Kd.R_reads' HO_3.out).2.1); rintro e w17 ⟨v111, rfl, ho0, hb⟩; refine ⟨_, rfl, ?_⟩; have n0_ := Zs0.mk (Kd.R_below (by (with_reducible repeat (first | apply Kd.R_alloc | apply Kd.R_drewN | apply Kd.R_drew)); exact HO_3.out) hb); have n1_ := Zs0.mk (addN ho0 (by (with_reducible repeat (first | apply Kd.N_alloc | apply Kd.N_drewN | apply Kd.N_drew)); exact HO_4.out) hb (by intro k_ hk_; first | exact hk_ | exact hk_.1 | exact hk_.2 | exact hk_.1.1 | exact hk_.1.2 | exact hk_.2.1 | exact hk_.2.2 | exact hk_.1.1.1 | exact hk_.1.1.2 | exact hk_.1.2.1 | exact hk_.1.2.2 | exact hk_.2.1.1 | exact hk_.2.1.2 | exact hk_.2.2.1 | exact hk_.2.2.2 | exact hk_.1.1.1.1 | exact hk_.1.1.1.2 | exact hk_.1.1.2.1 | exact hk_.1.1.2.2 | exact hk_.1.2.1.1 | exact hk_.1.2.1.2 | exact hk_.1.2.2.1 | exact hk_.1.2.2.2 | exact hk_.2.1.1.1 | exact hk_.2.1.1.2 | exact hk_.2.1.2.1 | exact hk_.2.1.2.2 | exact hk_.2.2.1.1 | exact hk_.2.2.1.2 | exact hk_.2.2.2.1 | exact hk_.2.2.2.2)); have n2_ := Zs0.mk (trivial); have n3_ := Zs0.mk (trivial); have n4_ := Zs0.mk (add_newR ho0 (by (with_reducible repeat (first | apply Kd.R_alloc | apply Kd.R_drewN | apply Kd.R_drew)); exact HO_3.out) (blZ (by repeat (first | (with_reducible first | exact HB.out | apply blA | apply pbN | apply bl1 | refine blS ?_ GE101.out) | exact HB.out))) hb); have n5_ := Zs0.mk (blk_below (g := gb101) (o := .cells #[.int .i64 a0_0, .int .i64 a0_1, .int .i64 a0_2, .string a0_3, .slice A0_4 l0_4.length c0_4] 29 (0, 0)) (by (with_reducible repeat (first | refine bkN ?_ _ | refine bk1 ?_ | refine bkA ?_ _)); exact BK101.out) hb); have n6_ := Zs0.mk (Kd.C_below (by repeat (first | (with_reducible exact HR108_4.out) | (with_reducible refine Kd.C_alloc ?_ _) | (with_reducible refine Kd.C_drewN ?_ _) | (with_reducible refine Kd.C_drew ?_) | exact HR108_4.out)) hb); have n7_ := Zs0.mk (Kd.C_below (by repeat (first | (with_reducible exact HR109_4.out) | (with_reducible refine Kd.C_alloc ?_ _) | (with_reducible refine Kd.C_drewN ?_ _) | (with_reducible refine Kd.C_drew ?_) | exact HR109_4.out)) hb); have n8_ := Zs0.mk (blT (by repeat (first | (with_reducible first | exact HB.out | apply blA | apply pbN | apply bl1 | refine blS ?_ GE101.out) | exact HB.out)) hb); clear HO_3; clear HO_4; clear HL108_4; clear HL109_4; clear BK101; clear HR108_4; clear HR109_4; clear HB; have HO_3 := n0_; have HO_4 := n1_; have HL108_4 := n2_; have HL109_4 := n3_; have HO112 := n4_; have BK101 := n5_; have HR108_4 := n6_; have HR109_4 := n7_; have HB := n8_; clear n0_ n1_ n2_ n3_ n4_ n5_ n6_ n7_ n8_; (try clear hb); (try clear hb2); (try clear hk); (try clear hi); (try clear ho0); have p113 : 0 ≤ (x5_1 : Int) := of_decide_eq_true (by first | (with_reducible assumption) | assumption); have q113 : x5_1 < (t105.length : Int) := of_decide_eq_true (by first | (with_reducible assumption) | assumption); obtain ⟨ad113, A113_4, c113_4, e113, hx113_0, hx113_1, hx113_2, hx113_3, hx113_4, hl113_4, hi113_4⟩ := at_T29 (Kd.N_reads' HO_4.out).2.2 x5_1 p113 q113; obtain rfl : ad108 = ad113 := (by injection e113); obtain ⟨ce113, hce113, hMe113, hcc113⟩ := Kd.N_get HO_4.out z29 x5_1 p113 (by first | exact q113 | exact of_decide_eq_true (by first | (with_reducible assumption) | assumption) | (have e_ := (Kd.N_reads' HO_4.out).1; omega)); obtain ⟨ua113_4, uc113_4, rfl, ul113_4, ge113_4⟩ := k29_openF hMe113; have hv113_4 := hcc113 4 _ rfl; rw [add_field _ _ 4 (by omega)] at hv113_4; replace hv113_4 := Option.some.inj (hv113_4.symm.trans hx113_4); injection hv113_4 with hva_ hvn_ hvc_; rw [hva_] at ge113_4; rw [hvc_] at ul113_4; have HL113_4 := Zs0.mk (show Kd.V k29 29 _ w.heap.size _ _ ((rd_T29 t105 x5_1).f4) from Kd.V_mk ul113_4 ge113_4); clear hva_ hvn_ hvc_ ge113_4 ul113_4; clear hcc113 hce113; have HR113_4 := Zs0.mk hi113_4; have HC113_4 := Zs0.mk hl113_4; clear hi113_4 hl113_4; replace p113 := eq_true p113; replace q113 := eq_true q113; have p114 : 0 ≤ (x5_1 : Int) := of_decide_eq_true (by first | (with_reducible assumption) | assumption); have q114 : x5_1 < (t105.length : Int) := of_decide_eq_true (by first | (with_reducible assumption) | assumption); obtain ⟨ad114, A114_4, c114_4, e114, hx114_0, hx114_1, hx114_2, hx114_3, hx114_4, hl114_4, hi114_4⟩ := at_T29 (Kd.N_reads' HO_4.out).2.2 x5_1 p114 q114; obtain rfl : ad108 = ad114 := (by injection e114); obtain ⟨ce114, hce114, hMe114, hcc114⟩ := Kd.N_get HO_4.out z29 x5_1 p114 (by first | exact q114 | exact of_decide_eq_true (by first | (with_reducible assumption) | assumption) | (have e_ := (Kd.N_reads' HO_4.out).1; omega)); obtain ⟨ua114_4, uc114_4, rfl, ul114_4, ge114_4⟩ := k29_openF hMe114; have hv114_4 := hcc114 4 _ rfl; rw [add_field _ _ 4 (by omega)] at hv114_4; replace hv114_4 := Option.some.inj (hv114_4.symm.trans hx114_4); injection hv114_4 with hva_ hvn_ hvc_; rw [hva_] at ge114_4; rw [hvc_] at ul114_4; have HL114_4 := Zs0.mk (show Kd.V k29 29 _ w.heap.size _ _ ((rd_T29 t105 x5_1).f4) from Kd.V_mk ul114_4 ge114_4); clear hva_ hvn_ hvc_ ge114_4 ul114_4; clear hcc114 hce114; have HR114_4 := Zs0.mk hi114_4; have HC114_4 := Zs0.mk hl114_4; clear hi114_4 hl114_4; replace p114 := eq_true p114; replace q114 := eq_true q114; have ea_ := Option.some.inj (hx113_4.symm.trans hx114_4); injection ea_ with ea_ en_ ec_; subst ea_; subst ec_; clear en_; have p115 : 0 ≤ (x5_1 : Int) := of_decide_eq_true (by first | (with_reducible assumption) | assumption); have q115 : x5_1 < (t105.length : Int) := of_decide_eq_true (by first | (with_reducible assumption) | assumption); obtain ⟨ad115, A115_4, c115_4, e115, hx115_0, hx115_1, hx115_2, hx115_3, hx115_4, hl115_4, hi115_4⟩ := at_T29 (Kd.N_reads' HO_4.out).2.2 x5_1 p115 q115; obtain rfl : ad108 = ad115 := (by injection e115); obtain ⟨ce115, hce115, hMe115, hcc115⟩ := Kd.N_get HO_4.out z29 x5_1 p115 (by first | exact q115 | exact of_decide_eq_true (by first | (with_reducible assumption) | assumption) | (have e_ := (Kd.N_reads' HO_4.out).1; omega)); obtain ⟨ua115_4, uc115_4, rfl, ul115_4, ge115_4⟩ := k29_openF hMe115; have hv115_4 := hcc115 4 _ rfl; rw [add_field _ _ 4 (by omega)] at hv115_4; replace hv115_4 := Option.some.inj (hv115_4.symm.trans hx115_4); injection hv115_4 with hva_ hvn_ hvc_; rw [hva_] at ge115_4; rw [hvc_] at ul115_4; have HL115_4 := Zs0.mk (show Kd.V k29 29 _ w.heap.size _ _ ((rd_T29 t105 x5_1).f4) from Kd.V_mk ul115_4 ge115_4); clear hva_ hvn_ hvc_ ge115_4 ul115_4; clear hcc115 hce115; have HR115_4 := Zs0.mk hi115_4; have HC115_4 := Zs0.mk hl115_4; clear hi115_4 hl115_4; replace p115 := eq_true p115; replace q115 := eq_true q115; have ea_ := Option.some.inj (hx113_4.symm.trans hx115_4); injection ea_ with ea_ en_ ec_; subst ea_; subst ec_; clear en_; obtain ⟨Ao18, co18, eo18⟩ := Kd.R_slice HO112.out; subst eo18) | ((with_reducible refine gtC (f := 54) rfl ?_); refine goesL_ (some 48) rfl rfl Try.func54 (by kernel_rfl) rfl #[.slice Ao18 t110.length co18, .int .i64 ((rd_T29 t105 x5_1).f2)] rfl (by (try simp only [List.map_toArray, List.map_cons, List.map_nil]); first | done | rfl | (simp only [List.length_drop, List.length_take]; rfl)) ?_; (with_reducible refine (spec_l02Add.calls k1 _ _ t110 ((rd_T29 t105 x5_1).f2) t116 _ ?side1 ?side2 A14.out).mono ?_); (case side1 => repeat (first | exact (Kd.R_reads' HO112.out).2.2 | (with_reducible refine Kd.C_alloc ?_ _) | (with_reducible refine Kd.C_drewN ?_ _) | (with_reducible refine Kd.C_drew ?_))); (case side2 => exact (Kd.R_reads' HO112.out).2.1); rintro e w19 ⟨v117, rfl, ho0, hb⟩; refine ⟨_, rfl, ?_⟩; have n0_ := Zs0.mk (Kd.R_below (by (with_reducible repeat (first | apply Kd.R_alloc | apply Kd.R_drewN | apply Kd.R_drew)); exact HO_3.out) hb); have n1_ := Zs0.mk (addN ho0 (by (with_reducible repeat (first | apply Kd.N_alloc | apply Kd.N_drewN | apply Kd.N_drew)); exact HO_4.out) hb (by intro k_ hk_; first | exact hk_ | exact hk_.1 | exact hk_.2 | exact hk_.1.1 | exact hk_.1.2 | exact hk_.2.1 | exact hk_.2.2 | exact hk_.1.1.1 | exact hk_.1.1.2 | exact hk_.1.2.1 | exact hk_.1.2.2 | exact hk_.2.1.1 | exact hk_.2.1.2 | exact hk_.2.2.1 | exact hk_.2.2.2 | exact hk_.1.1.1.1 | exact hk_.1.1.1.2 | exact hk_.1.1.2.1 | exact hk_.1.1.2.2 | exact hk_.1.2.1.1 | exact hk_.1.2.1.2 | exact hk_.1.2.2.1 | exact hk_.1.2.2.2 | exact hk_.2.1.1.1 | exact hk_.2.1.1.2 | exact hk_.2.1.2.1 | exact hk_.2.1.2.2 | exact hk_.2.2.1.1 | exact hk_.2.2.1.2 | exact hk_.2.2.2.1 | exact hk_.2.2.2.2)); have n2_ := Zs0.mk (trivial); have n3_ := Zs0.mk (trivial); have n4_ := Zs0.mk (Kd.R_below (by (with_reducible repeat (first | apply Kd.R_alloc | apply Kd.R_drewN | apply Kd.R_drew)); exact HO112.out) hb); have n5_ := Zs0.mk (trivial); have n6_ := Zs0.mk (trivial); have n7_ := Zs0.mk (trivial); have n8_ := Zs0.mk (add_newR ho0 (by (with_reducible repeat (first | apply Kd.R_alloc | apply Kd.R_drewN | apply Kd.R_drew)); exact HO112.out) (blZ (by repeat (first | (with_reducible first | exact HB.out | apply blA | apply pbN | apply bl1 | refine blS ?_ GE101.out) | exact HB.out))) hb); have n9_ := Zs0.mk (blk_below (g := gb101) (o := .cells #[.int .i64 a0_0, .int .i64 a0_1, .int .i64 a0_2, .string a0_3, .slice A0_4 l0_4.length c0_4] 29 (0, 0)) (by (with_reducible repeat (first | refine bkN ?_ _ | refine bk1 ?_ | refine bkA ?_ _)); exact BK101.out) hb); have n10_ := Zs0.mk (Kd.C_below (by repeat (first | (with_reducible exact HR108_4.out) | (with_reducible refine Kd.C_alloc ?_ _) | (with_reducible refine Kd.C_drewN ?_ _) | (with_reducible refine Kd.C_drew ?_) | exact HR108_4.out)) hb); have n11_ := Zs0.mk (Kd.C_below (by repeat (first | (with_reducible exact HR109_4.out) | (with_reducible refine Kd.C_alloc ?_ _) | (with_reducible refine Kd.C_drewN ?_ _) | (with_reducible refine Kd.C_drew ?_) | exact HR109_4.out)) hb); have n12_ := Zs0.mk (Kd.C_below (by repeat (first | (with_reducible exact HR113_4.out) | (with_reducible refine Kd.C_alloc ?_ _) | (with_reducible refine Kd.C_drewN ?_ _) | (with_reducible refine Kd.C_drew ?_) | exact HR113_4.out)) hb); have n13_ := Zs0.mk (Kd.C_below (by repeat (first | (with_reducible exact HR114_4.out) | (with_reducible refine Kd.C_alloc ?_ _) | (with_reducible refine Kd.C_drewN ?_ _) | (with_reducible refine Kd.C_drew ?_) | exact HR114_4.out)) hb); have n14_ := Zs0.mk (Kd.C_below (by repeat (first | (with_reducible exact HR115_4.out) | (with_reducible refine Kd.C_alloc ?_ _) | (with_reducible refine Kd.C_drewN ?_ _) | (with_reducible refine Kd.C_drew ?_) | exact HR115_4.out)) hb); have n15_ := Zs0.mk (blT (by repeat (first | (with_reducible first | exact HB.out | apply blA | apply pbN | apply bl1 | refine blS ?_ GE101.out) | exact HB.out)) hb); clear HO_3; clear HO_4; clear HL108_4; clear HL109_4; clear HO112; clear HL113_4; clear HL114_4; clear HL115_4; clear BK101; clear HR108_4; clear HR109_4; clear HR113_4; clear HR114_4; clear HR115_4; clear HB; have HO_3 := n0_; have HO_4 := n1_; have HL108_4 := n2_; have HL109_4 := n3_; have HO112 := n4_; have HL113_4 := n5_; have HL114_4 := n6_; have HL115_4 := n7_; have HO118 := n8_; have BK101 := n9_; have HR108_4 := n10_; have HR109_4 := n11_; have HR113_4 := n12_; have HR114_4 := n13_; have HR115_4 := n14_; have HB := n15_; clear n0_ n1_ n2_ n3_ n4_ n5_ n6_ n7_ n8_ n9_ n10_ n11_ n12_ n13_ n14_ n15_; (try clear hb); (try clear hb2); (try clear hk); (try clear hi); (try clear ho0)))
              go_roundg k1
              case measure => have := HK1.out; omega
              case rel => exact ⟨(t116), (wrap64 (x5_1 + 1)), (by first | rfl | (simp; done) | (simp [*]; done)), H', ⟨by have := HK1.out; omega⟩, ⟨by (with_reducible repeat (first | apply Kd.R_alloc | apply Kd.R_drewN | apply Kd.R_drew)); exact Kd.R_mono HO118.out (fun _ hk => trivial)⟩, ⟨by (with_reducible repeat (first | apply Kd.N_alloc | apply Kd.N_drewN | apply Kd.N_drew)); exact Kd.N_mono HO_4.out (fun _ hk => ⟨hk.2, hk.1.1.2⟩)⟩, ⟨by (with_reducible repeat (first | refine bkN ?_ _ | refine bk1 ?_ | refine bkA ?_ _)); exact BK101.out⟩, ⟨by repeat (first | (with_reducible first | exact HB.out | apply blA | apply pbN | apply bl1 | refine blS ?_ GE101.out) | exact HB.out)⟩⟩
            · rw [if_neg c13] at H
              have c13b0 : decide (0 ≤ ((rd_T29 t105 x5_1).f2)) = false := decide_eq_false c13
              clear c13
              have H' := Zs0.mk H
              clear H
              obtain ⟨Ao20, co20, eo20⟩ := Kd.N_slice HO_4.out
              subst eo20
              have p108 : 0 ≤ (x5_1 : Int) := of_decide_eq_true (by first | (with_reducible assumption) | assumption)
              have q108 : x5_1 < (t105.length : Int) := of_decide_eq_true (by first | (with_reducible assumption) | assumption)
              obtain ⟨ad108, A108_4, c108_4, e108, hx108_0, hx108_1, hx108_2, hx108_3, hx108_4, hl108_4, hi108_4⟩ := at_T29 (Kd.N_reads' HO_4.out).2.2 x5_1 p108 q108
              cases e108
              obtain ⟨ce108, hce108, hMe108, hcc108⟩ := Kd.N_get HO_4.out z29 x5_1 p108 (by first | exact q108 | exact of_decide_eq_true (by first | (with_reducible assumption) | assumption) | (have e_ := (Kd.N_reads' HO_4.out).1; omega))
              obtain ⟨ua108_4, uc108_4, rfl, ul108_4, ge108_4⟩ := k29_openF hMe108
              have hv108_4 := hcc108 4 _ rfl
              rw [add_field _ _ 4 (by omega)] at hv108_4
              replace hv108_4 := Option.some.inj (hv108_4.symm.trans hx108_4)
              injection hv108_4 with hva_ hvn_ hvc_
              rw [hva_] at ge108_4
              rw [hvc_] at ul108_4
              have HL108_4 := Zs0.mk (show Kd.V k29 29 _ w.heap.size _ _ ((rd_T29 t105 x5_1).f4) from Kd.V_mk ul108_4 ge108_4)
              clear hva_ hvn_ hvc_ ge108_4 ul108_4
              clear hcc108 hce108
              have HR108_4 := Zs0.mk hi108_4
              have HC108_4 := Zs0.mk hl108_4
              clear hi108_4 hl108_4
              replace p108 := eq_true p108
              replace q108 := eq_true q108
              have p109 : 0 ≤ (x5_1 : Int) := of_decide_eq_true (by first | (with_reducible assumption) | assumption)
              have q109 : x5_1 < (t105.length : Int) := of_decide_eq_true (by first | (with_reducible assumption) | assumption)
              obtain ⟨ad109, A109_4, c109_4, e109, hx109_0, hx109_1, hx109_2, hx109_3, hx109_4, hl109_4, hi109_4⟩ := at_T29 (Kd.N_reads' HO_4.out).2.2 x5_1 p109 q109
              obtain rfl : ad108 = ad109 := (by injection e109)
              obtain ⟨ce109, hce109, hMe109, hcc109⟩ := Kd.N_get HO_4.out z29 x5_1 p109 (by first | exact q109 | exact of_decide_eq_true (by first | (with_reducible assumption) | assumption) | (have e_ := (Kd.N_reads' HO_4.out).1; omega))
              obtain ⟨ua109_4, uc109_4, rfl, ul109_4, ge109_4⟩ := k29_openF hMe109
              have hv109_4 := hcc109 4 _ rfl
              rw [add_field _ _ 4 (by omega)] at hv109_4
              replace hv109_4 := Option.some.inj (hv109_4.symm.trans hx109_4)
              injection hv109_4 with hva_ hvn_ hvc_
              rw [hva_] at ge109_4
              rw [hvc_] at ul109_4
              have HL109_4 := Zs0.mk (show Kd.V k29 29 _ w.heap.size _ _ ((rd_T29 t105 x5_1).f4) from Kd.V_mk ul109_4 ge109_4)
              clear hva_ hvn_ hvc_ ge109_4 ul109_4
              clear hcc109 hce109
              have HR109_4 := Zs0.mk hi109_4
              have HC109_4 := Zs0.mk hl109_4
              clear hi109_4 hl109_4
              replace p109 := eq_true p109
              replace q109 := eq_true q109
              have ea_ := Option.some.inj (hx108_4.symm.trans hx109_4)
              injection ea_ with ea_ en_ ec_
              subst ea_
              subst ec_
              clear en_
              obtain ⟨Ao21, co21, eo21⟩ := Kd.R_slice HO_3.out
              subst eo21
              go_wp2_with (first | ((with_reducible refine gtC (f := 54) rfl ?_); refine goesL_ (some 27) rfl rfl Try.func54 (by kernel_rfl) rfl #[.slice Ao21 x3_1.length co21, .int .i64 ((rd_T29 t105 x5_1).f1)] rfl (by (try simp only [List.map_toArray, List.map_cons, List.map_nil]); first | done | rfl | (simp only [List.length_drop, List.length_take]; rfl)) ?_; (with_reducible refine (spec_l02Add.calls k1 _ _ x3_1 ((rd_T29 t105 x5_1).f1) t110 _ ?side1 ?side2 A11.out).mono ?_); (case side1 => repeat (first | exact (Kd.R_reads' HO_3.out).2.2 | (with_reducible refine Kd.C_alloc ?_ _) | (with_reducible refine Kd.C_drewN ?_ _) | (with_reducible refine Kd.C_drew ?_))); (case side2 => exact (Kd.R_reads' HO_3.out).2.1); rintro e w22 ⟨v111, rfl, ho0, hb⟩; refine ⟨_, rfl, ?_⟩; have n0_ := Zs0.mk (Kd.R_below (by (with_reducible repeat (first | apply Kd.R_alloc | apply Kd.R_drewN | apply Kd.R_drew)); exact HO_3.out) hb); have n1_ := Zs0.mk (addN ho0 (by (with_reducible repeat (first | apply Kd.N_alloc | apply Kd.N_drewN | apply Kd.N_drew)); exact HO_4.out) hb (by intro k_ hk_; first | exact hk_ | exact hk_.1 | exact hk_.2 | exact hk_.1.1 | exact hk_.1.2 | exact hk_.2.1 | exact hk_.2.2 | exact hk_.1.1.1 | exact hk_.1.1.2 | exact hk_.1.2.1 | exact hk_.1.2.2 | exact hk_.2.1.1 | exact hk_.2.1.2 | exact hk_.2.2.1 | exact hk_.2.2.2 | exact hk_.1.1.1.1 | exact hk_.1.1.1.2 | exact hk_.1.1.2.1 | exact hk_.1.1.2.2 | exact hk_.1.2.1.1 | exact hk_.1.2.1.2 | exact hk_.1.2.2.1 | exact hk_.1.2.2.2 | exact hk_.2.1.1.1 | exact hk_.2.1.1.2 | exact hk_.2.1.2.1 | exact hk_.2.1.2.2 | exact hk_.2.2.1.1 | exact hk_.2.2.1.2 | exact hk_.2.2.2.1 | exact hk_.2.2.2.2)); have n2_ := Zs0.mk (trivial); have n3_ := Zs0.mk (trivial); have n4_ := Zs0.mk (add_newR ho0 (by (with_reducible repeat (first | apply Kd.R_alloc | apply Kd.R_drewN | apply Kd.R_drew)); exact HO_3.out) (blZ (by repeat (first | (with_reducible first | exact HB.out | apply blA | apply pbN | apply bl1 | refine blS ?_ GE101.out) | exact HB.out))) hb); have n5_ := Zs0.mk (blk_below (g := gb101) (o := .cells #[.int .i64 a0_0, .int .i64 a0_1, .int .i64 a0_2, .string a0_3, .slice A0_4 l0_4.length c0_4] 29 (0, 0)) (by (with_reducible repeat (first | refine bkN ?_ _ | refine bk1 ?_ | refine bkA ?_ _)); exact BK101.out) hb); have n6_ := Zs0.mk (Kd.C_below (by repeat (first | (with_reducible exact HR108_4.out) | (with_reducible refine Kd.C_alloc ?_ _) | (with_reducible refine Kd.C_drewN ?_ _) | (with_reducible refine Kd.C_drew ?_) | exact HR108_4.out)) hb); have n7_ := Zs0.mk (Kd.C_below (by repeat (first | (with_reducible exact HR109_4.out) | (with_reducible refine Kd.C_alloc ?_ _) | (with_reducible refine Kd.C_drewN ?_ _) | (with_reducible refine Kd.C_drew ?_) | exact HR109_4.out)) hb); have n8_ := Zs0.mk (blT (by repeat (first | (with_reducible first | exact HB.out | apply blA | apply pbN | apply bl1 | refine blS ?_ GE101.out) | exact HB.out)) hb); clear HO_3; clear HO_4; clear HL108_4; clear HL109_4; clear BK101; clear HR108_4; clear HR109_4; clear HB; have HO_3 := n0_; have HO_4 := n1_; have HL108_4 := n2_; have HL109_4 := n3_; have HO112 := n4_; have BK101 := n5_; have HR108_4 := n6_; have HR109_4 := n7_; have HB := n8_; clear n0_ n1_ n2_ n3_ n4_ n5_ n6_ n7_ n8_; (try clear hb); (try clear hb2); (try clear hk); (try clear hi); (try clear ho0); have p113 : 0 ≤ (x5_1 : Int) := of_decide_eq_true (by first | (with_reducible assumption) | assumption); have q113 : x5_1 < (t105.length : Int) := of_decide_eq_true (by first | (with_reducible assumption) | assumption); obtain ⟨ad113, A113_4, c113_4, e113, hx113_0, hx113_1, hx113_2, hx113_3, hx113_4, hl113_4, hi113_4⟩ := at_T29 (Kd.N_reads' HO_4.out).2.2 x5_1 p113 q113; obtain rfl : ad108 = ad113 := (by injection e113); obtain ⟨ce113, hce113, hMe113, hcc113⟩ := Kd.N_get HO_4.out z29 x5_1 p113 (by first | exact q113 | exact of_decide_eq_true (by first | (with_reducible assumption) | assumption) | (have e_ := (Kd.N_reads' HO_4.out).1; omega)); obtain ⟨ua113_4, uc113_4, rfl, ul113_4, ge113_4⟩ := k29_openF hMe113; have hv113_4 := hcc113 4 _ rfl; rw [add_field _ _ 4 (by omega)] at hv113_4; replace hv113_4 := Option.some.inj (hv113_4.symm.trans hx113_4); injection hv113_4 with hva_ hvn_ hvc_; rw [hva_] at ge113_4; rw [hvc_] at ul113_4; have HL113_4 := Zs0.mk (show Kd.V k29 29 _ w.heap.size _ _ ((rd_T29 t105 x5_1).f4) from Kd.V_mk ul113_4 ge113_4); clear hva_ hvn_ hvc_ ge113_4 ul113_4; clear hcc113 hce113; have HR113_4 := Zs0.mk hi113_4; have HC113_4 := Zs0.mk hl113_4; clear hi113_4 hl113_4; replace p113 := eq_true p113; replace q113 := eq_true q113; have p114 : 0 ≤ (x5_1 : Int) := of_decide_eq_true (by first | (with_reducible assumption) | assumption); have q114 : x5_1 < (t105.length : Int) := of_decide_eq_true (by first | (with_reducible assumption) | assumption); obtain ⟨ad114, A114_4, c114_4, e114, hx114_0, hx114_1, hx114_2, hx114_3, hx114_4, hl114_4, hi114_4⟩ := at_T29 (Kd.N_reads' HO_4.out).2.2 x5_1 p114 q114; obtain rfl : ad108 = ad114 := (by injection e114); obtain ⟨ce114, hce114, hMe114, hcc114⟩ := Kd.N_get HO_4.out z29 x5_1 p114 (by first | exact q114 | exact of_decide_eq_true (by first | (with_reducible assumption) | assumption) | (have e_ := (Kd.N_reads' HO_4.out).1; omega)); obtain ⟨ua114_4, uc114_4, rfl, ul114_4, ge114_4⟩ := k29_openF hMe114; have hv114_4 := hcc114 4 _ rfl; rw [add_field _ _ 4 (by omega)] at hv114_4; replace hv114_4 := Option.some.inj (hv114_4.symm.trans hx114_4); injection hv114_4 with hva_ hvn_ hvc_; rw [hva_] at ge114_4; rw [hvc_] at ul114_4; have HL114_4 := Zs0.mk (show Kd.V k29 29 _ w.heap.size _ _ ((rd_T29 t105 x5_1).f4) from Kd.V_mk ul114_4 ge114_4); clear hva_ hvn_ hvc_ ge114_4 ul114_4; clear hcc114 hce114; have HR114_4 := Zs0.mk hi114_4; have HC114_4 := Zs0.mk hl114_4; clear hi114_4 hl114_4; replace p114 := eq_true p114; replace q114 := eq_true q114; have ea_ := Option.some.inj (hx113_4.symm.trans hx114_4); injection ea_ with ea_ en_ ec_; subst ea_; subst ec_; clear en_))
              go_roundg k1
              case measure => have := HK1.out; omega
              case rel => exact ⟨(t110), (wrap64 (x5_1 + 1)), (by first | rfl | (simp; done) | (simp [*]; done)), H', ⟨by have := HK1.out; omega⟩, ⟨by (with_reducible repeat (first | apply Kd.R_alloc | apply Kd.R_drewN | apply Kd.R_drew)); exact Kd.R_mono HO112.out (fun _ hk => trivial)⟩, ⟨by (with_reducible repeat (first | apply Kd.N_alloc | apply Kd.N_drewN | apply Kd.N_drew)); exact Kd.N_mono HO_4.out (fun _ hk => ⟨hk.2, hk.1.2⟩)⟩, ⟨by (with_reducible repeat (first | refine bkN ?_ _ | refine bk1 ?_ | refine bkA ?_ _)); exact BK101.out⟩, ⟨by repeat (first | (with_reducible first | exact HB.out | apply blA | apply pbN | apply bl1 | refine blS ?_ GE101.out) | exact HB.out)⟩⟩
          · rw [if_neg c12] at H
            have c12b0 : (((rd_T29 t105 x5_1).f0) == 2) = false := beq_eq_false_iff_ne.mpr c12
            have c12b1 : (((rd_T29 t105 x5_1).f0) != 2) = true := bne_iff_ne.mpr c12
            have H' := Zs0.mk H
            clear H
            obtain ⟨Ao23, co23, eo23⟩ := Kd.N_slice HO_4.out
            subst eo23
            have p108 : 0 ≤ (x5_1 : Int) := of_decide_eq_true (by first | (with_reducible assumption) | assumption)
            have q108 : x5_1 < (t105.length : Int) := of_decide_eq_true (by first | (with_reducible assumption) | assumption)
            obtain ⟨ad108, A108_4, c108_4, e108, hx108_0, hx108_1, hx108_2, hx108_3, hx108_4, hl108_4, hi108_4⟩ := at_T29 (Kd.N_reads' HO_4.out).2.2 x5_1 p108 q108
            cases e108
            obtain ⟨ce108, hce108, hMe108, hcc108⟩ := Kd.N_get HO_4.out z29 x5_1 p108 (by first | exact q108 | exact of_decide_eq_true (by first | (with_reducible assumption) | assumption) | (have e_ := (Kd.N_reads' HO_4.out).1; omega))
            obtain ⟨ua108_4, uc108_4, rfl, ul108_4, ge108_4⟩ := k29_openF hMe108
            have hv108_4 := hcc108 4 _ rfl
            rw [add_field _ _ 4 (by omega)] at hv108_4
            replace hv108_4 := Option.some.inj (hv108_4.symm.trans hx108_4)
            injection hv108_4 with hva_ hvn_ hvc_
            rw [hva_] at ge108_4
            rw [hvc_] at ul108_4
            have HL108_4 := Zs0.mk (show Kd.V k29 29 _ w.heap.size _ _ ((rd_T29 t105 x5_1).f4) from Kd.V_mk ul108_4 ge108_4)
            clear hva_ hvn_ hvc_ ge108_4 ul108_4
            clear hcc108 hce108
            have HR108_4 := Zs0.mk hi108_4
            have HC108_4 := Zs0.mk hl108_4
            clear hi108_4 hl108_4
            replace p108 := eq_true p108
            replace q108 := eq_true q108
            have p109 : 0 ≤ (x5_1 : Int) := of_decide_eq_true (by first | (with_reducible assumption) | assumption)
            have q109 : x5_1 < (t105.length : Int) := of_decide_eq_true (by first | (with_reducible assumption) | assumption)
            obtain ⟨ad109, A109_4, c109_4, e109, hx109_0, hx109_1, hx109_2, hx109_3, hx109_4, hl109_4, hi109_4⟩ := at_T29 (Kd.N_reads' HO_4.out).2.2 x5_1 p109 q109
            obtain rfl : ad108 = ad109 := (by injection e109)
            obtain ⟨ce109, hce109, hMe109, hcc109⟩ := Kd.N_get HO_4.out z29 x5_1 p109 (by first | exact q109 | exact of_decide_eq_true (by first | (with_reducible assumption) | assumption) | (have e_ := (Kd.N_reads' HO_4.out).1; omega))
            obtain ⟨ua109_4, uc109_4, rfl, ul109_4, ge109_4⟩ := k29_openF hMe109
            have hv109_4 := hcc109 4 _ rfl
            rw [add_field _ _ 4 (by omega)] at hv109_4
            replace hv109_4 := Option.some.inj (hv109_4.symm.trans hx109_4)
            injection hv109_4 with hva_ hvn_ hvc_
            rw [hva_] at ge109_4
            rw [hvc_] at ul109_4
            have HL109_4 := Zs0.mk (show Kd.V k29 29 _ w.heap.size _ _ ((rd_T29 t105 x5_1).f4) from Kd.V_mk ul109_4 ge109_4)
            clear hva_ hvn_ hvc_ ge109_4 ul109_4
            clear hcc109 hce109
            have HR109_4 := Zs0.mk hi109_4
            have HC109_4 := Zs0.mk hl109_4
            clear hi109_4 hl109_4
            replace p109 := eq_true p109
            replace q109 := eq_true q109
            have ea_ := Option.some.inj (hx108_4.symm.trans hx109_4)
            injection ea_ with ea_ en_ ec_
            subst ea_
            subst ec_
            clear en_
            obtain ⟨Ao24, co24, eo24⟩ := Kd.R_slice HO_3.out
            subst eo24
            go_wp2_with (first | ((with_reducible refine gtC (f := 54) rfl ?_); refine goesL_ (some 27) rfl rfl Try.func54 (by kernel_rfl) rfl #[.slice Ao24 x3_1.length co24, .int .i64 ((rd_T29 t105 x5_1).f1)] rfl (by (try simp only [List.map_toArray, List.map_cons, List.map_nil]); first | done | rfl | (simp only [List.length_drop, List.length_take]; rfl)) ?_; (with_reducible refine (spec_l02Add.calls k1 _ _ x3_1 ((rd_T29 t105 x5_1).f1) t110 _ ?side1 ?side2 A11.out).mono ?_); (case side1 => repeat (first | exact (Kd.R_reads' HO_3.out).2.2 | (with_reducible refine Kd.C_alloc ?_ _) | (with_reducible refine Kd.C_drewN ?_ _) | (with_reducible refine Kd.C_drew ?_))); (case side2 => exact (Kd.R_reads' HO_3.out).2.1); rintro e w25 ⟨v111, rfl, ho0, hb⟩; refine ⟨_, rfl, ?_⟩; have n0_ := Zs0.mk (Kd.R_below (by (with_reducible repeat (first | apply Kd.R_alloc | apply Kd.R_drewN | apply Kd.R_drew)); exact HO_3.out) hb); have n1_ := Zs0.mk (addN ho0 (by (with_reducible repeat (first | apply Kd.N_alloc | apply Kd.N_drewN | apply Kd.N_drew)); exact HO_4.out) hb (by intro k_ hk_; first | exact hk_ | exact hk_.1 | exact hk_.2 | exact hk_.1.1 | exact hk_.1.2 | exact hk_.2.1 | exact hk_.2.2 | exact hk_.1.1.1 | exact hk_.1.1.2 | exact hk_.1.2.1 | exact hk_.1.2.2 | exact hk_.2.1.1 | exact hk_.2.1.2 | exact hk_.2.2.1 | exact hk_.2.2.2 | exact hk_.1.1.1.1 | exact hk_.1.1.1.2 | exact hk_.1.1.2.1 | exact hk_.1.1.2.2 | exact hk_.1.2.1.1 | exact hk_.1.2.1.2 | exact hk_.1.2.2.1 | exact hk_.1.2.2.2 | exact hk_.2.1.1.1 | exact hk_.2.1.1.2 | exact hk_.2.1.2.1 | exact hk_.2.1.2.2 | exact hk_.2.2.1.1 | exact hk_.2.2.1.2 | exact hk_.2.2.2.1 | exact hk_.2.2.2.2)); have n2_ := Zs0.mk (trivial); have n3_ := Zs0.mk (trivial); have n4_ := Zs0.mk (add_newR ho0 (by (with_reducible repeat (first | apply Kd.R_alloc | apply Kd.R_drewN | apply Kd.R_drew)); exact HO_3.out) (blZ (by repeat (first | (with_reducible first | exact HB.out | apply blA | apply pbN | apply bl1 | refine blS ?_ GE101.out) | exact HB.out))) hb); have n5_ := Zs0.mk (blk_below (g := gb101) (o := .cells #[.int .i64 a0_0, .int .i64 a0_1, .int .i64 a0_2, .string a0_3, .slice A0_4 l0_4.length c0_4] 29 (0, 0)) (by (with_reducible repeat (first | refine bkN ?_ _ | refine bk1 ?_ | refine bkA ?_ _)); exact BK101.out) hb); have n6_ := Zs0.mk (Kd.C_below (by repeat (first | (with_reducible exact HR108_4.out) | (with_reducible refine Kd.C_alloc ?_ _) | (with_reducible refine Kd.C_drewN ?_ _) | (with_reducible refine Kd.C_drew ?_) | exact HR108_4.out)) hb); have n7_ := Zs0.mk (Kd.C_below (by repeat (first | (with_reducible exact HR109_4.out) | (with_reducible refine Kd.C_alloc ?_ _) | (with_reducible refine Kd.C_drewN ?_ _) | (with_reducible refine Kd.C_drew ?_) | exact HR109_4.out)) hb); have n8_ := Zs0.mk (blT (by repeat (first | (with_reducible first | exact HB.out | apply blA | apply pbN | apply bl1 | refine blS ?_ GE101.out) | exact HB.out)) hb); clear HO_3; clear HO_4; clear HL108_4; clear HL109_4; clear BK101; clear HR108_4; clear HR109_4; clear HB; have HO_3 := n0_; have HO_4 := n1_; have HL108_4 := n2_; have HL109_4 := n3_; have HO112 := n4_; have BK101 := n5_; have HR108_4 := n6_; have HR109_4 := n7_; have HB := n8_; clear n0_ n1_ n2_ n3_ n4_ n5_ n6_ n7_ n8_; (try clear hb); (try clear hb2); (try clear hk); (try clear hi); (try clear ho0); have p113 : 0 ≤ (x5_1 : Int) := of_decide_eq_true (by first | (with_reducible assumption) | assumption); have q113 : x5_1 < (t105.length : Int) := of_decide_eq_true (by first | (with_reducible assumption) | assumption); obtain ⟨ad113, A113_4, c113_4, e113, hx113_0, hx113_1, hx113_2, hx113_3, hx113_4, hl113_4, hi113_4⟩ := at_T29 (Kd.N_reads' HO_4.out).2.2 x5_1 p113 q113; obtain rfl : ad108 = ad113 := (by injection e113); obtain ⟨ce113, hce113, hMe113, hcc113⟩ := Kd.N_get HO_4.out z29 x5_1 p113 (by first | exact q113 | exact of_decide_eq_true (by first | (with_reducible assumption) | assumption) | (have e_ := (Kd.N_reads' HO_4.out).1; omega)); obtain ⟨ua113_4, uc113_4, rfl, ul113_4, ge113_4⟩ := k29_openF hMe113; have hv113_4 := hcc113 4 _ rfl; rw [add_field _ _ 4 (by omega)] at hv113_4; replace hv113_4 := Option.some.inj (hv113_4.symm.trans hx113_4); injection hv113_4 with hva_ hvn_ hvc_; rw [hva_] at ge113_4; rw [hvc_] at ul113_4; have HL113_4 := Zs0.mk (show Kd.V k29 29 _ w.heap.size _ _ ((rd_T29 t105 x5_1).f4) from Kd.V_mk ul113_4 ge113_4); clear hva_ hvn_ hvc_ ge113_4 ul113_4; clear hcc113 hce113; have HR113_4 := Zs0.mk hi113_4; have HC113_4 := Zs0.mk hl113_4; clear hi113_4 hl113_4; replace p113 := eq_true p113; replace q113 := eq_true q113))
            go_roundg k1
            case measure => have := HK1.out; omega
            case rel => exact ⟨(t110), (wrap64 (x5_1 + 1)), (by first | rfl | (simp; done) | (simp [*]; done)), H', ⟨by have := HK1.out; omega⟩, ⟨by (with_reducible repeat (first | apply Kd.R_alloc | apply Kd.R_drewN | apply Kd.R_drew)); exact Kd.R_mono HO112.out (fun _ hk => trivial)⟩, ⟨by (with_reducible repeat (first | apply Kd.N_alloc | apply Kd.N_drewN | apply Kd.N_drew)); exact Kd.N_mono HO_4.out (fun _ hk => ⟨hk.2, hk.1.2⟩)⟩, ⟨by (with_reducible repeat (first | refine bkN ?_ _ | refine bk1 ?_ | refine bkA ?_ _)); exact BK101.out⟩, ⟨by repeat (first | (with_reducible first | exact HB.out | apply blA | apply pbN | apply bl1 | refine blS ?_ GE101.out) | exact HB.out)⟩⟩
        · rw [if_neg c10] at H
          have c10b0 : (((rd_T29 t105 x5_1).f0) == 1) = false := beq_eq_false_iff_ne.mpr c10
          have c10b1 : (((rd_T29 t105 x5_1).f0) != 1) = true := bne_iff_ne.mpr c10
          by_cases c26 : ((rd_T29 t105 x5_1).f0) = 2
          · rw [if_pos c26] at H
            have c26b0 : (((rd_T29 t105 x5_1).f0) == 2) = true := beq_iff_eq.mpr c26
            have c26b1 : (((rd_T29 t105 x5_1).f0) != 2) = false := bne_eq_false_iff_eq.mpr c26
            clear c26
            by_cases c27 : ((rd_T29 t105 x5_1).f2) ≥ 0
            · rw [if_pos c27] at H
              have c27b0 : decide (0 ≤ ((rd_T29 t105 x5_1).f2)) = true := decide_eq_true c27
              clear c27
              replace H := Option.bind_eq_some_iff.mp H
              obtain ⟨t122, A280, H⟩ := H
              replace H : (spec_VarsOf.l0 k1 t122 t105 (wrap64 (x5_1 + 1))) = some r := H
              have A28 := Zs0.mk A280
              clear A280
              have H' := Zs0.mk H
              clear H
              obtain ⟨Ao29, co29, eo29⟩ := Kd.N_slice HO_4.out
              subst eo29
              have p108 : 0 ≤ (x5_1 : Int) := of_decide_eq_true (by first | (with_reducible assumption) | assumption)
              have q108 : x5_1 < (t105.length : Int) := of_decide_eq_true (by first | (with_reducible assumption) | assumption)
              obtain ⟨ad108, A108_4, c108_4, e108, hx108_0, hx108_1, hx108_2, hx108_3, hx108_4, hl108_4, hi108_4⟩ := at_T29 (Kd.N_reads' HO_4.out).2.2 x5_1 p108 q108
              cases e108
              obtain ⟨ce108, hce108, hMe108, hcc108⟩ := Kd.N_get HO_4.out z29 x5_1 p108 (by first | exact q108 | exact of_decide_eq_true (by first | (with_reducible assumption) | assumption) | (have e_ := (Kd.N_reads' HO_4.out).1; omega))
              obtain ⟨ua108_4, uc108_4, rfl, ul108_4, ge108_4⟩ := k29_openF hMe108
              have hv108_4 := hcc108 4 _ rfl
              rw [add_field _ _ 4 (by omega)] at hv108_4
              replace hv108_4 := Option.some.inj (hv108_4.symm.trans hx108_4)
              injection hv108_4 with hva_ hvn_ hvc_
              rw [hva_] at ge108_4
              rw [hvc_] at ul108_4
              have HL108_4 := Zs0.mk (show Kd.V k29 29 _ w.heap.size _ _ ((rd_T29 t105 x5_1).f4) from Kd.V_mk ul108_4 ge108_4)
              clear hva_ hvn_ hvc_ ge108_4 ul108_4
              clear hcc108 hce108
              have HR108_4 := Zs0.mk hi108_4
              have HC108_4 := Zs0.mk hl108_4
              clear hi108_4 hl108_4
              replace p108 := eq_true p108
              replace q108 := eq_true q108
              have p119 : 0 ≤ (x5_1 : Int) := of_decide_eq_true (by first | (with_reducible assumption) | assumption)
              have q119 : x5_1 < (t105.length : Int) := of_decide_eq_true (by first | (with_reducible assumption) | assumption)
              obtain ⟨ad119, A119_4, c119_4, e119, hx119_0, hx119_1, hx119_2, hx119_3, hx119_4, hl119_4, hi119_4⟩ := at_T29 (Kd.N_reads' HO_4.out).2.2 x5_1 p119 q119
              obtain rfl : ad108 = ad119 := (by injection e119)
              obtain ⟨ce119, hce119, hMe119, hcc119⟩ := Kd.N_get HO_4.out z29 x5_1 p119 (by first | exact q119 | exact of_decide_eq_true (by first | (with_reducible assumption) | assumption) | (have e_ := (Kd.N_reads' HO_4.out).1; omega))
              obtain ⟨ua119_4, uc119_4, rfl, ul119_4, ge119_4⟩ := k29_openF hMe119
              have hv119_4 := hcc119 4 _ rfl
              rw [add_field _ _ 4 (by omega)] at hv119_4
              replace hv119_4 := Option.some.inj (hv119_4.symm.trans hx119_4)
              injection hv119_4 with hva_ hvn_ hvc_
              rw [hva_] at ge119_4
              rw [hvc_] at ul119_4
              have HL119_4 := Zs0.mk (show Kd.V k29 29 _ w.heap.size _ _ ((rd_T29 t105 x5_1).f4) from Kd.V_mk ul119_4 ge119_4)
              clear hva_ hvn_ hvc_ ge119_4 ul119_4
              clear hcc119 hce119
              have HR119_4 := Zs0.mk hi119_4
              have HC119_4 := Zs0.mk hl119_4
              clear hi119_4 hl119_4
              replace p119 := eq_true p119
              replace q119 := eq_true q119
              have ea_ := Option.some.inj (hx108_4.symm.trans hx119_4)
              injection ea_ with ea_ en_ ec_
              subst ea_
              subst ec_
              clear en_
              have p120 : 0 ≤ (x5_1 : Int) := of_decide_eq_true (by first | (with_reducible assumption) | assumption)
              have q120 : x5_1 < (t105.length : Int) := of_decide_eq_true (by first | (with_reducible assumption) | assumption)
              obtain ⟨ad120, A120_4, c120_4, e120, hx120_0, hx120_1, hx120_2, hx120_3, hx120_4, hl120_4, hi120_4⟩ := at_T29 (Kd.N_reads' HO_4.out).2.2 x5_1 p120 q120
              obtain rfl : ad108 = ad120 := (by injection e120)
              obtain ⟨ce120, hce120, hMe120, hcc120⟩ := Kd.N_get HO_4.out z29 x5_1 p120 (by first | exact q120 | exact of_decide_eq_true (by first | (with_reducible assumption) | assumption) | (have e_ := (Kd.N_reads' HO_4.out).1; omega))
              obtain ⟨ua120_4, uc120_4, rfl, ul120_4, ge120_4⟩ := k29_openF hMe120
              have hv120_4 := hcc120 4 _ rfl
              rw [add_field _ _ 4 (by omega)] at hv120_4
              replace hv120_4 := Option.some.inj (hv120_4.symm.trans hx120_4)
              injection hv120_4 with hva_ hvn_ hvc_
              rw [hva_] at ge120_4
              rw [hvc_] at ul120_4
              have HL120_4 := Zs0.mk (show Kd.V k29 29 _ w.heap.size _ _ ((rd_T29 t105 x5_1).f4) from Kd.V_mk ul120_4 ge120_4)
              clear hva_ hvn_ hvc_ ge120_4 ul120_4
              clear hcc120 hce120
              have HR120_4 := Zs0.mk hi120_4
              have HC120_4 := Zs0.mk hl120_4
              clear hi120_4 hl120_4
              replace p120 := eq_true p120
              replace q120 := eq_true q120
              have ea_ := Option.some.inj (hx108_4.symm.trans hx120_4)
              injection ea_ with ea_ en_ ec_
              subst ea_
              subst ec_
              clear en_
              have p121 : 0 ≤ (x5_1 : Int) := of_decide_eq_true (by first | (with_reducible assumption) | assumption)
              have q121 : x5_1 < (t105.length : Int) := of_decide_eq_true (by first | (with_reducible assumption) | assumption)
              obtain ⟨ad121, A121_4, c121_4, e121, hx121_0, hx121_1, hx121_2, hx121_3, hx121_4, hl121_4, hi121_4⟩ := at_T29 (Kd.N_reads' HO_4.out).2.2 x5_1 p121 q121
              obtain rfl : ad108 = ad121 := (by injection e121)
              obtain ⟨ce121, hce121, hMe121, hcc121⟩ := Kd.N_get HO_4.out z29 x5_1 p121 (by first | exact q121 | exact of_decide_eq_true (by first | (with_reducible assumption) | assumption) | (have e_ := (Kd.N_reads' HO_4.out).1; omega))
              obtain ⟨ua121_4, uc121_4, rfl, ul121_4, ge121_4⟩ := k29_openF hMe121
              have hv121_4 := hcc121 4 _ rfl
              rw [add_field _ _ 4 (by omega)] at hv121_4
              replace hv121_4 := Option.some.inj (hv121_4.symm.trans hx121_4)
              injection hv121_4 with hva_ hvn_ hvc_
              rw [hva_] at ge121_4
              rw [hvc_] at ul121_4
              have HL121_4 := Zs0.mk (show Kd.V k29 29 _ w.heap.size _ _ ((rd_T29 t105 x5_1).f4) from Kd.V_mk ul121_4 ge121_4)
              clear hva_ hvn_ hvc_ ge121_4 ul121_4
              clear hcc121 hce121
              have HR121_4 := Zs0.mk hi121_4
              have HC121_4 := Zs0.mk hl121_4
              clear hi121_4 hl121_4
              replace p121 := eq_true p121
              replace q121 := eq_true q121
              have ea_ := Option.some.inj (hx108_4.symm.trans hx121_4)
              injection ea_ with ea_ en_ ec_
              subst ea_
              subst ec_
              clear en_
              obtain ⟨Ao30, co30, eo30⟩ := Kd.R_slice HO_3.out
              subst eo30
              go_wp2_with (first | ((with_reducible refine gtC (f := 54) rfl ?_); refine goesL_ (some 48) rfl rfl Try.func54 (by kernel_rfl) rfl #[.slice Ao30 x3_1.length co30, .int .i64 ((rd_T29 t105 x5_1).f2)] rfl (by (try simp only [List.map_toArray, List.map_cons, List.map_nil]); first | done | rfl | (simp only [List.length_drop, List.length_take]; rfl)) ?_; (with_reducible refine (spec_l02Add.calls k1 _ _ x3_1 ((rd_T29 t105 x5_1).f2) t122 _ ?side1 ?side2 A28.out).mono ?_); (case side1 => repeat (first | exact (Kd.R_reads' HO_3.out).2.2 | (with_reducible refine Kd.C_alloc ?_ _) | (with_reducible refine Kd.C_drewN ?_ _) | (with_reducible refine Kd.C_drew ?_))); (case side2 => exact (Kd.R_reads' HO_3.out).2.1); rintro e w31 ⟨v123, rfl, ho0, hb⟩; refine ⟨_, rfl, ?_⟩; have n0_ := Zs0.mk (Kd.R_below (by (with_reducible repeat (first | apply Kd.R_alloc | apply Kd.R_drewN | apply Kd.R_drew)); exact HO_3.out) hb); have n1_ := Zs0.mk (addN ho0 (by (with_reducible repeat (first | apply Kd.N_alloc | apply Kd.N_drewN | apply Kd.N_drew)); exact HO_4.out) hb (by intro k_ hk_; first | exact hk_ | exact hk_.1 | exact hk_.2 | exact hk_.1.1 | exact hk_.1.2 | exact hk_.2.1 | exact hk_.2.2 | exact hk_.1.1.1 | exact hk_.1.1.2 | exact hk_.1.2.1 | exact hk_.1.2.2 | exact hk_.2.1.1 | exact hk_.2.1.2 | exact hk_.2.2.1 | exact hk_.2.2.2 | exact hk_.1.1.1.1 | exact hk_.1.1.1.2 | exact hk_.1.1.2.1 | exact hk_.1.1.2.2 | exact hk_.1.2.1.1 | exact hk_.1.2.1.2 | exact hk_.1.2.2.1 | exact hk_.1.2.2.2 | exact hk_.2.1.1.1 | exact hk_.2.1.1.2 | exact hk_.2.1.2.1 | exact hk_.2.1.2.2 | exact hk_.2.2.1.1 | exact hk_.2.2.1.2 | exact hk_.2.2.2.1 | exact hk_.2.2.2.2)); have n2_ := Zs0.mk (trivial); have n3_ := Zs0.mk (trivial); have n4_ := Zs0.mk (trivial); have n5_ := Zs0.mk (trivial); have n6_ := Zs0.mk (add_newR ho0 (by (with_reducible repeat (first | apply Kd.R_alloc | apply Kd.R_drewN | apply Kd.R_drew)); exact HO_3.out) (blZ (by repeat (first | (with_reducible first | exact HB.out | apply blA | apply pbN | apply bl1 | refine blS ?_ GE101.out) | exact HB.out))) hb); have n7_ := Zs0.mk (blk_below (g := gb101) (o := .cells #[.int .i64 a0_0, .int .i64 a0_1, .int .i64 a0_2, .string a0_3, .slice A0_4 l0_4.length c0_4] 29 (0, 0)) (by (with_reducible repeat (first | refine bkN ?_ _ | refine bk1 ?_ | refine bkA ?_ _)); exact BK101.out) hb); have n8_ := Zs0.mk (Kd.C_below (by repeat (first | (with_reducible exact HR108_4.out) | (with_reducible refine Kd.C_alloc ?_ _) | (with_reducible refine Kd.C_drewN ?_ _) | (with_reducible refine Kd.C_drew ?_) | exact HR108_4.out)) hb); have n9_ := Zs0.mk (Kd.C_below (by repeat (first | (with_reducible exact HR119_4.out) | (with_reducible refine Kd.C_alloc ?_ _) | (with_reducible refine Kd.C_drewN ?_ _) | (with_reducible refine Kd.C_drew ?_) | exact HR119_4.out)) hb); have n10_ := Zs0.mk (Kd.C_below (by repeat (first | (with_reducible exact HR120_4.out) | (with_reducible refine Kd.C_alloc ?_ _) | (with_reducible refine Kd.C_drewN ?_ _) | (with_reducible refine Kd.C_drew ?_) | exact HR120_4.out)) hb); have n11_ := Zs0.mk (Kd.C_below (by repeat (first | (with_reducible exact HR121_4.out) | (with_reducible refine Kd.C_alloc ?_ _) | (with_reducible refine Kd.C_drewN ?_ _) | (with_reducible refine Kd.C_drew ?_) | exact HR121_4.out)) hb); have n12_ := Zs0.mk (blT (by repeat (first | (with_reducible first | exact HB.out | apply blA | apply pbN | apply bl1 | refine blS ?_ GE101.out) | exact HB.out)) hb); clear HO_3; clear HO_4; clear HL108_4; clear HL119_4; clear HL120_4; clear HL121_4; clear BK101; clear HR108_4; clear HR119_4; clear HR120_4; clear HR121_4; clear HB; have HO_3 := n0_; have HO_4 := n1_; have HL108_4 := n2_; have HL119_4 := n3_; have HL120_4 := n4_; have HL121_4 := n5_; have HO124 := n6_; have BK101 := n7_; have HR108_4 := n8_; have HR119_4 := n9_; have HR120_4 := n10_; have HR121_4 := n11_; have HB := n12_; clear n0_ n1_ n2_ n3_ n4_ n5_ n6_ n7_ n8_ n9_ n10_ n11_ n12_; (try clear hb); (try clear hb2); (try clear hk); (try clear hi); (try clear ho0)))
              go_roundg k1
              case measure => have := HK1.out; omega
              case rel => exact ⟨(t122), (wrap64 (x5_1 + 1)), (by first | rfl | (simp; done) | (simp [*]; done)), H', ⟨by have := HK1.out; omega⟩, ⟨by (with_reducible repeat (first | apply Kd.R_alloc | apply Kd.R_drewN | apply Kd.R_drew)); exact Kd.R_mono HO124.out (fun _ hk => trivial)⟩, ⟨by (with_reducible repeat (first | apply Kd.N_alloc | apply Kd.N_drewN | apply Kd.N_drew)); exact Kd.N_mono HO_4.out (fun _ hk => ⟨hk.2, hk.1.2⟩)⟩, ⟨by (with_reducible repeat (first | refine bkN ?_ _ | refine bk1 ?_ | refine bkA ?_ _)); exact BK101.out⟩, ⟨by repeat (first | (with_reducible first | exact HB.out | apply blA | apply pbN | apply bl1 | refine blS ?_ GE101.out) | exact HB.out)⟩⟩
            · rw [if_neg c27] at H
              have c27b0 : decide (0 ≤ ((rd_T29 t105 x5_1).f2)) = false := decide_eq_false c27
              clear c27
              have H' := Zs0.mk H
              clear H
              obtain ⟨Ao32, co32, eo32⟩ := Kd.N_slice HO_4.out
              subst eo32
              have p108 : 0 ≤ (x5_1 : Int) := of_decide_eq_true (by first | (with_reducible assumption) | assumption)
              have q108 : x5_1 < (t105.length : Int) := of_decide_eq_true (by first | (with_reducible assumption) | assumption)
              obtain ⟨ad108, A108_4, c108_4, e108, hx108_0, hx108_1, hx108_2, hx108_3, hx108_4, hl108_4, hi108_4⟩ := at_T29 (Kd.N_reads' HO_4.out).2.2 x5_1 p108 q108
              cases e108
              obtain ⟨ce108, hce108, hMe108, hcc108⟩ := Kd.N_get HO_4.out z29 x5_1 p108 (by first | exact q108 | exact of_decide_eq_true (by first | (with_reducible assumption) | assumption) | (have e_ := (Kd.N_reads' HO_4.out).1; omega))
              obtain ⟨ua108_4, uc108_4, rfl, ul108_4, ge108_4⟩ := k29_openF hMe108
              have hv108_4 := hcc108 4 _ rfl
              rw [add_field _ _ 4 (by omega)] at hv108_4
              replace hv108_4 := Option.some.inj (hv108_4.symm.trans hx108_4)
              injection hv108_4 with hva_ hvn_ hvc_
              rw [hva_] at ge108_4
              rw [hvc_] at ul108_4
              have HL108_4 := Zs0.mk (show Kd.V k29 29 _ w.heap.size _ _ ((rd_T29 t105 x5_1).f4) from Kd.V_mk ul108_4 ge108_4)
              clear hva_ hvn_ hvc_ ge108_4 ul108_4
              clear hcc108 hce108
              have HR108_4 := Zs0.mk hi108_4
              have HC108_4 := Zs0.mk hl108_4
              clear hi108_4 hl108_4
              replace p108 := eq_true p108
              replace q108 := eq_true q108
              have p119 : 0 ≤ (x5_1 : Int) := of_decide_eq_true (by first | (with_reducible assumption) | assumption)
              have q119 : x5_1 < (t105.length : Int) := of_decide_eq_true (by first | (with_reducible assumption) | assumption)
              obtain ⟨ad119, A119_4, c119_4, e119, hx119_0, hx119_1, hx119_2, hx119_3, hx119_4, hl119_4, hi119_4⟩ := at_T29 (Kd.N_reads' HO_4.out).2.2 x5_1 p119 q119
              obtain rfl : ad108 = ad119 := (by injection e119)
              obtain ⟨ce119, hce119, hMe119, hcc119⟩ := Kd.N_get HO_4.out z29 x5_1 p119 (by first | exact q119 | exact of_decide_eq_true (by first | (with_reducible assumption) | assumption) | (have e_ := (Kd.N_reads' HO_4.out).1; omega))
              obtain ⟨ua119_4, uc119_4, rfl, ul119_4, ge119_4⟩ := k29_openF hMe119
              have hv119_4 := hcc119 4 _ rfl
              rw [add_field _ _ 4 (by omega)] at hv119_4
              replace hv119_4 := Option.some.inj (hv119_4.symm.trans hx119_4)
              injection hv119_4 with hva_ hvn_ hvc_
              rw [hva_] at ge119_4
              rw [hvc_] at ul119_4
              have HL119_4 := Zs0.mk (show Kd.V k29 29 _ w.heap.size _ _ ((rd_T29 t105 x5_1).f4) from Kd.V_mk ul119_4 ge119_4)
              clear hva_ hvn_ hvc_ ge119_4 ul119_4
              clear hcc119 hce119
              have HR119_4 := Zs0.mk hi119_4
              have HC119_4 := Zs0.mk hl119_4
              clear hi119_4 hl119_4
              replace p119 := eq_true p119
              replace q119 := eq_true q119
              have ea_ := Option.some.inj (hx108_4.symm.trans hx119_4)
              injection ea_ with ea_ en_ ec_
              subst ea_
              subst ec_
              clear en_
              have p120 : 0 ≤ (x5_1 : Int) := of_decide_eq_true (by first | (with_reducible assumption) | assumption)
              have q120 : x5_1 < (t105.length : Int) := of_decide_eq_true (by first | (with_reducible assumption) | assumption)
              obtain ⟨ad120, A120_4, c120_4, e120, hx120_0, hx120_1, hx120_2, hx120_3, hx120_4, hl120_4, hi120_4⟩ := at_T29 (Kd.N_reads' HO_4.out).2.2 x5_1 p120 q120
              obtain rfl : ad108 = ad120 := (by injection e120)
              obtain ⟨ce120, hce120, hMe120, hcc120⟩ := Kd.N_get HO_4.out z29 x5_1 p120 (by first | exact q120 | exact of_decide_eq_true (by first | (with_reducible assumption) | assumption) | (have e_ := (Kd.N_reads' HO_4.out).1; omega))
              obtain ⟨ua120_4, uc120_4, rfl, ul120_4, ge120_4⟩ := k29_openF hMe120
              have hv120_4 := hcc120 4 _ rfl
              rw [add_field _ _ 4 (by omega)] at hv120_4
              replace hv120_4 := Option.some.inj (hv120_4.symm.trans hx120_4)
              injection hv120_4 with hva_ hvn_ hvc_
              rw [hva_] at ge120_4
              rw [hvc_] at ul120_4
              have HL120_4 := Zs0.mk (show Kd.V k29 29 _ w.heap.size _ _ ((rd_T29 t105 x5_1).f4) from Kd.V_mk ul120_4 ge120_4)
              clear hva_ hvn_ hvc_ ge120_4 ul120_4
              clear hcc120 hce120
              have HR120_4 := Zs0.mk hi120_4
              have HC120_4 := Zs0.mk hl120_4
              clear hi120_4 hl120_4
              replace p120 := eq_true p120
              replace q120 := eq_true q120
              have ea_ := Option.some.inj (hx108_4.symm.trans hx120_4)
              injection ea_ with ea_ en_ ec_
              subst ea_
              subst ec_
              clear en_
              go_wp2
              go_roundg k1
              case measure => have := HK1.out; omega
              case rel => exact ⟨(x3_1), (wrap64 (x5_1 + 1)), (by first | rfl | (simp; done) | (simp [*]; done)), H', ⟨by have := HK1.out; omega⟩, ⟨by (with_reducible repeat (first | apply Kd.R_alloc | apply Kd.R_drewN | apply Kd.R_drew)); exact HO_3.out⟩, ⟨by (with_reducible repeat (first | apply Kd.N_alloc | apply Kd.N_drewN | apply Kd.N_drew)); exact HO_4.out⟩, ⟨by (with_reducible repeat (first | refine bkN ?_ _ | refine bk1 ?_ | refine bkA ?_ _)); exact BK101.out⟩, ⟨by repeat (first | (with_reducible first | exact HB.out | apply blA | apply pbN | apply bl1 | refine blS ?_ GE101.out) | exact HB.out)⟩⟩
          · rw [if_neg c26] at H
            have c26b0 : (((rd_T29 t105 x5_1).f0) == 2) = false := beq_eq_false_iff_ne.mpr c26
            have c26b1 : (((rd_T29 t105 x5_1).f0) != 2) = true := bne_iff_ne.mpr c26
            have H' := Zs0.mk H
            clear H
            obtain ⟨Ao33, co33, eo33⟩ := Kd.N_slice HO_4.out
            subst eo33
            have p108 : 0 ≤ (x5_1 : Int) := of_decide_eq_true (by first | (with_reducible assumption) | assumption)
            have q108 : x5_1 < (t105.length : Int) := of_decide_eq_true (by first | (with_reducible assumption) | assumption)
            obtain ⟨ad108, A108_4, c108_4, e108, hx108_0, hx108_1, hx108_2, hx108_3, hx108_4, hl108_4, hi108_4⟩ := at_T29 (Kd.N_reads' HO_4.out).2.2 x5_1 p108 q108
            cases e108
            obtain ⟨ce108, hce108, hMe108, hcc108⟩ := Kd.N_get HO_4.out z29 x5_1 p108 (by first | exact q108 | exact of_decide_eq_true (by first | (with_reducible assumption) | assumption) | (have e_ := (Kd.N_reads' HO_4.out).1; omega))
            obtain ⟨ua108_4, uc108_4, rfl, ul108_4, ge108_4⟩ := k29_openF hMe108
            have hv108_4 := hcc108 4 _ rfl
            rw [add_field _ _ 4 (by omega)] at hv108_4
            replace hv108_4 := Option.some.inj (hv108_4.symm.trans hx108_4)
            injection hv108_4 with hva_ hvn_ hvc_
            rw [hva_] at ge108_4
            rw [hvc_] at ul108_4
            have HL108_4 := Zs0.mk (show Kd.V k29 29 _ w.heap.size _ _ ((rd_T29 t105 x5_1).f4) from Kd.V_mk ul108_4 ge108_4)
            clear hva_ hvn_ hvc_ ge108_4 ul108_4
            clear hcc108 hce108
            have HR108_4 := Zs0.mk hi108_4
            have HC108_4 := Zs0.mk hl108_4
            clear hi108_4 hl108_4
            replace p108 := eq_true p108
            replace q108 := eq_true q108
            have p119 : 0 ≤ (x5_1 : Int) := of_decide_eq_true (by first | (with_reducible assumption) | assumption)
            have q119 : x5_1 < (t105.length : Int) := of_decide_eq_true (by first | (with_reducible assumption) | assumption)
            obtain ⟨ad119, A119_4, c119_4, e119, hx119_0, hx119_1, hx119_2, hx119_3, hx119_4, hl119_4, hi119_4⟩ := at_T29 (Kd.N_reads' HO_4.out).2.2 x5_1 p119 q119
            obtain rfl : ad108 = ad119 := (by injection e119)
            obtain ⟨ce119, hce119, hMe119, hcc119⟩ := Kd.N_get HO_4.out z29 x5_1 p119 (by first | exact q119 | exact of_decide_eq_true (by first | (with_reducible assumption) | assumption) | (have e_ := (Kd.N_reads' HO_4.out).1; omega))
            obtain ⟨ua119_4, uc119_4, rfl, ul119_4, ge119_4⟩ := k29_openF hMe119
            have hv119_4 := hcc119 4 _ rfl
            rw [add_field _ _ 4 (by omega)] at hv119_4
            replace hv119_4 := Option.some.inj (hv119_4.symm.trans hx119_4)
            injection hv119_4 with hva_ hvn_ hvc_
            rw [hva_] at ge119_4
            rw [hvc_] at ul119_4
            have HL119_4 := Zs0.mk (show Kd.V k29 29 _ w.heap.size _ _ ((rd_T29 t105 x5_1).f4) from Kd.V_mk ul119_4 ge119_4)
            clear hva_ hvn_ hvc_ ge119_4 ul119_4
            clear hcc119 hce119
            have HR119_4 := Zs0.mk hi119_4
            have HC119_4 := Zs0.mk hl119_4
            clear hi119_4 hl119_4
            replace p119 := eq_true p119
            replace q119 := eq_true q119
            have ea_ := Option.some.inj (hx108_4.symm.trans hx119_4)
            injection ea_ with ea_ en_ ec_
            subst ea_
            subst ec_
            clear en_
            go_wp2
            go_roundg k1
            case measure => have := HK1.out; omega
            case rel => exact ⟨(x3_1), (wrap64 (x5_1 + 1)), (by first | rfl | (simp; done) | (simp [*]; done)), H', ⟨by have := HK1.out; omega⟩, ⟨by (with_reducible repeat (first | apply Kd.R_alloc | apply Kd.R_drewN | apply Kd.R_drew)); exact HO_3.out⟩, ⟨by (with_reducible repeat (first | apply Kd.N_alloc | apply Kd.N_drewN | apply Kd.N_drew)); exact HO_4.out⟩, ⟨by (with_reducible repeat (first | refine bkN ?_ _ | refine bk1 ?_ | refine bkA ?_ _)); exact BK101.out⟩, ⟨by repeat (first | (with_reducible first | exact HB.out | apply blA | apply pbN | apply bl1 | refine blS ?_ GE101.out) | exact HB.out)⟩⟩
      · rw [if_neg c8] at H
        have c8b0 : decide (x5_1 < (t105.length : Int)) = false := decide_eq_false c8
        clear c8
        obtain rfl := Option.some.inj H
        obtain ⟨Ao34, co34, eo34⟩ := Kd.N_slice HO_4.out
        subst eo34
        go_wp2
        go_ret
        exact ⟨_, by first | rfl | (simp [eWn, eWs] <;> rfl) | (simp [*, eWn, eWs] <;> rfl), by (with_reducible repeat (first | apply Kd.R_alloc | apply Kd.R_drewN | apply Kd.R_drew)); exact HO_3.out, by repeat (first | (with_reducible first | exact HB.out | apply blA | apply pbN | apply bl1 | refine blS ?_ GE101.out) | exact HB.out)⟩

end Go.Proofs.Ytjcggilkfofiaaa.P
