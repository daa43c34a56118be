/- Printed by a program over this seat's translation: a Lean function for each Go function, and that the Go code comes to its answers. -/
import Derived.Test.YtcbpbnkoolpibaaMTrim0a
import Derived.Test.YtcbpbnkoolpibaaMTrim0b
namespace Go.Proofs.Ytcbpbnkoolpibaa.P
open Go.RowKit Go.Proofs.YtcbpbnkoolpibaaW.PrintWords Go.Proofs.YtcbpbnkoolpibaaW.PrintLast Go.Proofs.YtcbpbnkoolpibaaW.PrintMore
attribute [local go_sem] max2_int min2_int max_two min_two max_three min_three max_four min_four   -- for this text's walks alone
set_option linter.unusedVariables false
set_option linter.unusedSimpArgs false

/-! ### impl_order: function 36 -/
def impl_order.l0 : Nat → List Bool → List Int → List Int → List Int → Int → Int → Int → List (S47) → Option (List Int)
  | 0, _, _, _, _, _, _, _, _ => none
  | k + 1, x3, x4, x5, x102000, x102001, x102002, x102003, x102004 => if (x5.length : Int) > 0 then (if 0 ≤ (wrap64 ((x5.length : Int) - 1)) then (if (wrap64 ((x5.length : Int) - 1)) < (x5.length : Int) then (if (wrap64 ((x5.length : Int) - 1)) ≤ (x5.length : Int) then ((some (x5.take ((wrap64 ((x5.length : Int) - 1)) : Int).toNat : List Int)).bind fun y112 => (if 0 ≤ (rd x5 (wrap64 ((x5.length : Int) - 1))) then (if (rd x5 (wrap64 ((x5.length : Int) - 1))) < (x3.length : Int) then (if rdOf false x3 (rd x5 (wrap64 ((x5.length : Int) - 1))) = true then (impl_order.l0 k x3 x4 y112 x102000 x102001 x102002 x102003 x102004) else (if x4.length < 17592186044416 then (if (rd x5 (wrap64 ((x5.length : Int) - 1))) < (x102004.length : Int) then ((impl_nextOf.f ((rd_T47 x102004 (rd x5 (wrap64 ((x5.length : Int) - 1)))).f0) ((rd_T47 x102004 (rd x5 (wrap64 ((x5.length : Int) - 1)))).f1) ((rd_T47 x102004 (rd x5 (wrap64 ((x5.length : Int) - 1)))).f2) ((rd_T47 x102004 (rd x5 (wrap64 ((x5.length : Int) - 1)))).f3) ((rd_T47 x102004 (rd x5 (wrap64 ((x5.length : Int) - 1)))).f4)).bind fun t121 => ((slices_Reverse_int_int.f k t121).bind fun t124 => (if y112.length + t124.length < 17592186044416 then (impl_order.l0 k (x3.set ((rd x5 (wrap64 ((x5.length : Int) - 1))) : Int).toNat true) (x4 ++ [rd x5 (wrap64 ((x5.length : Int) - 1))]) (y112 ++ t124) x102000 x102001 x102002 x102003 x102004) else (none)))) else (none)) else (none))) else (none)) else (none))) else (none)) else (none)) else (none)) else (some x4)
def impl_order.f (k : Nat) (l0_0 : List Int) (a0_1 : Int) (a0_2 : Int) (a0_3 : Int) (l0_4 : List (S47)) : Option (List Int) := if 0 ≤ (l0_4.length : Int) then (if ((l0_4.length : Int) : Int).toNat ≤ 281474976710656 then (impl_order.l0 k (List.replicate ((l0_4.length : Int) : Int).toNat false) (([] : List Int)) (([0] : List Int)) l0_0 a0_1 a0_2 a0_3 l0_4) else (none)) else (none)
theorem impl_order.mono_l : ∀ k, (∀ y0 y1 y2 y3 y4 y5 y6 y7, LeO (impl_order.l0 k y0 y1 y2 y3 y4 y5 y6 y7) (impl_order.l0 (k + 1) y0 y1 y2 y3 y4 y5 y6 y7))
  | 0 => fun _ _ _ _ _ _ _ _ r h => by simp [impl_order.l0] at h
  | k + 1 => by
    have ih0 := impl_order.mono_l k
    · intro y0 y1 y2 y3 y4 y5 y6 y7
      unfold impl_order.l0
      repeat' first
      | (with_reducible exact ih0 _ _ _ _ _ _ _ _)
      | (with_reducible exact slices_Reverse_int_int.mono _ _)
      | (with_reducible exact LeO.refl _)
      | (with_reducible exact LeO.none _)
      | (with_reducible refine LeO.ite ?_ ?_)
      | (with_reducible refine LeO.bind ?_ (fun _ => ?_))
      | exact ih0 _ _ _ _ _ _ _ _
      | exact slices_Reverse_int_int.mono _ _
      | exact LeO.none _
      | refine LeO.ite ?_ ?_
      | refine LeO.bind ?_ (fun _ => ?_)
theorem impl_order.mono : ∀ a0 a1 a2 a3 a4 k, LeO (impl_order.f k a0 a1 a2 a3 a4) (impl_order.f (k + 1) a0 a1 a2 a3 a4) := by
  intro a0 a1 a2 a3 a4 k
  have ih0 := impl_order.mono_l k
  unfold impl_order.f
  repeat' first
      | (with_reducible exact ih0 _ _ _ _ _ _ _ _)
      | (with_reducible exact slices_Reverse_int_int.mono _ _)
      | (with_reducible exact LeO.refl _)
      | (with_reducible exact LeO.none _)
      | (with_reducible refine LeO.ite ?_ ?_)
      | (with_reducible refine LeO.bind ?_ (fun _ => ?_))
      | exact ih0 _ _ _ _ _ _ _ _
      | exact slices_Reverse_int_int.mono _ _
      | exact LeO.none _
      | refine LeO.ite ?_ ?_
      | refine LeO.bind ?_ (fun _ => ?_)
set_option maxHeartbeats 8000000 in
set_option maxRecDepth 100000 in
theorem impl_order.calls (k : Nat) (A0_0 : Option Addr) (c0_0 : Nat) (l0_0 : List Int) (a0_1 : Int) (a0_2 : Int) (a0_3 : Int) (A0_4 : Option Addr) (c0_4 : Nat) (l0_4 : List (S47)) (r : List Int) (w : World) (hr0_0 : Kd.C (Kd.int .i64) w A0_0 l0_0.length l0_0) (hc0_0 : l0_0.length ≤ c0_0) (hr0_4 : Kd.C k47 w A0_4 l0_4.length l0_4) (hc0_4 : l0_4.length ≤ c0_4) (h : impl_order.f k l0_0 a0_1 a0_2 a0_3 l0_4 = some r) :
  Calls Try.prog 36 #[.agg #[.slice A0_0 l0_0.length c0_0, .int .i64 a0_1, .int .i64 a0_2, .int .i64 a0_3, .slice A0_4 l0_4.length c0_4]] w fun e w' => ∃ v0_ : Value, e = .returned (v0_) ∧ Kd.R (Kd.int .i64) 3 w' w.heap.size (fun _ => True) v0_ r ∧ Below w.heap.size w w' := by
 have hu29 := Try.underlying29
 have hu47 := Try.underlying47
 have HR0_0 := Zs0.mk hr0_0
 have HC0_0 := Zs0.mk hc0_0
 clear hr0_0 hc0_0
 have HR0_4 := Zs0.mk hr0_4
 have HC0_4 := Zs0.mk hc0_4
 clear hr0_4 hc0_4
 have HB := Zs0.mk (Below.refl w.heap.size w)
 have H : (if 0 ≤ (l0_4.length : Int) then (if ((l0_4.length : Int) : Int).toNat ≤ 281474976710656 then (impl_order.l0 k (List.replicate ((l0_4.length : Int) : Int).toNat false) (([] : List Int)) (([0] : List Int)) l0_0 a0_1 a0_2 a0_3 l0_4) else (none)) else (none)) = some r := h
 clear h
 have c2 := ipos H
 rw [if_pos c2] at H
 have c2b0 := eq_true c2
 have c2b1 := decide_eq_true c2
 clear c2
 have c3 := ipos H
 rw [if_pos c3] at H
 have c3b0 := eq_true c3
 have c3b1 := decide_eq_true c3
 clear c3
 obtain ⟨y102, hy102⟩ : ∃ y_ : List Bool, y_ = (List.replicate ((l0_4.length : Int) : Int).toNat false) := ⟨_, rfl⟩
 replace H : (impl_order.l0 k y102 (([] : List Int)) (([0] : List Int)) l0_0 a0_1 a0_2 a0_3 l0_4) = some r := by first | (rw [hy102]; with_reducible exact H) | (have H2_ := (Option.bind_some _ _).symm.trans H; rw [hy102]; with_reducible exact H2_) | (have H2_ := (Option.bind_some _ _).symm.trans H; with_reducible exact H2_) | with_reducible exact H | (rw [hy102]; exact H) | exact H
 have Ny102 := Zs0.mk hy102
 clear hy102
 obtain ⟨y105, hy105⟩ : ∃ y_ : List Int, y_ = (([] : List Int)) := ⟨_, rfl⟩
 replace H : (impl_order.l0 k y102 y105 (([0] : List Int)) l0_0 a0_1 a0_2 a0_3 l0_4) = some r := by first | (rw [hy105]; with_reducible exact H) | (have H2_ := (Option.bind_some _ _).symm.trans H; rw [hy105]; with_reducible exact H2_) | (have H2_ := (Option.bind_some _ _).symm.trans H; with_reducible exact H2_) | with_reducible exact H | (rw [hy105]; exact H) | exact H
 have Ny105 := Zs0.mk hy105
 clear hy105
 obtain ⟨y108, hy108⟩ : ∃ y_ : List Int, y_ = (([0] : List Int)) := ⟨_, rfl⟩
 replace H : (impl_order.l0 k y102 y105 y108 l0_0 a0_1 a0_2 a0_3 l0_4) = some r := by first | (rw [hy108]; with_reducible exact H) | (have H2_ := (Option.bind_some _ _).symm.trans H; rw [hy108]; with_reducible exact H2_) | (have H2_ := (Option.bind_some _ _).symm.trans H; with_reducible exact H2_) | with_reducible exact H | (rw [hy108]; exact H) | exact H
 have Ny108 := Zs0.mk hy108
 clear hy108
 have H' := Zs0.mk H
 clear H
 go_enter Try.func36, Try.ntmps36
 go_wp2_with (first | ((with_reducible refine gtD (N := 1) rfl ?_); refine bxE ?hg (N := 1) ?hd (cs := #[.slice A0_0 l0_0.length c0_0, .int .i64 a0_1, .int .i64 a0_2, .int .i64 a0_3, .slice A0_4 l0_4.length c0_4]) (t := 29) ?hr ?_; (case hd => rfl); (case hg => rfl); (case hr => first | (go_simp; done) | (go_simp; rfl)); intro gb101 hg w4 hbox hb; have n0_ := Zs0.mk (blT zB hb); have n1_ := Zs0.mk (hbox); have n2_ := Zs0.mk (zs hg : w.heap.size ≤ gb101); have n3_ := Zs0.mk (zs hg : w.heap.size ≤ gb101); revert n0_ n1_ n2_ n3_; clear HB; intro HB BK101 GW101 GE101; clear hb hbox hg; obtain ⟨hcz5_0, hcz5_1, hcz5_2, hcz5_3, hcz5_4, hfz5_0, hfz5_1, hfz5_2, hfz5_3, hfz5_4⟩ := bx5 BK101.out) | ((with_reducible refine gtD (N := 11) rfl ?_); refine Kd.R_make Kd.bool _ 4 rfl (N := 11) rfl 54 _ _ rfl (l0_4.length : Int) rfl rfl Try.underlying54 (.bool false) 1 info4 rfl (by decide) (by omega) false (ok := fun _ => True) (okp := fun _ => True) rfl (fun _ hk => hk) trivial zD (Nat.le_trans (Nat.mul_le_mul_right _ (zD : (l0_4.length : Int).toNat ≤ 281474976710656)) (by omega)) (Below.refl _ _) (Nat.le_refl _) ?_; intro v103 w6 ho7 hb hg_ hnew_; clear hg_ hnew_; (first | rw [← Ny102.out] at ho7 | (simp only [Int.reduceToNat] at ho7; rw [← Ny102.out] at ho7)); have n0_ := Zs0.mk (Kd.R_lower ho7 (blZ zB)); have n1_ := Zs0.mk (bkB (zG BK101.out) hb); have n2_ := Zs0.mk (blT zB hb); revert n0_ n1_ n2_; clear BK101 HB; intro HO104 BK101 HB; clear hb ho7) | ((with_reducible refine gtD (N := 12) rfl ?_); refine Kd.R_lit (Kd.int .i64) _ 3 ?hg (N := 12) ?hd (xs := ([] : List Int)) (inner := []) (ok := fun _ => True) (okp := fun _ => True) ?hr ?hp (fun _ hk => hk) trivial (Below.refl _ _) (Nat.le_refl _) (by simp) ?_; (case hd => rfl); (case hg => rfl); (case hr => first | (go_simp; done) | (go_simp; rfl)); (case hp => exact (Reps.none _ _)); intro v106 w8 ho9 hb hg_ hnew_; clear hg_ hnew_; (first | rw [← Ny105.out] at ho9 | (simp only [Int.reduceToNat] at ho9; rw [← Ny105.out] at ho9)); have n0_ := Zs0.mk (Kd.R_below (zR HO104.out) hb); have n1_ := Zs0.mk (Kd.R_lower ho9 (blZ zB)); have n2_ := Zs0.mk (bkB (zG BK101.out) hb); have n3_ := Zs0.mk (blT zB hb); revert n0_ n1_ n2_ n3_; clear HO104 BK101 HB; intro HO104 HO107 BK101 HB; clear hb ho9) | ((with_reducible refine gtD (N := 13) rfl ?_); refine Kd.R_lit (Kd.int .i64) _ 3 ?hg (N := 13) ?hd (xs := ([0] : List Int)) (inner := [.int .i64 0]) (ok := fun _ => True) (okp := fun _ => True) ?hr ?hp (fun _ hk => hk) trivial (Below.refl _ _) (Nat.le_refl _) (by simp) ?_; (case hd => rfl); (case hg => rfl); (case hr => first | (go_simp; done) | (go_simp; rfl)); (case hp => exact (Reps.one (show Kd.M (Kd.int .i64) _ _ _ 0 [.int .i64 0] from rfl) (Reps.none _ _))); intro v109 w10 ho11 hb hg_ hnew_; clear hg_ hnew_; (first | rw [← Ny108.out] at ho11 | (simp only [Int.reduceToNat] at ho11; rw [← Ny108.out] at ho11)); have n0_ := Zs0.mk (Kd.R_below (zR HO104.out) hb); have n1_ := Zs0.mk (Kd.R_elder' (zR HO107.out) (Kd.R_base ho11) hb); have n2_ := Zs0.mk (Kd.R_lower (Kd.R_new' ho11 (Kd.R_lt (zR HO107.out))) (blZ zB)); have n3_ := Zs0.mk (bkB (zG BK101.out) hb); have n4_ := Zs0.mk (blT zB hb); revert n0_ n1_ n2_ n3_ n4_; clear HO104 HO107 BK101 HB; intro HO104 HO107 HO110 BK101 HB; clear hb ho11))
 go_loopg [4, 5] k (fun kq v4 v5 w' => ∃ (x3_1 : List Bool) (x4_1 : List Int) (x5_1 : List Int), Zs0 (impl_order.l0 kq x3_1 x4_1 x5_1 l0_0 a0_1 a0_2 a0_3 l0_4 = some r) ∧ Zs0 (kq ≤ k) ∧ Zs0 (Kd.R Kd.bool 4 w' w.heap.size (fun _ => True) v103 x3_1) ∧ Zs0 (Kd.R (Kd.int .i64) 3 w' w.heap.size (fun k_ => some k_ ≠ (v5 : Value).ownBlock) v4 x4_1) ∧ Zs0 (Kd.R (Kd.int .i64) 3 w' w.heap.size (fun k_ => some k_ ≠ (v4 : Value).ownBlock) v5 x5_1) ∧ Zs0 (w'.heap[gb101]? = some (.cells #[(.slice A0_0 l0_0.length c0_0), .int .i64 a0_1, .int .i64 a0_2, .int .i64 a0_3, (.slice A0_4 l0_4.length c0_4)] 29 (0, 0))) ∧ Zs0 (Below w.heap.size w w'))
 case atStart => exact ⟨(y102), (y105), (y108), H', ⟨Nat.le_refl _⟩, ⟨zR HO104.out⟩, ⟨by (with_reducible repeat (first | apply Kd.rA1 | apply Kd.rD1 | apply Kd.rD2)); exact Kd.R_mono HO107.out (fun _ hk => hk.2)⟩, ⟨by (with_reducible repeat (first | apply Kd.rA1 | apply Kd.rD1 | apply Kd.rD2)); exact Kd.R_mono HO110.out (fun _ hk => hk.2)⟩, ⟨zG BK101.out⟩, ⟨zB⟩⟩
 case round =>
  clear H'
  try clear c2
  try clear c2b0
  try clear c2b1
  try clear p2
  try clear c3
  try clear c3b0
  try clear c3b1
  try clear hcz5_0 hcz5_1 hcz5_2 hcz5_3 hcz5_4 hfz5_0 hfz5_1 hfz5_2 hfz5_3 hfz5_4
  obtain ⟨x3_1, x4_1, x5_1, HA, HK1, HO_3, HO_4, HO_5, BK101, HB⟩ := hrel
  cases gk with
  | zero => exact absurd HA.out (by simp [impl_order.l0])
  | succ k1 =>
   have H := HA.out
   clear HA
   simp only [impl_order.l0] at H
   by_cases c12 : (x5_1.length : Int) > 0
   ·rw [if_pos c12] at H
    have c12b0 : decide (0 < (x5_1.length : Int)) = true := decide_eq_true c12
    have c12b1 : decide (0 < x5_1.length) = true := decide_eq_true (by omega)
    clear c12
    obtain ⟨ji13, hji13⟩ : ∃ j_ : Int, (wrap64 ((x5_1.length : Int) - 1)) = j_ := ⟨_, rfl⟩
    replace H : (if 0 ≤ (ji13) then (if (ji13) < (x5_1.length : Int) then (if (ji13) ≤ (x5_1.length : Int) then ((some (x5_1.take ((ji13) : Int).toNat : List Int)).bind fun y112 => (if 0 ≤ (rd x5_1 (ji13)) then (if (rd x5_1 (ji13)) < (x3_1.length : Int) then (if rdOf false x3_1 (rd x5_1 (ji13)) = true then (impl_order.l0 k1 x3_1 x4_1 y112 l0_0 a0_1 a0_2 a0_3 l0_4) else (if x4_1.length < 17592186044416 then (if (rd x5_1 (ji13)) < (l0_4.length : Int) then ((impl_nextOf.f ((rd_T47 l0_4 (rd x5_1 (ji13))).f0) ((rd_T47 l0_4 (rd x5_1 (ji13))).f1) ((rd_T47 l0_4 (rd x5_1 (ji13))).f2) ((rd_T47 l0_4 (rd x5_1 (ji13))).f3) ((rd_T47 l0_4 (rd x5_1 (ji13))).f4)).bind fun t121 => ((slices_Reverse_int_int.f k1 t121).bind fun t124 => (if y112.length + t124.length < 17592186044416 then (impl_order.l0 k1 (x3_1.set ((rd x5_1 (ji13)) : Int).toNat true) (x4_1 ++ [rd x5_1 (ji13)]) (y112 ++ t124) l0_0 a0_1 a0_2 a0_3 l0_4) else (none)))) else (none)) else (none))) else (none)) else (none))) else (none)) else (none)) else (none)) = some r := by first | (rw [hji13] at H; exact H) | (simp only [hji13] at H ⊢; exact H)
    have hji13w : (IntKind.i64.wrap ((x5_1.length : Int) - 1)) = ji13 := (i64_w _).trans hji13
    have c14 := ipos H
    rw [if_pos c14] at H
    have c14b0 := decide_eq_true c14
    clear c14
    have c15 := ipos H
    rw [if_pos c15] at H
    have c15b0 := decide_eq_true c15
    clear c15
    have c16 := ipos H
    rw [if_pos c16] at H
    have c16b0 := eq_true c16
    have c16b1 := decide_eq_true c16
    clear c16
    obtain ⟨y112, hy112⟩ : ∃ y_ : List Int, y_ = (x5_1.take ((ji13) : Int).toNat) := ⟨_, rfl⟩
    replace H : (if 0 ≤ (rd x5_1 (ji13)) then (if (rd x5_1 (ji13)) < (x3_1.length : Int) then (if rdOf false x3_1 (rd x5_1 (ji13)) = true then (impl_order.l0 k1 x3_1 x4_1 y112 l0_0 a0_1 a0_2 a0_3 l0_4) else (if x4_1.length < 17592186044416 then (if (rd x5_1 (ji13)) < (l0_4.length : Int) then ((impl_nextOf.f ((rd_T47 l0_4 (rd x5_1 (ji13))).f0) ((rd_T47 l0_4 (rd x5_1 (ji13))).f1) ((rd_T47 l0_4 (rd x5_1 (ji13))).f2) ((rd_T47 l0_4 (rd x5_1 (ji13))).f3) ((rd_T47 l0_4 (rd x5_1 (ji13))).f4)).bind fun t121 => ((slices_Reverse_int_int.f k1 t121).bind fun t124 => (if y112.length + t124.length < 17592186044416 then (impl_order.l0 k1 (x3_1.set ((rd x5_1 (ji13)) : Int).toNat true) (x4_1 ++ [rd x5_1 (ji13)]) (y112 ++ t124) l0_0 a0_1 a0_2 a0_3 l0_4) else (none)))) else (none)) else (none))) else (none)) else (none)) = some r := by first | (rw [hy112]; with_reducible exact H) | (have H2_ := (Option.bind_some _ _).symm.trans H; rw [hy112]; with_reducible exact H2_) | (have H2_ := (Option.bind_some _ _).symm.trans H; with_reducible exact H2_) | with_reducible exact H | (rw [hy112]; exact H) | exact H
    have Ny112 := Zs0.mk hy112
    clear hy112
    have c17 := ipos H
    rw [if_pos c17] at H
    have c17b0 := decide_eq_true c17
    clear c17
    have c18 := ipos H
    rw [if_pos c18] at H
    have c18b0 := decide_eq_true c18
    clear c18
    obtain ⟨bq19, hbq19⟩ : ∃ b_ : Bool, b_ = (rdOf false x3_1 (rd x5_1 (ji13))) := ⟨_, rfl⟩
    replace H : (if bq19 = true then (impl_order.l0 k1 x3_1 x4_1 y112 l0_0 a0_1 a0_2 a0_3 l0_4) else (if x4_1.length < 17592186044416 then (if (rd x5_1 (ji13)) < (l0_4.length : Int) then ((impl_nextOf.f ((rd_T47 l0_4 (rd x5_1 (ji13))).f0) ((rd_T47 l0_4 (rd x5_1 (ji13))).f1) ((rd_T47 l0_4 (rd x5_1 (ji13))).f2) ((rd_T47 l0_4 (rd x5_1 (ji13))).f3) ((rd_T47 l0_4 (rd x5_1 (ji13))).f4)).bind fun t121 => ((slices_Reverse_int_int.f k1 t121).bind fun t124 => (if y112.length + t124.length < 17592186044416 then (impl_order.l0 k1 (x3_1.set ((rd x5_1 (ji13)) : Int).toNat true) (x4_1 ++ [rd x5_1 (ji13)]) (y112 ++ t124) l0_0 a0_1 a0_2 a0_3 l0_4) else (none)))) else (none)) else (none))) = some r := by rw [← hbq19] at H; exact H
    have Nbq19 := Zs0.mk hbq19
    clear hbq19
    by_cases c20 : bq19 = true
    ·subst c20
     have H1 : (impl_order.l0 k1 x3_1 x4_1 y112 l0_0 a0_1 a0_2 a0_3 l0_4) = some r := by rw [if_pos rfl] at H; exact H
     clear H
     have H := H1
     clear H1
     have H' := Zs0.mk H
     clear H
     obtain ⟨Ao21, co21, eo21⟩ := Kd.R_slice HO_5.out
     subst eo21
     have p111 : 0 ≤ ((ji13) : Int) := zD
     have q111 : (ji13) < (x5_1.length : Int) := zD
     obtain ⟨ad111, e111, hx111_0⟩ := Kd.at_int (Kd.R_reads' HO_5.out).2.2 (ji13) p111 q111
     cases e111
     replace p111 := eq_true p111
     replace q111 := eq_true q111
     have q22 : ((ji13) : Int) ≤ ((x5_1.length : Int) : Int) := zD
     obtain ⟨i022, hi022, _, hsz22, _⟩ := info_parts info3
     have hcut22 := cut_to (P := Try.prog) 22 3 .i64 Try.underlying22 hi022 (some ad111) x5_1.length co21 (ji13) zD q22 (Kd.R_reads' HO_5.out).2.1
     have hr22 := Kd.R_take (m := ((ji13) : Int).toNat) HO_5.out (by omega)
     have hy22 : y112.length = ((ji13) : Int).toNat := (by rw [Ny112.out, List.length_take]; omega)
     rw [← Ny112.out] at hr22
     rw [← hy22] at hr22 hcut22
     clear hy22 hi022 hsz22 HO_5
     have HO114 := Zs0.mk hr22
     clear hr22
     replace q22 := eq_true q22
     obtain ⟨Ao23, co23, eo23⟩ := Kd.R_slice HO_3.out
     subst eo23
     have p115 : 0 ≤ ((rd x5_1 (ji13)) : Int) := zD
     have q115 : (rd x5_1 (ji13)) < (x3_1.length : Int) := zD
     obtain ⟨ad115, e115, hx115_0⟩ := Kd.at_bool (Kd.R_reads' HO_3.out).2.2 (rd x5_1 (ji13)) p115 q115
     (try rw [← Nbq19.out] at hx115_0)
     cases e115
     replace p115 := eq_true p115
     replace q115 := eq_true q115
     go_wp2
     go_roundg k1
     case measure => have := HK1.out; omega
     case rel => exact ⟨(x3_1), (x4_1), (y112), H', ⟨by have := HK1.out; omega⟩, ⟨zR HO_3.out⟩, ⟨zR HO_4.out⟩, ⟨zR HO114.out⟩, ⟨zG BK101.out⟩, ⟨zB⟩⟩
    ·replace c20 := Bool.eq_false_iff.mpr c20
     subst c20
     have H1 : (if x4_1.length < 17592186044416 then (if (rd x5_1 (ji13)) < (l0_4.length : Int) then ((impl_nextOf.f ((rd_T47 l0_4 (rd x5_1 (ji13))).f0) ((rd_T47 l0_4 (rd x5_1 (ji13))).f1) ((rd_T47 l0_4 (rd x5_1 (ji13))).f2) ((rd_T47 l0_4 (rd x5_1 (ji13))).f3) ((rd_T47 l0_4 (rd x5_1 (ji13))).f4)).bind fun t121 => ((slices_Reverse_int_int.f k1 t121).bind fun t124 => (if y112.length + t124.length < 17592186044416 then (impl_order.l0 k1 (x3_1.set ((rd x5_1 (ji13)) : Int).toNat true) (x4_1 ++ [rd x5_1 (ji13)]) (y112 ++ t124) l0_0 a0_1 a0_2 a0_3 l0_4) else (none)))) else (none)) else (none)) = some r := by rw [if_neg (show ¬ (false = true) by decide)] at H; exact H
     clear H
     have H := H1
     clear H1
     obtain ⟨y116, hy116⟩ : ∃ y_ : List Bool, y_ = (x3_1.set ((rd x5_1 (ji13)) : Int).toNat true) := ⟨_, rfl⟩
     replace H : (if x4_1.length < 17592186044416 then (if (rd x5_1 (ji13)) < (l0_4.length : Int) then ((impl_nextOf.f ((rd_T47 l0_4 (rd x5_1 (ji13))).f0) ((rd_T47 l0_4 (rd x5_1 (ji13))).f1) ((rd_T47 l0_4 (rd x5_1 (ji13))).f2) ((rd_T47 l0_4 (rd x5_1 (ji13))).f3) ((rd_T47 l0_4 (rd x5_1 (ji13))).f4)).bind fun t121 => ((slices_Reverse_int_int.f k1 t121).bind fun t124 => (if y112.length + t124.length < 17592186044416 then (impl_order.l0 k1 y116 (x4_1 ++ [rd x5_1 (ji13)]) (y112 ++ t124) l0_0 a0_1 a0_2 a0_3 l0_4) else (none)))) else (none)) else (none)) = some r := by first | (rw [hy116]; with_reducible exact H) | (have H2_ := (Option.bind_some _ _).symm.trans H; rw [hy116]; with_reducible exact H2_) | (have H2_ := (Option.bind_some _ _).symm.trans H; with_reducible exact H2_) | with_reducible exact H | (rw [hy116]; exact H) | exact H
     have Ny116 := Zs0.mk hy116
     clear hy116
     have c25 := ipos H
     rw [if_pos c25] at H
     have LMc25 := Zs0.mk c25
     clear c25
     obtain ⟨y117, hy117⟩ : ∃ y_ : List Int, y_ = (x4_1 ++ [rd x5_1 (ji13)]) := ⟨_, rfl⟩
     replace H : (if (rd x5_1 (ji13)) < (l0_4.length : Int) then ((impl_nextOf.f ((rd_T47 l0_4 (rd x5_1 (ji13))).f0) ((rd_T47 l0_4 (rd x5_1 (ji13))).f1) ((rd_T47 l0_4 (rd x5_1 (ji13))).f2) ((rd_T47 l0_4 (rd x5_1 (ji13))).f3) ((rd_T47 l0_4 (rd x5_1 (ji13))).f4)).bind fun t121 => ((slices_Reverse_int_int.f k1 t121).bind fun t124 => (if y112.length + t124.length < 17592186044416 then (impl_order.l0 k1 y116 y117 (y112 ++ t124) l0_0 a0_1 a0_2 a0_3 l0_4) else (none)))) else (none)) = some r := by first | (rw [hy117]; with_reducible exact H) | (have H2_ := (Option.bind_some _ _).symm.trans H; rw [hy117]; with_reducible exact H2_) | (have H2_ := (Option.bind_some _ _).symm.trans H; with_reducible exact H2_) | with_reducible exact H | (rw [hy117]; exact H) | exact H
     have Ny117 := Zs0.mk hy117
     clear hy117
     have c26 := ipos H
     rw [if_pos c26] at H
     have c26b0 := decide_eq_true c26
     clear c26
     replace H := Option.bind_eq_some_iff.mp H
     obtain ⟨t121, A270, H⟩ := H
     replace H : ((slices_Reverse_int_int.f k1 t121).bind fun t124 => (if y112.length + t124.length < 17592186044416 then (impl_order.l0 k1 y116 y117 (y112 ++ t124) l0_0 a0_1 a0_2 a0_3 l0_4) else (none))) = some r := H
     have A27 := Zs0.mk A270
     clear A270
     replace H := Option.bind_eq_some_iff.mp H
     obtain ⟨t124, A280, H⟩ := H
     replace H : (if y112.length + t124.length < 17592186044416 then (impl_order.l0 k1 y116 y117 (y112 ++ t124) l0_0 a0_1 a0_2 a0_3 l0_4) else (none)) = some r := H
     have A28 := Zs0.mk A280
     clear A280
     have c29 := ipos H
     rw [if_pos c29] at H
     have LMc29 := Zs0.mk c29
     clear c29
     obtain ⟨y125, hy125⟩ : ∃ y_ : List Int, y_ = (y112 ++ t124) := ⟨_, rfl⟩
     replace H : (impl_order.l0 k1 y116 y117 y125 l0_0 a0_1 a0_2 a0_3 l0_4) = some r := by first | (rw [hy125]; with_reducible exact H) | (have H2_ := (Option.bind_some _ _).symm.trans H; rw [hy125]; with_reducible exact H2_) | (have H2_ := (Option.bind_some _ _).symm.trans H; with_reducible exact H2_) | with_reducible exact H | (rw [hy125]; exact H) | exact H
     have Ny125 := Zs0.mk hy125
     clear hy125
     have H' := Zs0.mk H
     clear H
     obtain ⟨Ao30, co30, eo30⟩ := Kd.R_slice HO_5.out
     subst eo30
     have p111 : 0 ≤ ((ji13) : Int) := zD
     have q111 : (ji13) < (x5_1.length : Int) := zD
     obtain ⟨ad111, e111, hx111_0⟩ := Kd.at_int (Kd.R_reads' HO_5.out).2.2 (ji13) p111 q111
     cases e111
     replace p111 := eq_true p111
     replace q111 := eq_true q111
     have q31 : ((ji13) : Int) ≤ ((x5_1.length : Int) : Int) := zD
     obtain ⟨i031, hi031, _, hsz31, _⟩ := info_parts info3
     have hcut31 := cut_to (P := Try.prog) 22 3 .i64 Try.underlying22 hi031 (some ad111) x5_1.length co30 (ji13) zD q31 (Kd.R_reads' HO_5.out).2.1
     have hr31 := Kd.R_take (m := ((ji13) : Int).toNat) HO_5.out (by omega)
     have hy31 : y112.length = ((ji13) : Int).toNat := (by rw [Ny112.out, List.length_take]; omega)
     rw [← Ny112.out] at hr31
     rw [← hy31] at hr31 hcut31
     clear hy31 hi031 hsz31 HO_5
     have HO114 := Zs0.mk hr31
     clear hr31
     replace q31 := eq_true q31
     obtain ⟨Ao32, co32, eo32⟩ := Kd.R_slice HO_3.out
     subst eo32
     have p115 : 0 ≤ ((rd x5_1 (ji13)) : Int) := zD
     have q115 : (rd x5_1 (ji13)) < (x3_1.length : Int) := zD
     obtain ⟨ad115, e115, hx115_0⟩ := Kd.at_bool (Kd.R_reads' HO_3.out).2.2 (rd x5_1 (ji13)) p115 q115
     (try rw [← Nbq19.out] at hx115_0)
     cases e115
     replace p115 := eq_true p115
     replace q115 := eq_true q115
     have p24 : 0 ≤ ((rd x5_1 (ji13)) : Int) := zD
     have q24 : ((rd x5_1 (ji13)) : Int) < ((x3_1.length : Int) : Int) := zD
     obtain ⟨go24, co24, eo24, gb24, gl24, cl24, HG24⟩ := Kd.R_form HO_3.out (by omega)
     (first | cases eo24 | (injection eo24 with ea_ en_ ec_; (first | subst ea_ | (injection ea_ with ea_; subst ea_)); subst ec_; clear en_))
     have GB24 := Zs0.mk gb24
     have GG24 := Zs0.mk HG24
     clear gb24 gl24 HG24
     (first | simp only [add_plain] at hx115_0 | skip)
     obtain ⟨hx24_0, hf24_0⟩ := Kd.R_celln false HO_3.out ((rd x5_1 (ji13)) : Int) p24 q24
     replace p24 := eq_true p24
     replace q24 := eq_true q24
     have HP33 := Kd.R_putg HO_3.out ((rd x5_1 (ji13)) : Int) true
     go_wp2_with (first | ((with_reducible refine gate_store (t := 4) (p := 34) rfl ?_); refine store_event (t := 4) (p := 34) (v := ?vo_w34) (w1 := (wr.setCell ⟨go24, ((rd x5_1 (ji13)) : Int).toNat, none⟩ (.bool true))) ?hg ?ho ?hn ?hr ?_; (case ho => rfl); (case hg => rfl); (case hn => rfl); (case hr => first | (go_simp; done) | (go_simp; rfl)); intro w34 hw; have hg : wr.grownBy w34 (some go24) := (by rw [hw]; exact HP33.2); have hp_ : Kd.R Kd.bool 4 w34 w.heap.size (fun _ => True) (.slice (some ⟨go24, 0, none⟩) x3_1.length co32) y116 := (by rw [hw, Ny116.out]; exact HP33.1); clear HP33; have n0_ := Zs0.mk (hp_); have n1_ := Zs0.mk (Kd.R_over' (v := (.slice (some ⟨go24, 0, none⟩) x3_1.length co32)) (zR HO_4.out) (Kd.R_typed HO_3.out) (by decide) hg); have n2_ := Zs0.mk (Kd.R_over' (v := (.slice (some ⟨go24, 0, none⟩) x3_1.length co32)) (zR HO114.out) (Kd.R_typed HO_3.out) (by decide) hg); have n3_ := Zs0.mk (blk_grown (zG BK101.out) hg (Kd.R_ne HO_3.out BK101.out (by decide))); have n4_ := Zs0.mk ((by rw [hw]; exact blS (HB.out) GB24.out : Below w.heap.size w w34)); revert n0_ n1_ n2_ n3_ n4_; clear HO_3 HO_4 HO114 BK101 HB; intro HO_3 HO_4 HO114 BK101 HB; clear hg hw hp_) | ((with_reducible refine gate_builtin (b := .append) (xs := #[.tmp 35, .tmp 37]) rfl ?_); at_builtin; refine Kd.R_append (Kd.int .i64) (w0 := w) w.heap.size rfl (.tmp 35) (.tmp 37) 22 3 (.int .i64 0) 8 rfl Try.underlying22 info3 rfl (by decide) (by omega) u4 x4_1 (rd x5_1 (ji13)) [.int .i64 (rd x5_1 (ji13))] (fun k_ => some k_ ≠ (.slice (some ad111) y112.length co30 : Value).ownBlock) (fun _ => False) rfl rfl ?aP (fun _ hk => hk.elim) ?aF ?aO ?aB ?aS ?aL ?_; (case aP => exact rfl); (case aB => exact zB); (case aF => exact (fun k_ hk => Kd.fresh' (Kd.R_lt (zR HO114.out)) k_ hk)); (case aO => exact (zR HO_4.out)); (case aS => exact (blZ zB)); (case aL => have := LMc25.out; omega); intro v118 w35 ho hb hg hat; rw [← Ny117.out] at ho; have n0_ := Zs0.mk (Kd.R_over' (zR HO_3.out) (Kd.R_typed (zR HO_4.out)) (by decide) hg); have n1_ := Zs0.mk (Kd.R_after (ok := (fun _ => True)) (by (with_reducible repeat (first | apply Kd.rA1 | apply Kd.rD1 | apply Kd.rD2)); exact Kd.R_mono HO114.out (fun _ hk => ⟨trivial, hk⟩)) hg hat); have n2_ := Zs0.mk (blk_grown (zG BK101.out) hg (Kd.R_ne HO_4.out BK101.out (by decide))); have n3_ := Zs0.mk (hb); have n4_ := Zs0.mk (ho); revert n0_ n1_ n2_ n3_ n4_; clear HO_3 HO114 BK101 HB HO_4; intro HO_3 HO114 BK101 HB HO119; clear ho hb hg hat; obtain ⟨hcz36_0, hcz36_1, hcz36_2, hcz36_3, hcz36_4, hfz36_0, hfz36_1, hfz36_2, hfz36_3, hfz36_4⟩ := bx5 BK101.out; have p120 : 0 ≤ ((rd x5_1 (ji13)) : Int) := zD; have q120 : (rd x5_1 (ji13)) < (l0_4.length : Int) := zD; obtain ⟨ad120, A120_0, c120_0, e120, hx120_0, hx120_1, hx120_2, hx120_3, hx120_4, hl120_0, hi120_0⟩ := at_T47 HR0_4.out (rd x5_1 (ji13)) p120 q120; cases e120; replace hx120_0 := zx HB.out hx120_0; replace hx120_1 := zx HB.out hx120_1; replace hx120_2 := zx HB.out hx120_2; replace hx120_3 := zx HB.out hx120_3; replace hx120_4 := zx HB.out hx120_4; have HR120_0 := Zs0.mk hi120_0; have HC120_0 := Zs0.mk hl120_0; clear hi120_0 hl120_0; replace p120 := eq_true p120; replace q120 := eq_true q120) | ((with_reducible refine gtC (f := 57) rfl ?_); refine goesL_ (some 44) rfl rfl Try.func57 (by kernel_rfl) rfl #[.agg #[.slice A120_0 ((rd_T47 l0_4 (rd x5_1 (ji13))).f0).length c120_0, .int .i64 ((rd_T47 l0_4 (rd x5_1 (ji13))).f1), .int .i64 ((rd_T47 l0_4 (rd x5_1 (ji13))).f2), .int .i64 ((rd_T47 l0_4 (rd x5_1 (ji13))).f3), .int .i64 ((rd_T47 l0_4 (rd x5_1 (ji13))).f4)]] rfl (by (try simp only [List.map_toArray, List.map_cons, List.map_nil]); first | done | (simp only [hji13]; rfl) | rfl | (simp only [List.length_drop, List.length_take]; rfl)) ?_; (with_reducible refine (impl_nextOf.calls _ _ ((rd_T47 l0_4 (rd x5_1 (ji13))).f0) ((rd_T47 l0_4 (rd x5_1 (ji13))).f1) ((rd_T47 l0_4 (rd x5_1 (ji13))).f2) ((rd_T47 l0_4 (rd x5_1 (ji13))).f3) ((rd_T47 l0_4 (rd x5_1 (ji13))).f4) t121 _ ?side1 ?side2 A27.out).mono ?_); (case side1 => exact zC HR120_0.out); (case side2 => exact HC120_0.out); rintro e w37 ⟨v122, rfl, ho0, hb⟩; refine ⟨_, rfl, ?_⟩; have n0_ := Zs0.mk (Kd.R_below (zR HO_3.out) hb); have n1_ := Zs0.mk (Kd.R_elder' (zR HO114.out) (Kd.R_base ho0) hb); have n2_ := Zs0.mk (Kd.R_elder' (zR HO119.out) (Kd.R_base ho0) hb); have n3_ := Zs0.mk (Kd.R_lower (Kd.R_new' (Kd.R_new' ho0 (Kd.R_lt (zR HO114.out))) (Kd.R_lt (zR HO119.out))) (blZ zB)); have n4_ := Zs0.mk (bkB (zG BK101.out) hb); have n5_ := Zs0.mk (blT zB hb); revert n0_ n1_ n2_ n3_ n4_ n5_; clear HO_3 HO114 HO119 BK101 HB; intro HO_3 HO114 HO119 HO123 BK101 HB; (try clear hb); (try clear hb2); (try clear hk); (try clear hi); (try clear ho0); obtain ⟨Ao38, co38, eo38⟩ := Kd.R_slice HO123.out; subst eo38) | ((with_reducible refine gtC (f := 58) rfl ?_); refine goesL_ (some 46) rfl rfl Try.func58 (by kernel_rfl) rfl #[.slice Ao38 t121.length co38] rfl zM ?_; (with_reducible refine (slices_Reverse_int_int.calls k1 (fun k_ => some k_ = (.slice Ao38 t121.length co38 : Value).ownBlock) (.slice Ao38 t121.length co38) t121 t124 w _ ?side1 ?side2 A28.out).mono ?_); (case side1 => repeat (first | (with_reducible first | exact HB.out | apply blA | apply pbN | apply bl1 | refine blS ?_ GE101.out) | exact HB.out)); (case side2 => exact Kd.R_tight rfl HO123.out); rintro e w39 ⟨rfl, hy0, hb, hkp⟩; refine ⟨_, rfl, ?_⟩; have n0_ := Zs0.mk (Kd.R_mono (ok' := fun k_ => True) (Kd.R_keptB ((Kd.R_apart' HO_3.out (Kd.R_typed HO123.out) (by decide))) hkp (by intro k_ hk_ hs_; first | exact (hk_.2) hs_ | exact (hk_.1) hs_ | exact (hk_.1.1) hs_ | exact (hk_.1.2) hs_ | exact (hk_.2.1) hs_ | exact (hk_.2.2) hs_ | exact (hk_.1.1.1) hs_ | exact (hk_.1.1.2) hs_ | exact (hk_.1.2.1) hs_ | exact (hk_.1.2.2) hs_ | exact (hk_.2.1.1) hs_ | exact (hk_.2.1.2) hs_ | exact (hk_.2.2.1) hs_ | exact (hk_.2.2.2) hs_ | exact (hk_.1.1.1.1) hs_ | exact (hk_.1.1.1.2) hs_ | exact (hk_.1.1.2.1) hs_ | exact (hk_.1.1.2.2) hs_ | exact (hk_.1.2.1.1) hs_ | exact (hk_.1.2.1.2) hs_ | exact (hk_.1.2.2.1) hs_ | exact (hk_.1.2.2.2) hs_ | exact (hk_.2.1.1.1) hs_ | exact (hk_.2.1.1.2) hs_ | exact (hk_.2.1.2.1) hs_ | exact (hk_.2.1.2.2) hs_ | exact (hk_.2.2.1.1) hs_ | exact (hk_.2.2.1.2) hs_ | exact (hk_.2.2.2.1) hs_ | exact (hk_.2.2.2.2) hs_)) (fun k_ hk_ => trivial)); have n1_ := Zs0.mk (Kd.R_mono (ok' := fun k_ => some k_ ≠ (v118 : Value).ownBlock ∧ some k_ ≠ (.slice Ao38 t121.length co38 : Value).ownBlock) (Kd.R_keptB (HO114.out) hkp (by intro k_ hk_ hs_; first | exact (hk_.2) hs_ | exact (hk_.1) hs_ | exact (hk_.1.1) hs_ | exact (hk_.1.2) hs_ | exact (hk_.2.1) hs_ | exact (hk_.2.2) hs_ | exact (hk_.1.1.1) hs_ | exact (hk_.1.1.2) hs_ | exact (hk_.1.2.1) hs_ | exact (hk_.1.2.2) hs_ | exact (hk_.2.1.1) hs_ | exact (hk_.2.1.2) hs_ | exact (hk_.2.2.1) hs_ | exact (hk_.2.2.2) hs_ | exact (hk_.1.1.1.1) hs_ | exact (hk_.1.1.1.2) hs_ | exact (hk_.1.1.2.1) hs_ | exact (hk_.1.1.2.2) hs_ | exact (hk_.1.2.1.1) hs_ | exact (hk_.1.2.1.2) hs_ | exact (hk_.1.2.2.1) hs_ | exact (hk_.1.2.2.2) hs_ | exact (hk_.2.1.1.1) hs_ | exact (hk_.2.1.1.2) hs_ | exact (hk_.2.1.2.1) hs_ | exact (hk_.2.1.2.2) hs_ | exact (hk_.2.2.1.1) hs_ | exact (hk_.2.2.1.2) hs_ | exact (hk_.2.2.2.1) hs_ | exact (hk_.2.2.2.2) hs_)) (fun k_ hk_ => ⟨(by first | exact hk_.1.1.2 | exact hk_.1 | exact hk_.2 | exact hk_.1.1 | exact hk_.1.2 | exact hk_.2.1 | exact hk_.2.2 | exact hk_.1.1.1 | exact hk_.1.2.1 | exact hk_.1.2.2 | exact hk_.2.1.1 | exact hk_.2.1.2 | exact hk_.2.2.1 | exact hk_.2.2.2 | exact hk_.1.1.1.1 | exact hk_.1.1.1.2 | exact hk_.1.1.2.1 | exact hk_.1.1.2.2 | exact hk_.1.2.1.1 | exact hk_.1.2.1.2 | exact hk_.1.2.2.1 | exact hk_.1.2.2.2 | exact hk_.2.1.1.1 | exact hk_.2.1.1.2 | exact hk_.2.1.2.1 | exact hk_.2.1.2.2 | exact hk_.2.2.1.1 | exact hk_.2.2.1.2 | exact hk_.2.2.2.1 | exact hk_.2.2.2.2), (by first | exact hk_.1.2 | exact hk_.1 | exact hk_.2 | exact hk_.1.1 | exact hk_.2.1 | exact hk_.2.2 | exact hk_.1.1.1 | exact hk_.1.1.2 | exact hk_.1.2.1 | exact hk_.1.2.2 | exact hk_.2.1.1 | exact hk_.2.1.2 | exact hk_.2.2.1 | exact hk_.2.2.2 | exact hk_.1.1.1.1 | exact hk_.1.1.1.2 | exact hk_.1.1.2.1 | exact hk_.1.1.2.2 | exact hk_.1.2.1.1 | exact hk_.1.2.1.2 | exact hk_.1.2.2.1 | exact hk_.1.2.2.2 | exact hk_.2.1.1.1 | exact hk_.2.1.1.2 | exact hk_.2.1.2.1 | exact hk_.2.1.2.2 | exact hk_.2.2.1.1 | exact hk_.2.2.1.2 | exact hk_.2.2.2.1 | exact hk_.2.2.2.2)⟩)); have n2_ := Zs0.mk (blk_kept (zG BK101.out) hkp (fun hs_ => (fun e_ => (Kd.R_ne HO123.out BK101.out (by decide)) e_) hs_)); have n3_ := Zs0.mk (Kd.R_mono (ok' := fun k_ => some k_ ≠ (.slice (some ad111) y112.length co30 : Value).ownBlock ∧ some k_ ≠ (.slice Ao38 t121.length co38 : Value).ownBlock) (Kd.R_keptB (HO119.out) hkp (by intro k_ hk_ hs_; first | exact (hk_.2) hs_ | exact (hk_.1) hs_ | exact (hk_.1.1) hs_ | exact (hk_.1.2) hs_ | exact (hk_.2.1) hs_ | exact (hk_.2.2) hs_ | exact (hk_.1.1.1) hs_ | exact (hk_.1.1.2) hs_ | exact (hk_.1.2.1) hs_ | exact (hk_.1.2.2) hs_ | exact (hk_.2.1.1) hs_ | exact (hk_.2.1.2) hs_ | exact (hk_.2.2.1) hs_ | exact (hk_.2.2.2) hs_ | exact (hk_.1.1.1.1) hs_ | exact (hk_.1.1.1.2) hs_ | exact (hk_.1.1.2.1) hs_ | exact (hk_.1.1.2.2) hs_ | exact (hk_.1.2.1.1) hs_ | exact (hk_.1.2.1.2) hs_ | exact (hk_.1.2.2.1) hs_ | exact (hk_.1.2.2.2) hs_ | exact (hk_.2.1.1.1) hs_ | exact (hk_.2.1.1.2) hs_ | exact (hk_.2.1.2.1) hs_ | exact (hk_.2.1.2.2) hs_ | exact (hk_.2.2.1.1) hs_ | exact (hk_.2.2.1.2) hs_ | exact (hk_.2.2.2.1) hs_ | exact (hk_.2.2.2.2) hs_)) (fun k_ hk_ => ⟨(by first | exact hk_.1.1 | exact hk_.1 | exact hk_.2 | exact hk_.1.2 | exact hk_.2.1 | exact hk_.2.2 | exact hk_.1.1.1 | exact hk_.1.1.2 | exact hk_.1.2.1 | exact hk_.1.2.2 | exact hk_.2.1.1 | exact hk_.2.1.2 | exact hk_.2.2.1 | exact hk_.2.2.2 | exact hk_.1.1.1.1 | exact hk_.1.1.1.2 | exact hk_.1.1.2.1 | exact hk_.1.1.2.2 | exact hk_.1.2.1.1 | exact hk_.1.2.1.2 | exact hk_.1.2.2.1 | exact hk_.1.2.2.2 | exact hk_.2.1.1.1 | exact hk_.2.1.1.2 | exact hk_.2.1.2.1 | exact hk_.2.1.2.2 | exact hk_.2.2.1.1 | exact hk_.2.2.1.2 | exact hk_.2.2.2.1 | exact hk_.2.2.2.2), (by first | exact hk_.1.2 | exact hk_.1 | exact hk_.2 | exact hk_.1.1 | exact hk_.2.1 | exact hk_.2.2 | exact hk_.1.1.1 | exact hk_.1.1.2 | exact hk_.1.2.1 | exact hk_.1.2.2 | exact hk_.2.1.1 | exact hk_.2.1.2 | exact hk_.2.2.1 | exact hk_.2.2.2 | exact hk_.1.1.1.1 | exact hk_.1.1.1.2 | exact hk_.1.1.2.1 | exact hk_.1.1.2.2 | exact hk_.1.2.1.1 | exact hk_.1.2.1.2 | exact hk_.1.2.2.1 | exact hk_.1.2.2.2 | exact hk_.2.1.1.1 | exact hk_.2.1.1.2 | exact hk_.2.1.2.1 | exact hk_.2.1.2.2 | exact hk_.2.2.1.1 | exact hk_.2.2.1.2 | exact hk_.2.2.2.1 | exact hk_.2.2.2.2)⟩)); have n4_ := Zs0.mk (Kd.R_reok rfl hy0 (fun k_ e_ => HO123.out.1 k_ e_)); have n5_ := Zs0.mk (hb); revert n0_ n1_ n2_ n3_ n4_ n5_; clear HO_3 HO114 BK101 HO119 HO123 HB; intro HO_3 HO114 BK101 HO119 HO123 HB; (try clear hb); (try clear hkp); (try clear hy0)) | ((with_reducible refine gate_builtin (b := .append) (xs := #[.tmp 47, .tmp 48]) rfl ?_); at_builtin; refine Kd.R_append_rows (Kd.int .i64) (w0 := w) w.heap.size rfl (.tmp 47) (.tmp 48) 22 3 (.int .i64 0) 8 rfl Try.underlying22 info3 rfl (by decide) (by omega) (.slice (some ad111) y112.length co30) y112 t124 _ _ _ (fun k_ => some k_ ≠ (v118 : Value).ownBlock ∧ some k_ ≠ (.slice Ao38 t121.length co38 : Value).ownBlock) (fun _ => False) rfl rfl ?aO ?aR (fun _ _ h => h) (fun _ h => h.elim) ?aF ?aB ?aS ?aL ?_; (case aR => rw [show t121.length = t124.length from (Kd.R_reads' HO123.out).1]; repeat (first | exact (Kd.R_reads' HO123.out).2.2 | (with_reducible refine Kd.cA1 ?_ _) | (with_reducible refine Kd.cD1 ?_ _) | (with_reducible refine Kd.cD2 ?_))); (case aB => exact zB); (case aF => exact (fun k_ hk => ⟨Kd.fresh' (Kd.R_lt (zR HO119.out)) k_ hk, Kd.fresh' (Kd.R_lt (zR HO123.out)) k_ hk⟩)); (case aO => exact (zR HO114.out)); (case aS => exact (blZ zB)); (case aL => have := LMc29.out; have hlx_ := (Kd.R_reads' HO123.out).1; omega); intro v126 w40 ho hb hg hat; rw [← Ny125.out] at ho; have n0_ := Zs0.mk (Kd.R_over' (zR HO_3.out) (Kd.R_typed (zR HO114.out)) (by decide) hg); have n1_ := Zs0.mk (blk_grown (zG BK101.out) hg (Kd.R_ne HO114.out BK101.out (by decide))); have n2_ := Zs0.mk (Kd.R_after (ok := (fun k_ => some k_ ≠ (.slice Ao38 t121.length co38 : Value).ownBlock)) (by (with_reducible repeat (first | apply Kd.rA1 | apply Kd.rD1 | apply Kd.rD2)); exact Kd.R_mono HO119.out (fun _ hk => ⟨hk.2, hk.1⟩)) hg hat); have n3_ := Zs0.mk (Kd.R_after (ok := (fun k_ => some k_ ≠ (v118 : Value).ownBlock)) (by (with_reducible repeat (first | apply Kd.rA1 | apply Kd.rD1 | apply Kd.rD2)); exact Kd.R_mono HO123.out (fun _ hk => ⟨hk.2, hk.1.2⟩)) hg hat); have n4_ := Zs0.mk (hb); have n5_ := Zs0.mk (ho); revert n0_ n1_ n2_ n3_ n4_ n5_; clear HO_3 BK101 HO119 HO123 HB HO114; intro HO_3 BK101 HO119 HO123 HB HO127; clear ho hb hg hat))
     go_roundg k1
     case measure => have := HK1.out; omega
     case rel => exact ⟨(y116), (y117), (y125), H', ⟨by have := HK1.out; omega⟩, ⟨zR HO_3.out⟩, ⟨by (with_reducible repeat (first | apply Kd.rA1 | apply Kd.rD1 | apply Kd.rD2)); exact Kd.R_mono HO119.out (fun _ hk => hk.2)⟩, ⟨by (with_reducible repeat (first | apply Kd.rA1 | apply Kd.rD1 | apply Kd.rD2)); exact Kd.R_mono HO127.out (fun _ hk => hk.1)⟩, ⟨zG BK101.out⟩, ⟨zB⟩⟩
   ·rw [if_neg c12] at H
    have c12b0 : decide (0 < (x5_1.length : Int)) = false := decide_eq_false c12
    have c12b1 : decide (0 < x5_1.length) = false := decide_eq_false (by omega)
    clear c12
    obtain rfl := Option.some.inj H
    obtain ⟨Ao41, co41, eo41⟩ := Kd.R_slice HO_5.out
    subst eo41
    go_wp2
    go_ret
    exact ⟨_, zr, by (with_reducible repeat (first | apply Kd.rA1 | apply Kd.rD1 | apply Kd.rD2)); exact Kd.R_mono HO_4.out (fun _ hk => trivial), zB⟩

end Go.Proofs.Ytcbpbnkoolpibaa.P
