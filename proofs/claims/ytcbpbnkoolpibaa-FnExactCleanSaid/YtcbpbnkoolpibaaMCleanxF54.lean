/- Printed by a program over this seat's translation: a Lean function for each Go function, and that the Go code comes to its answers. -/
import Derived.Test.YtcbpbnkoolpibaaMClean0a
import Derived.Test.YtcbpbnkoolpibaaMClean0b
import Derived.Test.YtcbpbnkoolpibaaMClean1sa
set_option maxHeartbeats 8000000
set_option maxRecDepth 100000
set_option linter.unusedVariables false
set_option linter.unusedSimpArgs false
namespace Go.Proofs.Ytcbpbnkoolpibaa.P
open RowKit YtcbpbnkoolpibaaW.wA YtcbpbnkoolpibaaW.wB YtcbpbnkoolpibaaW.wC
attribute [local go_sem] max2_int min2_int max_two min_two max_three min_three max_four min_four

def impl_isBlock.j0 : Nat → Bool → Bool → Bool → List Int → Int → Int → Int → List (S47) → List (S57) → Int → Int → Int → Int → Option (Bool)
  | 0, _, _, _, _, _, _, _, _, _, _, _, _, _ => none
  | k + 1, x5, x6, x7, x102000, x102001, x102002, x102003, x102004, x103000, x103001, x103002, x103003, x103004 => if x102003 < 0 then (some false) else (if x103001 = 0 then (if x5 = true then (if x103002 = 0 then (some (x103004 == 0)) else (some false)) else (some false)) else (if x103001 = 1 then (if x5 = true then (if x6 = true then (some x7) else (some false)) else (some false)) else (if x103001 = 2 then (if x7 = true then (if x103003 = 0 then (some (x103004 == 0)) else (some false)) else (some false)) else (some false))))
def impl_isBlock.f (k : Nat) (l0_0 : List Int) (a0_1 : Int) (a0_2 : Int) (a0_3 : Int) (l0_4 : List (S47)) (l1_0 : List (S57)) (a1_1 : Int) (a1_2 : Int) (a1_3 : Int) (a1_4 : Int) : Option (Bool) := (impl_Instr_74.f l0_0 a0_3 l1_0).bind fun t103 => (if t103 = true then (some false) else ((impl_in.f a1_3 0 (wrap64 ((l0_4.length : Int) - 1))).bind fun t104 => ((impl_in.f a1_4 0 (wrap64 ((l0_4.length : Int) - 1))).bind fun t105 => (if a1_2 ≥ 0 then (impl_isBlock.j0 k t104 t105 (decide (a1_2 < a0_3)) l0_0 a0_1 a0_2 a0_3 l0_4 l1_0 a1_1 a1_2 a1_3 a1_4) else (impl_isBlock.j0 k t104 t105 false l0_0 a0_1 a0_2 a0_3 l0_4 l1_0 a1_1 a1_2 a1_3 a1_4)))))
theorem impl_isBlock.mono_l : ∀ k, (∀ y0 y1 y2 y3 y4 y5 y6 y7 y8 y9 y10 y11 y12, LeO (impl_isBlock.j0 k y0 y1 y2 y3 y4 y5 y6 y7 y8 y9 y10 y11 y12) (impl_isBlock.j0 (k + 1) y0 y1 y2 y3 y4 y5 y6 y7 y8 y9 y10 y11 y12))
  | 0 => fun _ _ _ _ _ _ _ _ _ _ _ _ _ r h => by simp [impl_isBlock.j0] at h
  | k + 1 => by
    have ih0 := impl_isBlock.mono_l k
    · intro y0 y1 y2 y3 y4 y5 y6 y7 y8 y9 y10 y11 y12
      unfold impl_isBlock.j0
      repeat' (first | (with_reducible first | exact ih0 _ _ _ _ _ _ _ _ _ _ _ _ _ | exact LeO.refl _ | exact LeO.none _ | refine LeO.ite ?_ ?_ | refine LeO.bind ?_ (fun _ => ?_)) | exact ih0 _ _ _ _ _ _ _ _ _ _ _ _ _ | exact LeO.none _ | refine LeO.ite ?_ ?_ | refine LeO.bind ?_ (fun _ => ?_))
theorem impl_isBlock.mono : ∀ a0 a1 a2 a3 a4 a5 a6 a7 a8 a9 k, LeO (impl_isBlock.f k a0 a1 a2 a3 a4 a5 a6 a7 a8 a9) (impl_isBlock.f (k + 1) a0 a1 a2 a3 a4 a5 a6 a7 a8 a9) := by
  intro a0 a1 a2 a3 a4 a5 a6 a7 a8 a9 k
  have ih0 := impl_isBlock.mono_l k
  unfold impl_isBlock.f
  repeat' (first | (with_reducible first | exact ih0 _ _ _ _ _ _ _ _ _ _ _ _ _ | exact LeO.refl _ | exact LeO.none _ | refine LeO.ite ?_ ?_ | refine LeO.bind ?_ (fun _ => ?_)) | exact ih0 _ _ _ _ _ _ _ _ _ _ _ _ _ | exact LeO.none _ | refine LeO.ite ?_ ?_ | refine LeO.bind ?_ (fun _ => ?_))
theorem impl_isBlock.calls (k : Nat) (A0_0 : Option Addr) (c0_0 : Nat) (l0_0 : List Int) (a0_1 : Int) (a0_2 : Int) (a0_3 : Int) (A0_4 : Option Addr) (c0_4 : Nat) (l0_4 : List (S47)) (A1_0 : Option Addr) (c1_0 : Nat) (l1_0 : List (S57)) (a1_1 : Int) (a1_2 : Int) (a1_3 : Int) (a1_4 : Int) (r : Bool) (w : World) (hr0_0 : Kd.C (Kd.int .i64) w A0_0 l0_0.length l0_0) (hc0_0 : l0_0.length ≤ c0_0) (hr0_4 : Kd.C k47 w A0_4 l0_4.length l0_4) (hc0_4 : l0_4.length ≤ c0_4) (hr1_0 : Kd.C k57 w A1_0 l1_0.length l1_0) (hc1_0 : l1_0.length ≤ c1_0) (h : impl_isBlock.f k l0_0 a0_1 a0_2 a0_3 l0_4 l1_0 a1_1 a1_2 a1_3 a1_4 = some r) :
  Calls Try.prog 54 #[.agg #[.slice A0_0 l0_0.length c0_0, .int .i64 a0_1, .int .i64 a0_2, .int .i64 a0_3, .slice A0_4 l0_4.length c0_4], .agg #[.slice A1_0 l1_0.length c1_0, .int .i64 a1_1, .int .i64 a1_2, .int .i64 a1_3, .int .i64 a1_4]] w fun e w' => e = .returned (.bool r) ∧ Below w.heap.size w w' := by
 have hu29 := Try.underlying29
 have hu47 := Try.underlying47
 have HR0_0 := Zs0.mk hr0_0
 have HC0_0 := Zs0.mk hc0_0
 clear hr0_0 hc0_0
 have HR0_4 := Zs0.mk hr0_4
 have HC0_4 := Zs0.mk hc0_4
 clear hr0_4 hc0_4
 have HR1_0 := Zs0.mk hr1_0
 have HC1_0 := Zs0.mk hc1_0
 clear hr1_0 hc1_0
 have HB := Zs0.mk (Below.refl w.heap.size w)
 have H : ((impl_Instr_74.f l0_0 a0_3 l1_0).bind fun t103 => (if t103 = true then (some false) else ((impl_in.f a1_3 0 (wrap64 ((l0_4.length : Int) - 1))).bind fun t104 => ((impl_in.f a1_4 0 (wrap64 ((l0_4.length : Int) - 1))).bind fun t105 => (if a1_2 ≥ 0 then (impl_isBlock.j0 k t104 t105 (decide (a1_2 < a0_3)) l0_0 a0_1 a0_2 a0_3 l0_4 l1_0 a1_1 a1_2 a1_3 a1_4) else (impl_isBlock.j0 k t104 t105 false l0_0 a0_1 a0_2 a0_3 l0_4 l1_0 a1_1 a1_2 a1_3 a1_4)))))) = some r := h
 clear h
 replace H := Option.bind_eq_some_iff.mp H
 obtain ⟨t103, A30, H⟩ := H
 replace H : (if t103 = true then (some false) else ((impl_in.f a1_3 0 (wrap64 ((l0_4.length : Int) - 1))).bind fun t104 => ((impl_in.f a1_4 0 (wrap64 ((l0_4.length : Int) - 1))).bind fun t105 => (if a1_2 ≥ 0 then (impl_isBlock.j0 k t104 t105 (decide (a1_2 < a0_3)) l0_0 a0_1 a0_2 a0_3 l0_4 l1_0 a1_1 a1_2 a1_3 a1_4) else (impl_isBlock.j0 k t104 t105 false l0_0 a0_1 a0_2 a0_3 l0_4 l1_0 a1_1 a1_2 a1_3 a1_4))))) = some r := H
 have A3 := Zs0.mk A30
 clear A30
 by_cases c4 : t103 = true
 ·subst c4
  have H1 : (some false) = some r := by rw [if_pos rfl] at H; exact H
  clear H
  have H := H1
  clear H1
  obtain rfl := Option.some.inj H
  go_enter Try.func54, Try.ntmps54
  go_wp2_with (first | ((with_reducible refine gtD (N := 2) rfl ?_); refine bxE ?hg (N := 2) ?hd (cs := #[.slice A0_0 l0_0.length c0_0, .int .i64 a0_1, .int .i64 a0_2, .int .i64 a0_3, .slice A0_4 l0_4.length c0_4]) (t := 29) ?hr ?_; (case hd => rfl); (case hg => rfl); (case hr => first | (go_simp; done) | (go_simp; rfl)); intro gb101 hg w5 hbox hb; have n0_ := Zs0.mk (blT zB hb); have n1_ := Zs0.mk (hbox); have n2_ := Zs0.mk (zs hg : w.heap.size ≤ gb101); have n3_ := Zs0.mk (zs hg : w.heap.size ≤ gb101); revert n0_ n1_ n2_ n3_; clear HB; intro HB BK101 GW101 GE101; clear hb hbox hg) | ((with_reducible refine gtD (N := 3) rfl ?_); refine bxE ?hg (N := 3) ?hd (cs := #[.slice A1_0 l1_0.length c1_0, .int .i64 a1_1, .int .i64 a1_2, .int .i64 a1_3, .int .i64 a1_4]) (t := 47) ?hr ?_; (case hd => rfl); (case hg => rfl); (case hr => first | (go_simp; done) | (go_simp; rfl)); intro gb102 hg w6 hbox hb; have n0_ := Zs0.mk (bkB (zG BK101.out) hb); have n1_ := Zs0.mk (blT zB hb); have n2_ := Zs0.mk (hbox); have n3_ := Zs0.mk (zs hg : w.heap.size ≤ gb102); have n4_ := Zs0.mk (zs hg : w.heap.size ≤ gb102); have n5_ := Zs0.mk ((by rw [hg]; exact Nat.ne_of_lt (blk_lt (zG BK101.out)) : gb101 ≠ gb102)); have n6_ := Zs0.mk ((by rw [hg]; exact Nat.ne_of_gt (blk_lt (zG BK101.out)) : gb102 ≠ gb101)); revert n0_ n1_ n2_ n3_ n4_ n5_ n6_; clear BK101 HB; intro BK101 HB BK102 GW102 GE102 NB101_102 NB102_101; clear hb hbox hg; have hnb7 := NB102_101.out; have hnc7 := NB101_102.out; obtain ⟨hcz8_0, hcz8_1, hcz8_2, hcz8_3, hcz8_4, hfz8_0, hfz8_1, hfz8_2, hfz8_3, hfz8_4⟩ := bx5 BK102.out) | (go_at_call 74; (with_reducible refine (impl_Instr_74.calls gb101 _ _ l0_0 a0_1 a0_2 a0_3 _ _ l0_4 _ _ l1_0 true _ (Kd.C_max HR0_0.out) ?side1 ?side2 ((bkC (g := gb101) (zG BK101.out) 0).trans rfl) ((bkC (g := gb101) (zG BK101.out) 1).trans rfl) ((bkC (g := gb101) (zG BK101.out) 2).trans rfl) ((bkC (g := gb101) (zG BK101.out) 3).trans rfl) ((bkC (g := gb101) (zG BK101.out) 4).trans rfl) A3.out).mono ?_); (case side1 => exact zC HR1_0.out); (case side2 => exact HC1_0.out); rintro e w9 ⟨rfl, hb⟩; have n0_ := Zs0.mk (bkB (zG BK101.out) hb); have n1_ := Zs0.mk (bkB (zG BK102.out) hb); have n2_ := Zs0.mk (blT zB hb); revert n0_ n1_ n2_; clear BK101 BK102 HB; intro BK101 BK102 HB; (try clear hb); (try clear hb2); (try clear hk); (try clear hi)))
  go_ret
  exact ⟨zr, zB⟩
 ·replace c4 := Bool.eq_false_iff.mpr c4
  subst c4
  have H1 : ((impl_in.f a1_3 0 (wrap64 ((l0_4.length : Int) - 1))).bind fun t104 => ((impl_in.f a1_4 0 (wrap64 ((l0_4.length : Int) - 1))).bind fun t105 => (if a1_2 ≥ 0 then (impl_isBlock.j0 k t104 t105 (decide (a1_2 < a0_3)) l0_0 a0_1 a0_2 a0_3 l0_4 l1_0 a1_1 a1_2 a1_3 a1_4) else (impl_isBlock.j0 k t104 t105 false l0_0 a0_1 a0_2 a0_3 l0_4 l1_0 a1_1 a1_2 a1_3 a1_4)))) = some r := by rw [if_neg (show ¬ (false = true) by decide)] at H; exact H
  clear H
  have H := H1
  clear H1
  have HC10 := Zs0.mk H
  clear H
  go_enter Try.func54, Try.ntmps54
  go_upto_region 3 with (first | ((with_reducible refine gtD (N := 2) rfl ?_); refine bxE ?hg (N := 2) ?hd (cs := #[.slice A0_0 l0_0.length c0_0, .int .i64 a0_1, .int .i64 a0_2, .int .i64 a0_3, .slice A0_4 l0_4.length c0_4]) (t := 29) ?hr ?_; (case hd => rfl); (case hg => rfl); (case hr => first | (go_simp; done) | (go_simp; rfl)); intro gb101 hg w11 hbox hb; have n0_ := Zs0.mk (blT zB hb); have n1_ := Zs0.mk (hbox); have n2_ := Zs0.mk (zs hg : w.heap.size ≤ gb101); have n3_ := Zs0.mk (zs hg : w.heap.size ≤ gb101); revert n0_ n1_ n2_ n3_; clear HB; intro HB BK101 GW101 GE101; clear hb hbox hg) | ((with_reducible refine gtD (N := 3) rfl ?_); refine bxE ?hg (N := 3) ?hd (cs := #[.slice A1_0 l1_0.length c1_0, .int .i64 a1_1, .int .i64 a1_2, .int .i64 a1_3, .int .i64 a1_4]) (t := 47) ?hr ?_; (case hd => rfl); (case hg => rfl); (case hr => first | (go_simp; done) | (go_simp; rfl)); intro gb102 hg w12 hbox hb; have n0_ := Zs0.mk (bkB (zG BK101.out) hb); have n1_ := Zs0.mk (blT zB hb); have n2_ := Zs0.mk (hbox); have n3_ := Zs0.mk (zs hg : w.heap.size ≤ gb102); have n4_ := Zs0.mk (zs hg : w.heap.size ≤ gb102); have n5_ := Zs0.mk ((by rw [hg]; exact Nat.ne_of_lt (blk_lt (zG BK101.out)) : gb101 ≠ gb102)); have n6_ := Zs0.mk ((by rw [hg]; exact Nat.ne_of_gt (blk_lt (zG BK101.out)) : gb102 ≠ gb101)); revert n0_ n1_ n2_ n3_ n4_ n5_ n6_; clear BK101 HB; intro BK101 HB BK102 GW102 GE102 NB101_102 NB102_101; clear hb hbox hg; have hnb13 := NB102_101.out; have hnc13 := NB101_102.out; obtain ⟨hcz14_0, hcz14_1, hcz14_2, hcz14_3, hcz14_4, hfz14_0, hfz14_1, hfz14_2, hfz14_3, hfz14_4⟩ := bx5 BK102.out) | (go_at_call 74; (with_reducible refine (impl_Instr_74.calls gb101 _ _ l0_0 a0_1 a0_2 a0_3 _ _ l0_4 _ _ l1_0 false _ (Kd.C_max HR0_0.out) ?side1 ?side2 ((bkC (g := gb101) (zG BK101.out) 0).trans rfl) ((bkC (g := gb101) (zG BK101.out) 1).trans rfl) ((bkC (g := gb101) (zG BK101.out) 2).trans rfl) ((bkC (g := gb101) (zG BK101.out) 3).trans rfl) ((bkC (g := gb101) (zG BK101.out) 4).trans rfl) A3.out).mono ?_); (case side1 => exact zC HR1_0.out); (case side2 => exact HC1_0.out); rintro e w15 ⟨rfl, hb⟩; have n0_ := Zs0.mk (bkB (zG BK101.out) hb); have n1_ := Zs0.mk (bkB (zG BK102.out) hb); have n2_ := Zs0.mk (blT zB hb); revert n0_ n1_ n2_; clear BK101 BK102 HB; intro BK101 BK102 HB; (try clear hb); (try clear hb2); (try clear hk); (try clear hi)))
  (try simp only [Act.put, List.setIfInBounds_toArray, List.set_cons_zero, List.set_cons_succ])
  go_cut [5, 6, 7] (fun v5 v6 v7 wc => ∃ (kq : Nat) (x5_9 : Bool) (x6_9 : Bool) (x7_9 : Bool), v5 = .bool x5_9 ∧ v6 = .bool x6_9 ∧ v7 = .bool x7_9 ∧ Zs0 (impl_isBlock.j0 kq x5_9 x6_9 x7_9 l0_0 a0_1 a0_2 a0_3 l0_4 l1_0 a1_1 a1_2 a1_3 a1_4 = some r) ∧ Zs0 (kq ≤ k) ∧ Zs0 (wc.heap[gb101]? = some (.cells #[(.slice A0_0 l0_0.length c0_0), .int .i64 a0_1, .int .i64 a0_2, .int .i64 a0_3, (.slice A0_4 l0_4.length c0_4)] 29 (0, 0))) ∧ Zs0 (wc.heap[gb102]? = some (.cells #[(.slice A1_0 l1_0.length c1_0), .int .i64 a1_1, .int .i64 a1_2, .int .i64 a1_3, .int .i64 a1_4] 47 (0, 0))) ∧ Zs0 (Below w.heap.size w wc))
  case first =>
   have H := HC10.out
   clear HC10
   replace H := Option.bind_eq_some_iff.mp H
   obtain ⟨t104, A160, H⟩ := H
   replace H : ((impl_in.f a1_4 0 (wrap64 ((l0_4.length : Int) - 1))).bind fun t105 => (if a1_2 ≥ 0 then (impl_isBlock.j0 k t104 t105 (decide (a1_2 < a0_3)) l0_0 a0_1 a0_2 a0_3 l0_4 l1_0 a1_1 a1_2 a1_3 a1_4) else (impl_isBlock.j0 k t104 t105 false l0_0 a0_1 a0_2 a0_3 l0_4 l1_0 a1_1 a1_2 a1_3 a1_4))) = some r := H
   have A16 := Zs0.mk A160
   clear A160
   replace H := Option.bind_eq_some_iff.mp H
   obtain ⟨t105, A170, H⟩ := H
   replace H : (if a1_2 ≥ 0 then (impl_isBlock.j0 k t104 t105 (decide (a1_2 < a0_3)) l0_0 a0_1 a0_2 a0_3 l0_4 l1_0 a1_1 a1_2 a1_3 a1_4) else (impl_isBlock.j0 k t104 t105 false l0_0 a0_1 a0_2 a0_3 l0_4 l1_0 a1_1 a1_2 a1_3 a1_4)) = some r := H
   have A17 := Zs0.mk A170
   clear A170
   by_cases c18 : a1_2 ≥ 0
   ·rw [if_pos c18] at H
    have c18b0 : decide (0 ≤ a1_2) = true := decide_eq_true c18
    clear c18
    (first | rw [c18b0] | (simp only [i64_w, i32_w]; rw [c18b0]) | skip)
    have H' := Zs0.mk H
    clear H
    have hnb19 := NB102_101.out
    have hnc19 := NB101_102.out
    obtain ⟨hcz20_0, hcz20_1, hcz20_2, hcz20_3, hcz20_4, hfz20_0, hfz20_1, hfz20_2, hfz20_3, hfz20_4⟩ := bx5 BK102.out
    obtain ⟨hcz21_0, hcz21_1, hcz21_2, hcz21_3, hcz21_4, hfz21_0, hfz21_1, hfz21_2, hfz21_3, hfz21_4⟩ := bx5 BK101.out
    go_wp2_with (first | (go_at_call 53; (with_reducible refine (impl_in.calls a1_3 0 (wrap64 ((l0_4.length : Int) - 1)) t104 _ A16.out).mono ?_); rintro e w' ⟨rfl, ⟨nd, rfl⟩⟩; (try first | exact ⟨rfl, _, World.drewN_drewN _ _ _⟩ | exact ⟨rfl, _, Eq.trans (World.drewN_drewN _ _ _) (congrArg (World.drewN _) (Nat.add_assoc _ _ _))⟩)) | (go_at_call 53; (with_reducible refine (impl_in.calls a1_4 0 (wrap64 ((l0_4.length : Int) - 1)) t105 _ A17.out).mono ?_); rintro e w' ⟨rfl, ⟨nd, rfl⟩⟩; (try first | exact ⟨rfl, _, World.drewN_drewN _ _ _⟩ | exact ⟨rfl, _, Eq.trans (World.drewN_drewN _ _ _) (congrArg (World.drewN _) (Nat.add_assoc _ _ _))⟩)))
    repeat (go_quiet (first | (go_at_call 53; (with_reducible refine (impl_in.calls a1_3 0 (wrap64 ((l0_4.length : Int) - 1)) t104 _ A16.out).mono ?_); rintro e w' ⟨rfl, ⟨nd, rfl⟩⟩; (try first | exact ⟨rfl, _, World.drewN_drewN _ _ _⟩ | exact ⟨rfl, _, Eq.trans (World.drewN_drewN _ _ _) (congrArg (World.drewN _) (Nat.add_assoc _ _ _))⟩)) | (go_at_call 53; (with_reducible refine (impl_in.calls a1_4 0 (wrap64 ((l0_4.length : Int) - 1)) t105 _ A17.out).mono ?_); rintro e w' ⟨rfl, ⟨nd, rfl⟩⟩; (try first | exact ⟨rfl, _, World.drewN_drewN _ _ _⟩ | exact ⟨rfl, _, Eq.trans (World.drewN_drewN _ _ _) (congrArg (World.drewN _) (Nat.add_assoc _ _ _))⟩))); try go_wp2_with (first | (go_at_call 53; (with_reducible refine (impl_in.calls a1_3 0 (wrap64 ((l0_4.length : Int) - 1)) t104 _ A16.out).mono ?_); rintro e w' ⟨rfl, ⟨nd, rfl⟩⟩; (try first | exact ⟨rfl, _, World.drewN_drewN _ _ _⟩ | exact ⟨rfl, _, Eq.trans (World.drewN_drewN _ _ _) (congrArg (World.drewN _) (Nat.add_assoc _ _ _))⟩)) | (go_at_call 53; (with_reducible refine (impl_in.calls a1_4 0 (wrap64 ((l0_4.length : Int) - 1)) t105 _ A17.out).mono ?_); rintro e w' ⟨rfl, ⟨nd, rfl⟩⟩; (try first | exact ⟨rfl, _, World.drewN_drewN _ _ _⟩ | exact ⟨rfl, _, Eq.trans (World.drewN_drewN _ _ _) (congrArg (World.drewN _) (Nat.add_assoc _ _ _))⟩))))
    go_meet
    case rel => exact ⟨_, (t104), (t105), (decide (a1_2 < a0_3)), zq, zq, zq, H', ⟨by first | omega | exact Nat.le_refl _⟩, ⟨zG BK101.out⟩, ⟨zG BK102.out⟩, ⟨zB⟩⟩
   ·rw [if_neg c18] at H
    have c18b0 : decide (0 ≤ a1_2) = false := decide_eq_false c18
    clear c18
    (first | rw [c18b0] | (simp only [i64_w, i32_w]; rw [c18b0]) | skip)
    have H' := Zs0.mk H
    clear H
    have hnb22 := NB102_101.out
    have hnc22 := NB101_102.out
    obtain ⟨hcz23_0, hcz23_1, hcz23_2, hcz23_3, hcz23_4, hfz23_0, hfz23_1, hfz23_2, hfz23_3, hfz23_4⟩ := bx5 BK102.out
    obtain ⟨hcz24_0, hcz24_1, hcz24_2, hcz24_3, hcz24_4, hfz24_0, hfz24_1, hfz24_2, hfz24_3, hfz24_4⟩ := bx5 BK101.out
    go_wp2_with (first | (go_at_call 53; (with_reducible refine (impl_in.calls a1_3 0 (wrap64 ((l0_4.length : Int) - 1)) t104 _ A16.out).mono ?_); rintro e w' ⟨rfl, ⟨nd, rfl⟩⟩; (try first | exact ⟨rfl, _, World.drewN_drewN _ _ _⟩ | exact ⟨rfl, _, Eq.trans (World.drewN_drewN _ _ _) (congrArg (World.drewN _) (Nat.add_assoc _ _ _))⟩)) | (go_at_call 53; (with_reducible refine (impl_in.calls a1_4 0 (wrap64 ((l0_4.length : Int) - 1)) t105 _ A17.out).mono ?_); rintro e w' ⟨rfl, ⟨nd, rfl⟩⟩; (try first | exact ⟨rfl, _, World.drewN_drewN _ _ _⟩ | exact ⟨rfl, _, Eq.trans (World.drewN_drewN _ _ _) (congrArg (World.drewN _) (Nat.add_assoc _ _ _))⟩)))
    repeat (go_quiet (first | (go_at_call 53; (with_reducible refine (impl_in.calls a1_3 0 (wrap64 ((l0_4.length : Int) - 1)) t104 _ A16.out).mono ?_); rintro e w' ⟨rfl, ⟨nd, rfl⟩⟩; (try first | exact ⟨rfl, _, World.drewN_drewN _ _ _⟩ | exact ⟨rfl, _, Eq.trans (World.drewN_drewN _ _ _) (congrArg (World.drewN _) (Nat.add_assoc _ _ _))⟩)) | (go_at_call 53; (with_reducible refine (impl_in.calls a1_4 0 (wrap64 ((l0_4.length : Int) - 1)) t105 _ A17.out).mono ?_); rintro e w' ⟨rfl, ⟨nd, rfl⟩⟩; (try first | exact ⟨rfl, _, World.drewN_drewN _ _ _⟩ | exact ⟨rfl, _, Eq.trans (World.drewN_drewN _ _ _) (congrArg (World.drewN _) (Nat.add_assoc _ _ _))⟩))); try go_wp2_with (first | (go_at_call 53; (with_reducible refine (impl_in.calls a1_3 0 (wrap64 ((l0_4.length : Int) - 1)) t104 _ A16.out).mono ?_); rintro e w' ⟨rfl, ⟨nd, rfl⟩⟩; (try first | exact ⟨rfl, _, World.drewN_drewN _ _ _⟩ | exact ⟨rfl, _, Eq.trans (World.drewN_drewN _ _ _) (congrArg (World.drewN _) (Nat.add_assoc _ _ _))⟩)) | (go_at_call 53; (with_reducible refine (impl_in.calls a1_4 0 (wrap64 ((l0_4.length : Int) - 1)) t105 _ A17.out).mono ?_); rintro e w' ⟨rfl, ⟨nd, rfl⟩⟩; (try first | exact ⟨rfl, _, World.drewN_drewN _ _ _⟩ | exact ⟨rfl, _, Eq.trans (World.drewN_drewN _ _ _) (congrArg (World.drewN _) (Nat.add_assoc _ _ _))⟩))))
    go_meet
    case rel => exact ⟨_, (t104), (t105), (false), zq, zq, zq, H', ⟨by first | omega | exact Nat.le_refl _⟩, ⟨zG BK101.out⟩, ⟨zG BK102.out⟩, ⟨zB⟩⟩
  case rest =>
   clear HC10
   try clear c1
   try clear c2
   try clear p2
   try clear c4
   try clear c5
   try clear p6
   try clear c7
   try clear c13
   try clear c18
   try clear c18b0
   try clear c19
   try clear c22
   try clear hcz14_0 hcz14_1 hcz14_2 hcz14_3 hcz14_4
   try clear hcz20_0 hcz20_1 hcz20_2 hcz20_3 hcz20_4
   try clear hcz21_0 hcz21_1 hcz21_2 hcz21_3 hcz21_4
   try clear hcz23_0 hcz23_1 hcz23_2 hcz23_3 hcz23_4
   try clear hcz24_0 hcz24_1 hcz24_2 hcz24_3 hcz24_4
   try clear hcz8_0 hcz8_1 hcz8_2 hcz8_3 hcz8_4
   try clear hfz14_0 hfz14_1 hfz14_2 hfz14_3 hfz14_4
   try clear hfz20_0 hfz20_1 hfz20_2 hfz20_3 hfz20_4
   try clear hfz21_0 hfz21_1 hfz21_2 hfz21_3 hfz21_4
   try clear hfz23_0 hfz23_1 hfz23_2 hfz23_3 hfz23_4
   try clear hfz24_0 hfz24_1 hfz24_2 hfz24_3 hfz24_4
   try clear hfz8_0 hfz8_1 hfz8_2 hfz8_3 hfz8_4
   obtain ⟨kq, x5_9, x6_9, x7_9, rfl, rfl, rfl, HA, HJ9, BK101, BK102, HB⟩ := hcut
   cases kq with
   | zero => exact absurd HA.out (by simp [impl_isBlock.j0])
   | succ kj9 =>
    have H := HA.out
    clear HA
    simp only [impl_isBlock.j0] at H
    by_cases c25 : a0_3 < 0
    ·rw [if_pos c25] at H
     have c25b0 : decide (a0_3 < 0) = true := decide_eq_true c25
     clear c25
     obtain rfl := Option.some.inj H
     have hnb26 := NB101_102.out
     have hnc26 := NB102_101.out
     obtain ⟨hcz27_0, hcz27_1, hcz27_2, hcz27_3, hcz27_4, hfz27_0, hfz27_1, hfz27_2, hfz27_3, hfz27_4⟩ := bx5 BK101.out
     go_wp2
     repeat (go_quiet (fail); try go_wp2)
     go_ret
     exact ⟨zr, zB⟩
    ·rw [if_neg c25] at H
     have c25b0 : decide (a0_3 < 0) = false := decide_eq_false c25
     clear c25
     by_cases c28 : a1_1 = 0
     ·rw [if_pos c28] at H
      have c28b0 : (a1_1 == 0) = true := beq_iff_eq.mpr c28
      have c28b1 : (a1_1 != 0) = false := bne_eq_false_iff_eq.mpr c28
      clear c28
      by_cases c29 : x5_9 = true
      ·subst c29
       have H1 : (if a1_2 = 0 then (some (a1_4 == 0)) else (some false)) = some r := by rw [if_pos rfl] at H; exact H
       clear H
       have H := H1
       clear H1
       by_cases c30 : a1_2 = 0
       ·rw [if_pos c30] at H
        have c30b0 : (a1_2 == 0) = true := beq_iff_eq.mpr c30
        have c30b1 : (a1_2 != 0) = false := bne_eq_false_iff_eq.mpr c30
        clear c30
        obtain rfl := Option.some.inj H
        have hnb31 := NB101_102.out
        have hnc31 := NB102_101.out
        obtain ⟨hcz32_0, hcz32_1, hcz32_2, hcz32_3, hcz32_4, hfz32_0, hfz32_1, hfz32_2, hfz32_3, hfz32_4⟩ := bx5 BK101.out
        obtain ⟨hcz33_0, hcz33_1, hcz33_2, hcz33_3, hcz33_4, hfz33_0, hfz33_1, hfz33_2, hfz33_3, hfz33_4⟩ := bx5 BK102.out
        go_wp2
        repeat (go_quiet (fail); try go_wp2)
        go_ret
        exact ⟨zr, zB⟩
       ·rw [if_neg c30] at H
        have c30b0 : (a1_2 == 0) = false := beq_eq_false_iff_ne.mpr c30
        have c30b1 : (a1_2 != 0) = true := bne_iff_ne.mpr c30
        obtain rfl := Option.some.inj H
        have hnb34 := NB101_102.out
        have hnc34 := NB102_101.out
        obtain ⟨hcz35_0, hcz35_1, hcz35_2, hcz35_3, hcz35_4, hfz35_0, hfz35_1, hfz35_2, hfz35_3, hfz35_4⟩ := bx5 BK101.out
        obtain ⟨hcz36_0, hcz36_1, hcz36_2, hcz36_3, hcz36_4, hfz36_0, hfz36_1, hfz36_2, hfz36_3, hfz36_4⟩ := bx5 BK102.out
        go_wp2
        repeat (go_quiet (fail); try go_wp2)
        go_ret
        exact ⟨zr, zB⟩
      ·replace c29 := Bool.eq_false_iff.mpr c29
       subst c29
       have H1 : (some false) = some r := by rw [if_neg (show ¬ (false = true) by decide)] at H; exact H
       clear H
       have H := H1
       clear H1
       obtain rfl := Option.some.inj H
       have hnb37 := NB101_102.out
       have hnc37 := NB102_101.out
       obtain ⟨hcz38_0, hcz38_1, hcz38_2, hcz38_3, hcz38_4, hfz38_0, hfz38_1, hfz38_2, hfz38_3, hfz38_4⟩ := bx5 BK101.out
       obtain ⟨hcz39_0, hcz39_1, hcz39_2, hcz39_3, hcz39_4, hfz39_0, hfz39_1, hfz39_2, hfz39_3, hfz39_4⟩ := bx5 BK102.out
       go_wp2
       repeat (go_quiet (fail); try go_wp2)
       go_ret
       exact ⟨zr, zB⟩
     ·rw [if_neg c28] at H
      have c28b0 : (a1_1 == 0) = false := beq_eq_false_iff_ne.mpr c28
      have c28b1 : (a1_1 != 0) = true := bne_iff_ne.mpr c28
      by_cases c40 : a1_1 = 1
      ·rw [if_pos c40] at H
       have c40b0 : (a1_1 == 1) = true := beq_iff_eq.mpr c40
       have c40b1 : (a1_1 != 1) = false := bne_eq_false_iff_eq.mpr c40
       clear c40
       by_cases c41 : x5_9 = true
       ·subst c41
        have H1 : (if x6_9 = true then (some x7_9) else (some false)) = some r := by rw [if_pos rfl] at H; exact H
        clear H
        have H := H1
        clear H1
        by_cases c42 : x6_9 = true
        ·subst c42
         have H1 : (some x7_9) = some r := by rw [if_pos rfl] at H; exact H
         clear H
         have H := H1
         clear H1
         obtain rfl := Option.some.inj H
         have hnb43 := NB101_102.out
         have hnc43 := NB102_101.out
         obtain ⟨hcz44_0, hcz44_1, hcz44_2, hcz44_3, hcz44_4, hfz44_0, hfz44_1, hfz44_2, hfz44_3, hfz44_4⟩ := bx5 BK101.out
         obtain ⟨hcz45_0, hcz45_1, hcz45_2, hcz45_3, hcz45_4, hfz45_0, hfz45_1, hfz45_2, hfz45_3, hfz45_4⟩ := bx5 BK102.out
         go_wp2
         repeat (go_quiet (fail); try go_wp2)
         go_ret
         exact ⟨zr, zB⟩
        ·replace c42 := Bool.eq_false_iff.mpr c42
         subst c42
         have H1 : (some false) = some r := by rw [if_neg (show ¬ (false = true) by decide)] at H; exact H
         clear H
         have H := H1
         clear H1
         obtain rfl := Option.some.inj H
         have hnb46 := NB101_102.out
         have hnc46 := NB102_101.out
         obtain ⟨hcz47_0, hcz47_1, hcz47_2, hcz47_3, hcz47_4, hfz47_0, hfz47_1, hfz47_2, hfz47_3, hfz47_4⟩ := bx5 BK101.out
         obtain ⟨hcz48_0, hcz48_1, hcz48_2, hcz48_3, hcz48_4, hfz48_0, hfz48_1, hfz48_2, hfz48_3, hfz48_4⟩ := bx5 BK102.out
         go_wp2
         repeat (go_quiet (fail); try go_wp2)
         go_ret
         exact ⟨zr, zB⟩
       ·replace c41 := Bool.eq_false_iff.mpr c41
        subst c41
        have H1 : (some false) = some r := by rw [if_neg (show ¬ (false = true) by decide)] at H; exact H
        clear H
        have H := H1
        clear H1
        obtain rfl := Option.some.inj H
        have hnb49 := NB101_102.out
        have hnc49 := NB102_101.out
        obtain ⟨hcz50_0, hcz50_1, hcz50_2, hcz50_3, hcz50_4, hfz50_0, hfz50_1, hfz50_2, hfz50_3, hfz50_4⟩ := bx5 BK101.out
        obtain ⟨hcz51_0, hcz51_1, hcz51_2, hcz51_3, hcz51_4, hfz51_0, hfz51_1, hfz51_2, hfz51_3, hfz51_4⟩ := bx5 BK102.out
        go_wp2
        repeat (go_quiet (fail); try go_wp2)
        go_ret
        exact ⟨zr, zB⟩
      ·rw [if_neg c40] at H
       have c40b0 : (a1_1 == 1) = false := beq_eq_false_iff_ne.mpr c40
       have c40b1 : (a1_1 != 1) = true := bne_iff_ne.mpr c40
       by_cases c52 : a1_1 = 2
       ·rw [if_pos c52] at H
        have c52b0 : (a1_1 == 2) = true := beq_iff_eq.mpr c52
        have c52b1 : (a1_1 != 2) = false := bne_eq_false_iff_eq.mpr c52
        clear c52
        by_cases c53 : x7_9 = true
        ·subst c53
         have H1 : (if a1_3 = 0 then (some (a1_4 == 0)) else (some false)) = some r := by rw [if_pos rfl] at H; exact H
         clear H
         have H := H1
         clear H1
         by_cases c54 : a1_3 = 0
         ·rw [if_pos c54] at H
          have c54b0 : (a1_3 == 0) = true := beq_iff_eq.mpr c54
          have c54b1 : (a1_3 != 0) = false := bne_eq_false_iff_eq.mpr c54
          clear c54
          obtain rfl := Option.some.inj H
          have hnb55 := NB101_102.out
          have hnc55 := NB102_101.out
          obtain ⟨hcz56_0, hcz56_1, hcz56_2, hcz56_3, hcz56_4, hfz56_0, hfz56_1, hfz56_2, hfz56_3, hfz56_4⟩ := bx5 BK101.out
          obtain ⟨hcz57_0, hcz57_1, hcz57_2, hcz57_3, hcz57_4, hfz57_0, hfz57_1, hfz57_2, hfz57_3, hfz57_4⟩ := bx5 BK102.out
          go_wp2
          repeat (go_quiet (fail); try go_wp2)
          go_ret
          exact ⟨zr, zB⟩
         ·rw [if_neg c54] at H
          have c54b0 : (a1_3 == 0) = false := beq_eq_false_iff_ne.mpr c54
          have c54b1 : (a1_3 != 0) = true := bne_iff_ne.mpr c54
          obtain rfl := Option.some.inj H
          have hnb58 := NB101_102.out
          have hnc58 := NB102_101.out
          obtain ⟨hcz59_0, hcz59_1, hcz59_2, hcz59_3, hcz59_4, hfz59_0, hfz59_1, hfz59_2, hfz59_3, hfz59_4⟩ := bx5 BK101.out
          obtain ⟨hcz60_0, hcz60_1, hcz60_2, hcz60_3, hcz60_4, hfz60_0, hfz60_1, hfz60_2, hfz60_3, hfz60_4⟩ := bx5 BK102.out
          go_wp2
          repeat (go_quiet (fail); try go_wp2)
          go_ret
          exact ⟨zr, zB⟩
        ·replace c53 := Bool.eq_false_iff.mpr c53
         subst c53
         have H1 : (some false) = some r := by rw [if_neg (show ¬ (false = true) by decide)] at H; exact H
         clear H
         have H := H1
         clear H1
         obtain rfl := Option.some.inj H
         have hnb61 := NB101_102.out
         have hnc61 := NB102_101.out
         obtain ⟨hcz62_0, hcz62_1, hcz62_2, hcz62_3, hcz62_4, hfz62_0, hfz62_1, hfz62_2, hfz62_3, hfz62_4⟩ := bx5 BK101.out
         obtain ⟨hcz63_0, hcz63_1, hcz63_2, hcz63_3, hcz63_4, hfz63_0, hfz63_1, hfz63_2, hfz63_3, hfz63_4⟩ := bx5 BK102.out
         go_wp2
         repeat (go_quiet (fail); try go_wp2)
         go_ret
         exact ⟨zr, zB⟩
       ·rw [if_neg c52] at H
        have c52b0 : (a1_1 == 2) = false := beq_eq_false_iff_ne.mpr c52
        have c52b1 : (a1_1 != 2) = true := bne_iff_ne.mpr c52
        obtain rfl := Option.some.inj H
        have hnb64 := NB101_102.out
        have hnc64 := NB102_101.out
        obtain ⟨hcz65_0, hcz65_1, hcz65_2, hcz65_3, hcz65_4, hfz65_0, hfz65_1, hfz65_2, hfz65_3, hfz65_4⟩ := bx5 BK101.out
        obtain ⟨hcz66_0, hcz66_1, hcz66_2, hcz66_3, hcz66_4, hfz66_0, hfz66_1, hfz66_2, hfz66_3, hfz66_4⟩ := bx5 BK102.out
        go_wp2
        repeat (go_quiet (fail); try go_wp2)
        go_ret
        exact ⟨zr, zB⟩

end Go.Proofs.Ytcbpbnkoolpibaa.P
