/- Printed by a program over this seat's translation: a Lean function for each Go function, and that the Go code comes to its answers. -/
import Derived.Test.YtcbpbnkoolpibaaMTrim0a
import Derived.Test.YtcbpbnkoolpibaaMTrim1a
import Derived.Test.YtcbpbnkoolpibaaMTrim0b
import Derived.Test.YtcbpbnkoolpibaaMTrimxF21
import Derived.Test.YtcbpbnkoolpibaaMTrim0c
namespace Go.Proofs.Ytcbpbnkoolpibaa.P
open Go.RowKit Go.Proofs.YtcbpbnkoolpibaaW.PrintWords Go.Proofs.YtcbpbnkoolpibaaW.PrintLast Go.Proofs.YtcbpbnkoolpibaaW.PrintMore
attribute [local go_sem] max2_int min2_int max_two min_two max_three min_three max_four min_four   -- for this text's walks alone
set_option linter.unusedVariables false
set_option linter.unusedSimpArgs false

/-! ### spec_Trim: function 8 -/
mutual
def spec_Trim.l0 : Nat → List Int → List Int → List (S47) → Int → List Int → Int → Int → Int → List (S47) → Option (List Int × Int × Int × Int × (List (S47)))
  | 0, _, _, _, _, _, _, _, _, _ => none
  | k + 1, x4, x5, x6, x7, x113000, x113001, x113002, x113003, x113004 => if x7 < (x4.length : Int) then (if 0 ≤ x7 then (if 0 ≤ (rd x4 x7) then (if (rd x4 x7) < (x5.length : Int) then (if (rd x4 x7) < (x113004.length : Int) then (if x6.length < 2513169434916 then (spec_Trim.l0 k x4 (x5.set ((rd x4 x7) : Int).toNat x7) (x6 ++ [(⟨(rd_T47 x113004 (rd x4 x7)).f0, (rd_T47 x113004 (rd x4 x7)).f1, (rd_T47 x113004 (rd x4 x7)).f2, (rd_T47 x113004 (rd x4 x7)).f3, (rd_T47 x113004 (rd x4 x7)).f4⟩ : S47)]) (wrap64 (x7 + 1)) x113000 x113001 x113002 x113003 x113004) else (none)) else (none)) else (none)) else (none)) else (none)) else (spec_Trim.l1 k x5 x6 0 x113000 x113001 x113002 x113003 x113004)
def spec_Trim.l1 : Nat → List Int → List (S47) → Int → List Int → Int → Int → Int → List (S47) → Option (List Int × Int × Int × Int × (List (S47)))
  | 0, _, _, _, _, _, _, _, _ => none
  | k + 1, x5, x6, x8, x113000, x113001, x113002, x113003, x113004 => if x8 < (x6.length : Int) then (if 0 ≤ x8 then (if ((rd_T47 x6 x8).f1) = 2 then (if ((rd_T47 x6 x8).f1) = 1 then (if 0 ≤ ((rd_T47 x6 x8).f4) then (if ((rd_T47 x6 x8).f4) < (x5.length : Int) then (spec_Trim.l1 k x5 (x6.set (x8 : Int).toNat (⟨(rd_T47 x6 x8).f0, (rd_T47 x6 x8).f1, (rd_T47 x6 x8).f2, (rd_T47 x6 x8).f3, rd x5 ((rd_T47 x6 x8).f4)⟩ : S47)) (wrap64 (x8 + 1)) x113000 x113001 x113002 x113003 x113004) else (none)) else (none)) else (spec_Trim.l1 k x5 x6 (wrap64 (x8 + 1)) x113000 x113001 x113002 x113003 x113004)) else (if 0 ≤ ((rd_T47 x6 x8).f3) then (if ((rd_T47 x6 x8).f3) < (x5.length : Int) then ((some (x6.set (x8 : Int).toNat (⟨(rd_T47 x6 x8).f0, (rd_T47 x6 x8).f1, (rd_T47 x6 x8).f2, rd x5 ((rd_T47 x6 x8).f3), (rd_T47 x6 x8).f4⟩ : S47) : List (S47))).bind fun y137 => (if ((rd_T47 y137 x8).f1) = 1 then (if 0 ≤ ((rd_T47 y137 x8).f4) then (if ((rd_T47 y137 x8).f4) < (x5.length : Int) then (spec_Trim.l1 k x5 (y137.set (x8 : Int).toNat (⟨(rd_T47 y137 x8).f0, (rd_T47 y137 x8).f1, (rd_T47 y137 x8).f2, (rd_T47 y137 x8).f3, rd x5 ((rd_T47 y137 x8).f4)⟩ : S47)) (wrap64 (x8 + 1)) x113000 x113001 x113002 x113003 x113004) else (none)) else (none)) else (spec_Trim.l1 k x5 y137 (wrap64 (x8 + 1)) x113000 x113001 x113002 x113003 x113004))) else (none)) else (none))) else (none)) else (some (x113000, x113001, x113002, x113003, x6))
end
def spec_Trim.f (k : Nat) (l0_0 : List Int) (a0_1 : Int) (a0_2 : Int) (a0_3 : Int) (l0_4 : List (S47)) : Option (List Int × Int × Int × Int × (List (S47))) := (spec_l04Copy.f k l0_0 a0_1 a0_2 a0_3 l0_4).bind fun bt103 => ((spec_GraphOk.f k l0_0 a0_1 a0_2 a0_3 l0_4).bind fun t113 => (if t113 = true then ((spec_Blocks.f k l0_0 a0_1 a0_2 a0_3 l0_4).bind fun t114 => ((spec_l03Zeros.f k (l0_4.length : Int)).bind fun t117 => (spec_Trim.l0 k t114 t117 (([] : List (S47))) 0 bt103.1 bt103.2.1 bt103.2.2.1 bt103.2.2.2.1 bt103.2.2.2.2))) else (some (bt103.1, bt103.2.1, bt103.2.2.1, bt103.2.2.2.1, bt103.2.2.2.2))))
theorem spec_Trim.mono_l : ∀ k, (∀ y0 y1 y2 y3 y4 y5 y6 y7 y8, LeO (spec_Trim.l0 k y0 y1 y2 y3 y4 y5 y6 y7 y8) (spec_Trim.l0 (k + 1) y0 y1 y2 y3 y4 y5 y6 y7 y8)) ∧ (∀ y0 y1 y2 y3 y4 y5 y6 y7, LeO (spec_Trim.l1 k y0 y1 y2 y3 y4 y5 y6 y7) (spec_Trim.l1 (k + 1) y0 y1 y2 y3 y4 y5 y6 y7))
  | 0 => ⟨fun _ _ _ _ _ _ _ _ _ r h => by simp [spec_Trim.l0] at h, fun _ _ _ _ _ _ _ _ r h => by simp [spec_Trim.l1] at h⟩
  | k + 1 => by
    obtain ⟨ih0, ih1⟩ := spec_Trim.mono_l k
    refine ⟨?_, ?_⟩
    · intro y0 y1 y2 y3 y4 y5 y6 y7 y8
      unfold spec_Trim.l0
      repeat' first
      | (with_reducible exact ih0 _ _ _ _ _ _ _ _ _)
      | (with_reducible exact ih1 _ _ _ _ _ _ _ _)
      | (with_reducible exact spec_Blocks.mono _ _ _ _ _ _)
      | (with_reducible exact spec_GraphOk.mono _ _ _ _ _ _)
      | (with_reducible exact spec_l03Zeros.mono _ _)
      | (with_reducible exact spec_l04Copy.mono _ _ _ _ _ _)
      | (with_reducible exact LeO.refl _)
      | (with_reducible exact LeO.none _)
      | (with_reducible refine LeO.ite ?_ ?_)
      | (with_reducible refine LeO.bind ?_ (fun _ => ?_))
      | exact ih0 _ _ _ _ _ _ _ _ _
      | exact ih1 _ _ _ _ _ _ _ _
      | exact spec_Blocks.mono _ _ _ _ _ _
      | exact spec_GraphOk.mono _ _ _ _ _ _
      | exact spec_l03Zeros.mono _ _
      | exact spec_l04Copy.mono _ _ _ _ _ _
      | exact LeO.none _
      | refine LeO.ite ?_ ?_
      | refine LeO.bind ?_ (fun _ => ?_)
    · intro y0 y1 y2 y3 y4 y5 y6 y7
      unfold spec_Trim.l1
      repeat' first
      | (with_reducible exact ih0 _ _ _ _ _ _ _ _ _)
      | (with_reducible exact ih1 _ _ _ _ _ _ _ _)
      | (with_reducible exact spec_Blocks.mono _ _ _ _ _ _)
      | (with_reducible exact spec_GraphOk.mono _ _ _ _ _ _)
      | (with_reducible exact spec_l03Zeros.mono _ _)
      | (with_reducible exact spec_l04Copy.mono _ _ _ _ _ _)
      | (with_reducible exact LeO.refl _)
      | (with_reducible exact LeO.none _)
      | (with_reducible refine LeO.ite ?_ ?_)
      | (with_reducible refine LeO.bind ?_ (fun _ => ?_))
      | exact ih0 _ _ _ _ _ _ _ _ _
      | exact ih1 _ _ _ _ _ _ _ _
      | exact spec_Blocks.mono _ _ _ _ _ _
      | exact spec_GraphOk.mono _ _ _ _ _ _
      | exact spec_l03Zeros.mono _ _
      | exact spec_l04Copy.mono _ _ _ _ _ _
      | exact LeO.none _
      | refine LeO.ite ?_ ?_
      | refine LeO.bind ?_ (fun _ => ?_)
theorem spec_Trim.mono : ∀ a0 a1 a2 a3 a4 k, LeO (spec_Trim.f k a0 a1 a2 a3 a4) (spec_Trim.f (k + 1) a0 a1 a2 a3 a4) := by
  intro a0 a1 a2 a3 a4 k
  obtain ⟨ih0, ih1⟩ := spec_Trim.mono_l k
  unfold spec_Trim.f
  repeat' first
      | (with_reducible exact ih0 _ _ _ _ _ _ _ _ _)
      | (with_reducible exact ih1 _ _ _ _ _ _ _ _)
      | (with_reducible exact spec_Blocks.mono _ _ _ _ _ _)
      | (with_reducible exact spec_GraphOk.mono _ _ _ _ _ _)
      | (with_reducible exact spec_l03Zeros.mono _ _)
      | (with_reducible exact spec_l04Copy.mono _ _ _ _ _ _)
      | (with_reducible exact LeO.refl _)
      | (with_reducible exact LeO.none _)
      | (with_reducible refine LeO.ite ?_ ?_)
      | (with_reducible refine LeO.bind ?_ (fun _ => ?_))
      | exact ih0 _ _ _ _ _ _ _ _ _
      | exact ih1 _ _ _ _ _ _ _ _
      | exact spec_Blocks.mono _ _ _ _ _ _
      | exact spec_GraphOk.mono _ _ _ _ _ _
      | exact spec_l03Zeros.mono _ _
      | exact spec_l04Copy.mono _ _ _ _ _ _
      | exact LeO.none _
      | refine LeO.ite ?_ ?_
      | refine LeO.bind ?_ (fun _ => ?_)
def spec_Trim.T11 : Bool × List (List Nat × List Nat) := (true, [([], []), ([], []), ([1], [1]), ([], []), ([], []), ([3, 4], [3, 4]), ([5], [5]), ([2, 6], [2, 6]), ([7], [7]), ([8], [8]), ([0, 9], [0, 9]), ([10, 10, 0, 1, 2, 3, 4, 5, 6, 7, 8, 9, 10], [0, 10])])
def spec_Trim.B11 : List Nat := [0, 0, 2, 0, 0, 24, 56, 126, 254, 510, 1023, 2047]
theorem spec_Trim.tab11 : rtab .any (opsOf Try.f8 11) = spec_Trim.T11 := by kernel_rfl
theorem spec_Trim.bits11 : waitsOk spec_Trim.T11.2 spec_Trim.B11 = true := by kernel_rfl
set_option maxHeartbeats 8000000 in
set_option maxRecDepth 100000 in
theorem spec_Trim.calls (k : Nat) (A0_0 : Option Addr) (c0_0 : Nat) (l0_0 : List Int) (a0_1 : Int) (a0_2 : Int) (a0_3 : Int) (A0_4 : Option Addr) (c0_4 : Nat) (l0_4 : List (S47)) (r1 : List Int) (r2 : Int) (r3 : Int) (r4 : Int) (r5 : List (S47)) (w : World) (hr0_0 : Kd.C (Kd.int .i64) w A0_0 l0_0.length l0_0) (hc0_0 : l0_0.length ≤ c0_0) (hr0_4 : Kd.C k47 w A0_4 l0_4.length l0_4) (hc0_4 : l0_4.length ≤ c0_4) (h : spec_Trim.f k l0_0 a0_1 a0_2 a0_3 l0_4 = some (r1, r2, r3, r4, r5)) :
  Calls Try.prog 8 #[.agg #[.slice A0_0 l0_0.length c0_0, .int .i64 a0_1, .int .i64 a0_2, .int .i64 a0_3, .slice A0_4 l0_4.length c0_4]] w fun e w' => ∃ v0_ v4_ : Value, e = .returned (.agg #[v0_, .int .i64 r2, .int .i64 r3, .int .i64 r4, v4_]) ∧ Kd.R (Kd.int .i64) 3 w' w.heap.size (fun k_ => (w.heap.size ≤ k_)) v0_ r1 ∧ Kd.N k47 47 w' w.heap.size (fun k_ => (w.heap.size ≤ k_) ∧ some k_ ≠ (v0_ : Value).ownBlock) v4_ r5 ∧ Below w.heap.size w w' := by
 have hu29 := Try.underlying29
 have hu47 := Try.underlying47
 have HR0_0 := Zs0.mk hr0_0
 have HC0_0 := Zs0.mk hc0_0
 clear hr0_0 hc0_0
 have HR0_4 := Zs0.mk hr0_4
 have HC0_4 := Zs0.mk hc0_4
 clear hr0_4 hc0_4
 have HB := Zs0.mk (Below.refl w.heap.size w)
 have H : ((spec_l04Copy.f k l0_0 a0_1 a0_2 a0_3 l0_4).bind fun bt103 => ((spec_GraphOk.f k l0_0 a0_1 a0_2 a0_3 l0_4).bind fun t113 => (if t113 = true then ((spec_Blocks.f k l0_0 a0_1 a0_2 a0_3 l0_4).bind fun t114 => ((spec_l03Zeros.f k (l0_4.length : Int)).bind fun t117 => (spec_Trim.l0 k t114 t117 (([] : List (S47))) 0 bt103.1 bt103.2.1 bt103.2.2.1 bt103.2.2.2.1 bt103.2.2.2.2))) else (some (bt103.1, bt103.2.1, bt103.2.2.1, bt103.2.2.2.1, bt103.2.2.2.2))))) = some (r1, r2, r3, r4, r5) := h
 clear h
 replace H := Option.bind_eq_some_iff.mp H
 obtain ⟨⟨t103, t106, t107, t108, t109⟩, A20, H⟩ := H
 replace H : ((spec_GraphOk.f k l0_0 a0_1 a0_2 a0_3 l0_4).bind fun t113 => (if t113 = true then ((spec_Blocks.f k l0_0 a0_1 a0_2 a0_3 l0_4).bind fun t114 => ((spec_l03Zeros.f k (l0_4.length : Int)).bind fun t117 => (spec_Trim.l0 k t114 t117 (([] : List (S47))) 0 t103 t106 t107 t108 t109))) else (some (t103, t106, t107, t108, t109)))) = some (r1, r2, r3, r4, r5) := H
 have A2 := Zs0.mk A20
 clear A20
 replace H := Option.bind_eq_some_iff.mp H
 obtain ⟨t113, A30, H⟩ := H
 replace H : (if t113 = true then ((spec_Blocks.f k l0_0 a0_1 a0_2 a0_3 l0_4).bind fun t114 => ((spec_l03Zeros.f k (l0_4.length : Int)).bind fun t117 => (spec_Trim.l0 k t114 t117 (([] : List (S47))) 0 t103 t106 t107 t108 t109))) else (some (t103, t106, t107, t108, t109))) = some (r1, r2, r3, r4, r5) := H
 have A3 := Zs0.mk A30
 clear A30
 by_cases c4 : t113 = true
 ·subst c4
  have H1 : ((spec_Blocks.f k l0_0 a0_1 a0_2 a0_3 l0_4).bind fun t114 => ((spec_l03Zeros.f k (l0_4.length : Int)).bind fun t117 => (spec_Trim.l0 k t114 t117 (([] : List (S47))) 0 t103 t106 t107 t108 t109))) = some (r1, r2, r3, r4, r5) := by rw [if_pos rfl] at H; exact H
  clear H
  have H := H1
  clear H1
  replace H := Option.bind_eq_some_iff.mp H
  obtain ⟨t114, A50, H⟩ := H
  replace H : ((spec_l03Zeros.f k (l0_4.length : Int)).bind fun t117 => (spec_Trim.l0 k t114 t117 (([] : List (S47))) 0 t103 t106 t107 t108 t109)) = some (r1, r2, r3, r4, r5) := H
  have A5 := Zs0.mk A50
  clear A50
  replace H := Option.bind_eq_some_iff.mp H
  obtain ⟨t117, A60, H⟩ := H
  replace H : (spec_Trim.l0 k t114 t117 (([] : List (S47))) 0 t103 t106 t107 t108 t109) = some (r1, r2, r3, r4, r5) := H
  have A6 := Zs0.mk A60
  clear A60
  obtain ⟨y120, hy120⟩ : ∃ y_ : List (S47), y_ = (([] : List (S47))) := ⟨_, rfl⟩
  replace H : (spec_Trim.l0 k t114 t117 y120 0 t103 t106 t107 t108 t109) = some (r1, r2, r3, r4, r5) := by first | (rw [hy120]; with_reducible exact H) | (have H2_ := (Option.bind_some _ _).symm.trans H; rw [hy120]; with_reducible exact H2_) | (have H2_ := (Option.bind_some _ _).symm.trans H; with_reducible exact H2_) | with_reducible exact H | (rw [hy120]; exact H) | exact H
  have Ny120 := Zs0.mk hy120
  clear hy120
  have H' := Zs0.mk H
  clear H
  go_enter Try.func8, Try.ntmps8
  go_wp2_with (first | ((with_reducible refine gtD (N := 1) rfl ?_); refine bxE ?hg (N := 1) ?hd (cs := #[.slice A0_0 l0_0.length c0_0, .int .i64 a0_1, .int .i64 a0_2, .int .i64 a0_3, .slice A0_4 l0_4.length c0_4]) (t := 29) ?hr ?_; (case hd => rfl); (case hg => rfl); (case hr => first | (go_simp; done) | (go_simp; rfl)); intro gb101 hg w7 hbox hb; have n0_ := Zs0.mk (blT zB hb); have n1_ := Zs0.mk (hbox); have n2_ := Zs0.mk (zs hg : w.heap.size ≤ gb101); have n3_ := Zs0.mk (zs hg : w.heap.size ≤ gb101); revert n0_ n1_ n2_ n3_; clear HB; intro HB BK101 GW101 GE101; clear hb hbox hg) | ((with_reducible refine gtD (N := 2) rfl ?_); refine bxE ?hg (N := 2) ?hd (cs := #[.slice none 0 0, .int .i64 0, .int .i64 0, .int .i64 0, .slice none 0 0]) (t := 29) ?hr ?_; (case hd => rfl); (case hg => rfl); (case hr => first | (go_simp; done) | (go_simp; rfl)); intro gb102 hg w8 hbox hb; have n0_ := Zs0.mk (bkB (zG BK101.out) hb); have n1_ := Zs0.mk (blT zB hb); have n2_ := Zs0.mk (hbox); have n3_ := Zs0.mk (zs hg : w.heap.size ≤ gb102); have n4_ := Zs0.mk (zs hg : w.heap.size ≤ gb102); have n5_ := Zs0.mk ((by rw [hg]; exact Nat.ne_of_lt (blk_lt (zG BK101.out)) : gb101 ≠ gb102)); have n6_ := Zs0.mk ((by rw [hg]; exact Nat.ne_of_gt (blk_lt (zG BK101.out)) : gb102 ≠ gb101)); revert n0_ n1_ n2_ n3_ n4_ n5_ n6_; clear BK101 HB; intro BK101 HB BK102 GW102 GE102 NB101_102 NB102_101; clear hb hbox hg; have hnb9 := NB101_102.out; have hnc9 := NB102_101.out; obtain ⟨hcz10_0, hcz10_1, hcz10_2, hcz10_3, hcz10_4, hfz10_0, hfz10_1, hfz10_2, hfz10_3, hfz10_4⟩ := bx5 BK101.out) | ((with_reducible refine gtC (f := 28) rfl ?_); refine goesL_ (some 10) rfl rfl Try.func28 (by kernel_rfl) rfl #[.agg #[.slice A0_0 l0_0.length c0_0, .int .i64 a0_1, .int .i64 a0_2, .int .i64 a0_3, .slice A0_4 l0_4.length c0_4]] rfl zM ?_; (with_reducible refine (spec_l04Copy.calls k _ _ l0_0 a0_1 a0_2 a0_3 _ _ l0_4 t103 t106 t107 t108 t109 _ ?side1 ?side2 ?side3 ?side4 A2.out).mono ?_); (case side1 => exact zC HR0_0.out); (case side2 => exact HC0_0.out); (case side3 => exact zC HR0_4.out); (case side4 => exact HC0_4.out); rintro e w11 ⟨v104, v110, rfl, ho0, ho1, hb⟩; refine ⟨_, rfl, ?_⟩; have n0_ := Zs0.mk (Kd.R_lower (Kd.R_newM (M := fun k_ => (w.heap.size ≤ k_)) ho0 (blZ zB) (fun k_ h_ => h_)) (blZ zB)); have n1_ := Zs0.mk (Kd.N_lower (Kd.N_mono (ok' := fun k_ => (w.heap.size ≤ k_) ∧ some k_ ≠ (v104 : Value).ownBlock ∧ k_ ≠ gb101 ∧ k_ ≠ gb102) (Kd.S_N (Kd.S_bound (Kd.S_apart' ho1 (Kd.R_typed ho0) (by decide)))) (fun k_ hk_ => ⟨(Nat.le_trans (blZ zB) hk_.2.1), hk_.1.2, (Kd.freshB (zG BK101.out) k_ hk_.2.1), (Kd.freshB (zG BK102.out) k_ hk_.2.1)⟩)) (blZ zB)); have n2_ := Zs0.mk (bkB (zG BK101.out) hb); have n3_ := Zs0.mk (bkB (zG BK102.out) hb); have n4_ := Zs0.mk (blT zB hb); revert n0_ n1_ n2_ n3_ n4_; clear BK101 BK102 HB; intro HO105 HO111 BK101 BK102 HB; (try clear hb); (try clear hb2); (try clear hk); (try clear hi); (try clear ho0); (try clear ho1)) | ((with_reducible refine gtD (N := 3) rfl ?_); refine bxE ?hg (N := 3) ?hd (cs := #[.slice none 0 0, .int .i64 0, .int .i64 0, .int .i64 0, .slice none 0 0]) (t := 29) ?hr ?_; (case hd => rfl); (case hg => rfl); (case hr => first | (go_simp; done) | (go_simp; rfl)); intro gb112 hg w12 hbox hb; have n0_ := Zs0.mk (Kd.R_below (zR HO105.out) hb); have n1_ := Zs0.mk (Kd.N_below (Kd.N_elderB (zN HO111.out) gb112 (Nat.le_of_eq hg.symm)) hb); have n2_ := Zs0.mk (bkB (zG BK101.out) hb); have n3_ := Zs0.mk (bkB (zG BK102.out) hb); have n4_ := Zs0.mk (blT zB hb); have n5_ := Zs0.mk (hbox); have n6_ := Zs0.mk (zs hg : w.heap.size ≤ gb112); have n7_ := Zs0.mk (zs hg : w.heap.size ≤ gb112); have n8_ := Zs0.mk ((by rw [hg]; exact Nat.ne_of_lt (blk_lt (zG BK101.out)) : gb101 ≠ gb112)); have n9_ := Zs0.mk ((by rw [hg]; exact Nat.ne_of_gt (blk_lt (zG BK101.out)) : gb112 ≠ gb101)); have n10_ := Zs0.mk ((by rw [hg]; exact Nat.ne_of_lt (blk_lt (zG BK102.out)) : gb102 ≠ gb112)); have n11_ := Zs0.mk ((by rw [hg]; exact Nat.ne_of_gt (blk_lt (zG BK102.out)) : gb112 ≠ gb102)); revert n0_ n1_ n2_ n3_ n4_ n5_ n6_ n7_ n8_ n9_ n10_ n11_; clear HO105 HO111 BK101 BK102 HB; intro HO105 HO111 BK101 BK102 HB BK112 GW112 GE112 NB101_112 NB112_101 NB102_112 NB112_102; clear hb hbox hg; obtain ⟨Ao13, co13, eo13⟩ := Kd.R_slice HO105.out; subst eo13; have hnb14 := NB112_101.out; have hnc14 := NB101_112.out; have hnb15 := NB112_102.out; have hnc15 := NB102_112.out; obtain ⟨hcz16_0, hcz16_1, hcz16_2, hcz16_3, hcz16_4, hfz16_0, hfz16_1, hfz16_2, hfz16_3, hfz16_4⟩ := bx5 BK112.out; obtain ⟨Ao17, co17, eo17⟩ := Kd.N_slice HO111.out; subst eo17; obtain ⟨hcz18_0, hcz18_1, hcz18_2, hcz18_3, hcz18_4, hfz18_0, hfz18_1, hfz18_2, hfz18_3, hfz18_4⟩ := bx5 BK101.out) | ((with_reducible refine gtC (f := 29) rfl ?_); refine goesL_ (some 12) rfl rfl Try.func29 (by kernel_rfl) rfl #[.agg #[.slice A0_0 l0_0.length c0_0, .int .i64 a0_1, .int .i64 a0_2, .int .i64 a0_3, .slice A0_4 l0_4.length c0_4]] rfl zM ?_; (with_reducible refine (spec_GraphOk.calls k _ _ l0_0 a0_1 a0_2 a0_3 _ _ l0_4 true _ ?side1 ?side2 ?side3 ?side4 A3.out).mono ?_); (case side1 => exact Kd.cB1 HR0_0.out zB); (case side2 => exact HC0_0.out); (case side3 => exact Kd.cB1 HR0_4.out zB); (case side4 => exact HC0_4.out); rintro e w19 ⟨rfl, hb⟩; refine ⟨_, rfl, ?_⟩; have n0_ := Zs0.mk (Kd.R_below (by (with_reducible repeat (first | apply Kd.rA1 | apply Kd.rD1 | apply Kd.rD2)); exact (Kd.R_mono (Kd.R_far (p := ⟨gb112, 4, none⟩) (Kd.R_far (p := ⟨gb112, 3, none⟩) (Kd.R_far (p := ⟨gb112, 2, none⟩) (Kd.R_far (p := ⟨gb112, 1, none⟩) (Kd.R_far (p := ⟨gb112, 0, none⟩) (Kd.R_types HO105.out BK112.out (by decide)) (fun _ hk => hk.2) (.slice Ao13 t103.length co13)) (fun _ hk => hk.2) (.int .i64 t106)) (fun _ hk => hk.2) (.int .i64 t107)) (fun _ hk => hk.2) (.int .i64 t108)) (fun _ hk => hk.2) (.slice Ao17 t109.length co17)) (fun _ h_ => h_.1))) hb); have n1_ := Zs0.mk (Kd.N_below (by (with_reducible repeat (first | apply Kd.N_alloc | apply Kd.N_drewN | apply Kd.N_drew)); exact (Kd.N_mono (Kd.N_far (p := ⟨gb112, 4, none⟩) (Kd.N_far (p := ⟨gb112, 3, none⟩) (Kd.N_far (p := ⟨gb112, 2, none⟩) (Kd.N_far (p := ⟨gb112, 1, none⟩) (Kd.N_far (p := ⟨gb112, 0, none⟩) (Kd.N_mono HO111.out (fun k_ hk => (⟨hk, hk.2⟩ : _ ∧ k_ ≠ gb112))) (fun _ hk => hk.2) (.slice Ao13 t103.length co13)) (fun _ hk => hk.2) (.int .i64 t106)) (fun _ hk => hk.2) (.int .i64 t107)) (fun _ hk => hk.2) (.int .i64 t108)) (fun _ hk => hk.2) (.slice Ao17 t109.length co17)) (fun _ h_ => h_.1))) hb); have n2_ := Zs0.mk (bkB (g := gb101) (o := .cells #[.slice A0_0 l0_0.length c0_0, .int .i64 a0_1, .int .i64 a0_2, .int .i64 a0_3, .slice A0_4 l0_4.length c0_4] 29 (0, 0)) (by refine zE ?_; refine blk_far ?_ NB101_112.out _; refine zE ?_; refine blk_far ?_ NB101_112.out _; refine zE ?_; refine blk_far ?_ NB101_112.out _; refine zE ?_; refine blk_far ?_ NB101_112.out _; refine zE ?_; refine blk_far ?_ NB101_112.out _; refine zE ?_; exact BK101.out) hb); have n3_ := Zs0.mk (bkB (g := gb102) (o := .cells #[.slice none 0 0, .int .i64 0, .int .i64 0, .int .i64 0, .slice none 0 0] 29 (0, 0)) (by refine zE ?_; refine blk_far ?_ NB102_112.out _; refine zE ?_; refine blk_far ?_ NB102_112.out _; refine zE ?_; refine blk_far ?_ NB102_112.out _; refine zE ?_; refine blk_far ?_ NB102_112.out _; refine zE ?_; refine blk_far ?_ NB102_112.out _; refine zE ?_; exact BK102.out) hb); have n4_ := Zs0.mk (bkB (g := gb112) (o := .cells #[.slice Ao13 t103.length co13, .int .i64 t106, .int .i64 t107, .int .i64 t108, .slice Ao17 t109.length co17] 29 (0, 0)) (by refine zE ?_; refine blk_put (cs := #[.slice Ao13 t103.length co13, .int .i64 t106, .int .i64 t107, .int .i64 t108, .slice none 0 0]) ?_ 4 _ rfl; refine zE ?_; refine blk_put (cs := #[.slice Ao13 t103.length co13, .int .i64 t106, .int .i64 t107, .int .i64 0, .slice none 0 0]) ?_ 3 _ rfl; refine zE ?_; refine blk_put (cs := #[.slice Ao13 t103.length co13, .int .i64 t106, .int .i64 0, .int .i64 0, .slice none 0 0]) ?_ 2 _ rfl; refine zE ?_; refine blk_put (cs := #[.slice Ao13 t103.length co13, .int .i64 0, .int .i64 0, .int .i64 0, .slice none 0 0]) ?_ 1 _ rfl; refine zE ?_; refine blk_put (cs := #[.slice none 0 0, .int .i64 0, .int .i64 0, .int .i64 0, .slice none 0 0]) ?_ 0 _ rfl; refine zE ?_; exact BK112.out) hb); have n5_ := Zs0.mk (blT zB hb); revert n0_ n1_ n2_ n3_ n4_ n5_; clear HO105 HO111 BK101 BK102 BK112 HB; intro HO105 HO111 BK101 BK102 BK112 HB; (try clear hb); (try clear hb2); (try clear hk); (try clear hi); obtain ⟨hcz20_0, hcz20_1, hcz20_2, hcz20_3, hcz20_4, hfz20_0, hfz20_1, hfz20_2, hfz20_3, hfz20_4⟩ := bx5 BK101.out) | ((with_reducible refine gtC (f := 21) rfl ?_); refine goesL_ (some 16) rfl rfl Try.func21 (by kernel_rfl) rfl #[.agg #[.slice A0_0 l0_0.length c0_0, .int .i64 a0_1, .int .i64 a0_2, .int .i64 a0_3, .slice A0_4 l0_4.length c0_4]] rfl zM ?_; (with_reducible refine (spec_Blocks.calls k _ _ l0_0 a0_1 a0_2 a0_3 _ _ l0_4 t114 _ ?side1 ?side2 ?side3 ?side4 A5.out).mono ?_); (case side1 => exact zC HR0_0.out); (case side2 => exact HC0_0.out); (case side3 => exact zC HR0_4.out); (case side4 => exact HC0_4.out); rintro e w21 ⟨v115, rfl, ho0, hb⟩; refine ⟨_, rfl, ?_⟩; have n0_ := Zs0.mk (Kd.R_elder' (zR HO105.out) (Kd.R_base ho0) hb); have n1_ := Zs0.mk (Kd.N_elder' (zN HO111.out) (Kd.R_base ho0) hb); have n2_ := Zs0.mk (Kd.R_lower (Kd.R_new' (Kd.R_newM (M := fun k_ => (w.heap.size ≤ k_)) ho0 (blZ zB) (fun k_ h_ => h_)) (Kd.R_lt (zR HO105.out))) (blZ zB)); have n3_ := Zs0.mk (bkB (zG BK101.out) hb); have n4_ := Zs0.mk (bkB (zG BK102.out) hb); have n5_ := Zs0.mk (bkB (zG BK112.out) hb); have n6_ := Zs0.mk (blT zB hb); revert n0_ n1_ n2_ n3_ n4_ n5_ n6_; clear HO105 HO111 BK101 BK102 BK112 HB; intro HO105 HO111 HO116 BK101 BK102 BK112 HB; (try clear hb); (try clear hb2); (try clear hk); (try clear hi); (try clear ho0); obtain ⟨hcz22_0, hcz22_1, hcz22_2, hcz22_3, hcz22_4, hfz22_0, hfz22_1, hfz22_2, hfz22_3, hfz22_4⟩ := bx5 BK101.out) | ((with_reducible refine gtC (f := 30) rfl ?_); refine goesL_ (some 20) rfl rfl Try.func30 (by kernel_rfl) rfl #[.int .i64 (l0_4.length : Int)] rfl zM ?_; (with_reducible refine (spec_l03Zeros.calls k (l0_4.length : Int) t117 _ A6.out).mono ?_); rintro e w23 ⟨v118, rfl, ho0, hb⟩; refine ⟨_, rfl, ?_⟩; have n0_ := Zs0.mk (Kd.R_elder' (zR HO105.out) (Kd.R_base ho0) hb); have n1_ := Zs0.mk (Kd.N_elder' (zN HO111.out) (Kd.R_base ho0) hb); have n2_ := Zs0.mk (Kd.R_elder' (zR HO116.out) (Kd.R_base ho0) hb); have n3_ := Zs0.mk (Kd.R_lower (Kd.R_new' (Kd.R_new' (Kd.R_newM (M := fun k_ => (w.heap.size ≤ k_)) ho0 (blZ zB) (fun k_ h_ => h_)) (Kd.R_lt (zR HO105.out))) (Kd.R_lt (zR HO116.out))) (blZ zB)); have n4_ := Zs0.mk (bkB (zG BK101.out) hb); have n5_ := Zs0.mk (bkB (zG BK102.out) hb); have n6_ := Zs0.mk (bkB (zG BK112.out) hb); have n7_ := Zs0.mk (blT zB hb); revert n0_ n1_ n2_ n3_ n4_ n5_ n6_ n7_; clear HO105 HO111 HO116 BK101 BK102 BK112 HB; intro HO105 HO111 HO116 HO119 BK101 BK102 BK112 HB; (try clear hb); (try clear hb2); (try clear hk); (try clear hi); (try clear ho0)) | ((with_reducible refine gtD (N := 21) rfl ?_); refine Kd.N_lit k47 _ 47 ?hg (N' := 21) ?hd (xs := ([] : List (S47))) (inner := []) (ok := (fun k_ => (w.heap.size ≤ k_) ∧ some k_ ≠ (.slice Ao13 t103.length co13 : Value).ownBlock ∧ some k_ ≠ (.slice Ao17 t109.length co17 : Value).ownBlock ∧ some k_ ≠ (v115 : Value).ownBlock ∧ some k_ ≠ (v118 : Value).ownBlock ∧ k_ ≠ gb101 ∧ k_ ≠ gb102 ∧ k_ ≠ gb112)) (okp := (fun k_ => (w.heap.size ≤ k_) ∧ some k_ ≠ (.slice Ao13 t103.length co13 : Value).ownBlock ∧ some k_ ≠ (.slice Ao17 t109.length co17 : Value).ownBlock ∧ some k_ ≠ (v115 : Value).ownBlock ∧ some k_ ≠ (v118 : Value).ownBlock ∧ k_ ≠ gb101 ∧ k_ ≠ gb102 ∧ k_ ≠ gb112)) ?hr ?hp (fun _ hk => hk) ((show ∀ k_, w23.heap.size ≤ k_ → (fun k_ => (w.heap.size ≤ k_) ∧ some k_ ≠ (.slice Ao13 t103.length co13 : Value).ownBlock ∧ some k_ ≠ (.slice Ao17 t109.length co17 : Value).ownBlock ∧ some k_ ≠ (v115 : Value).ownBlock ∧ some k_ ≠ (v118 : Value).ownBlock ∧ k_ ≠ gb101 ∧ k_ ≠ gb102 ∧ k_ ≠ gb112) k_ from fun k_ hk => ⟨(Nat.le_trans (blZ zB) hk), Kd.fresh' (Kd.R_lt (zR HO105.out)) k_ hk, Kd.fresh' (Kd.N_lt (zN HO111.out)) k_ hk, Kd.fresh' (Kd.R_lt (zR HO116.out)) k_ hk, Kd.fresh' (Kd.R_lt (zR HO119.out)) k_ hk, Kd.freshB (zG BK101.out) k_ hk, Kd.freshB (zG BK102.out) k_ hk, Kd.freshB (zG BK112.out) k_ hk⟩) _ (Nat.le_refl _)) (Below.refl _ _) (Nat.le_refl _) (by simp) ?_; (case hd => rfl); (case hg => rfl); (case hr => first | (go_simp; done) | (go_simp; rfl)); (case hp => exact (Reps.none _ _)); intro v121 w24 ho25 hb hg_ hnew_; clear hg_ hnew_; (first | rw [← Ny120.out] at ho25 | (simp only [Int.reduceToNat] at ho25; rw [← Ny120.out] at ho25)); have n0_ := Zs0.mk (Kd.R_below (zR HO105.out) hb); have n1_ := Zs0.mk (Kd.N_elder' (zN HO111.out) (Kd.N_base ho25) hb); have n2_ := Zs0.mk (Kd.R_below (zR HO116.out) hb); have n3_ := Zs0.mk (Kd.R_below (zR HO119.out) hb); have n4_ := Zs0.mk (Kd.N_lower ho25 (blZ zB)); have n5_ := Zs0.mk (bkB (zG BK101.out) hb); have n6_ := Zs0.mk (bkB (zG BK102.out) hb); have n7_ := Zs0.mk (bkB (zG BK112.out) hb); have n8_ := Zs0.mk (blT zB hb); revert n0_ n1_ n2_ n3_ n4_ n5_ n6_ n7_ n8_; clear HO105 HO111 HO116 HO119 BK101 BK102 BK112 HB; intro HO105 HO111 HO116 HO119 HO122 BK101 BK102 BK112 HB; clear hb ho25))
  go_loopg [6, 7] k (fun kq v6 v7 w' => ∃ (x5_1 : List Int) (x6_1 : List (S47)) (x7_1 : Int), v7 = .int .i64 x7_1 ∧ Zs0 (spec_Trim.l0 kq t114 x5_1 x6_1 x7_1 t103 t106 t107 t108 t109 = some (r1, r2, r3, r4, r5)) ∧ Zs0 (kq ≤ k) ∧ Zs0 (Kd.R (Kd.int .i64) 3 w' w.heap.size (fun k_ => (w.heap.size ≤ k_) ∧ some k_ ≠ (v118 : Value).ownBlock ∧ some k_ ≠ ((.slice Ao13 t103.length co13) : Value).ownBlock) v115 t114) ∧ Zs0 (Kd.R (Kd.int .i64) 3 w' w.heap.size (fun k_ => (w.heap.size ≤ k_) ∧ some k_ ≠ (v115 : Value).ownBlock ∧ some k_ ≠ ((.slice Ao13 t103.length co13) : Value).ownBlock) v118 x5_1) ∧ Zs0 (Kd.N k47 47 w' w.heap.size (fun k_ => (w.heap.size ≤ k_) ∧ some k_ ≠ (v115 : Value).ownBlock ∧ some k_ ≠ (v118 : Value).ownBlock ∧ some k_ ≠ ((.slice Ao13 t103.length co13) : Value).ownBlock ∧ some k_ ≠ ((.slice Ao17 t109.length co17) : Value).ownBlock ∧ k_ ≠ gb101 ∧ k_ ≠ gb102 ∧ k_ ≠ gb112) v6 x6_1) ∧ Zs0 (Kd.R (Kd.int .i64) 3 w' w.heap.size (fun k_ => (w.heap.size ≤ k_) ∧ some k_ ≠ (v115 : Value).ownBlock ∧ some k_ ≠ (v118 : Value).ownBlock) (.slice Ao13 t103.length co13) t103) ∧ Zs0 (Kd.N k47 47 w' w.heap.size (fun k_ => (w.heap.size ≤ k_) ∧ some k_ ≠ (v115 : Value).ownBlock ∧ some k_ ≠ (v118 : Value).ownBlock ∧ some k_ ≠ (v6 : Value).ownBlock ∧ some k_ ≠ ((.slice Ao13 t103.length co13) : Value).ownBlock ∧ k_ ≠ gb101 ∧ k_ ≠ gb102 ∧ k_ ≠ gb112) (.slice Ao17 t109.length co17) t109) ∧ Zs0 (w'.heap[gb101]? = some (.cells #[(.slice A0_0 l0_0.length c0_0), .int .i64 a0_1, .int .i64 a0_2, .int .i64 a0_3, (.slice A0_4 l0_4.length c0_4)] 29 (0, 0))) ∧ Zs0 (w'.heap[gb102]? = some (.cells #[(.slice none 0 0), .int .i64 0, .int .i64 0, .int .i64 0, (.slice none 0 0)] 29 (0, 0))) ∧ Zs0 (w'.heap[gb112]? = some (.cells #[(.slice Ao13 t103.length co13), .int .i64 t106, .int .i64 t107, .int .i64 t108, (.slice Ao17 t109.length co17)] 29 (0, 0))) ∧ Zs0 (Below w.heap.size w w'))
  case atStart => exact ⟨(t117), (y120), (0), zq, H', ⟨Nat.le_refl _⟩, ⟨by (with_reducible repeat (first | apply Kd.rA1 | apply Kd.rD1 | apply Kd.rD2)); exact Kd.R_mono HO116.out (fun _ hk => ⟨hk.1.1.1, ⟨hk.2, hk.1.2⟩⟩)⟩, ⟨by (with_reducible repeat (first | apply Kd.rA1 | apply Kd.rD1 | apply Kd.rD2)); exact Kd.R_mono HO119.out (fun _ hk => ⟨hk.1.1.1, ⟨hk.2, hk.1.2⟩⟩)⟩, ⟨by (with_reducible repeat (first | apply Kd.N_alloc | apply Kd.N_drewN | apply Kd.N_drew)); exact Kd.N_mono HO122.out (fun _ hk => ⟨hk.1, ⟨hk.2.2.2.1, ⟨hk.2.2.2.2.1, ⟨hk.2.1, ⟨hk.2.2.1, ⟨hk.2.2.2.2.2.1, ⟨hk.2.2.2.2.2.2.1, hk.2.2.2.2.2.2.2⟩⟩⟩⟩⟩⟩⟩)⟩, ⟨by (with_reducible repeat (first | apply Kd.rA1 | apply Kd.rD1 | apply Kd.rD2)); exact Kd.R_mono HO105.out (fun _ hk => ⟨hk.1.1.1, ⟨hk.1.2, hk.2⟩⟩)⟩, ⟨by (with_reducible repeat (first | apply Kd.N_alloc | apply Kd.N_drewN | apply Kd.N_drew)); exact Kd.N_mono HO111.out (fun _ hk => ⟨hk.1.1.1.1.1, ⟨hk.1.1.2, ⟨hk.1.2, ⟨hk.2, ⟨hk.1.1.1.1.2.1, ⟨hk.1.1.1.1.2.2.1, ⟨hk.1.1.1.1.2.2.2, hk.1.1.1.2⟩⟩⟩⟩⟩⟩⟩)⟩, ⟨zG BK101.out⟩, ⟨zG BK102.out⟩, ⟨zG BK112.out⟩, ⟨zB⟩⟩
  case round =>
   clear H'
   try clear c1
   try clear c2
   try clear p2
   try clear c3
   try clear c4
   try clear c8
   try clear c9
   try clear c14
   try clear c15
   try clear c21
   try clear hcz10_0 hcz10_1 hcz10_2 hcz10_3 hcz10_4
   try clear hcz16_0 hcz16_1 hcz16_2 hcz16_3 hcz16_4
   try clear hcz18_0 hcz18_1 hcz18_2 hcz18_3 hcz18_4
   try clear hcz20_0 hcz20_1 hcz20_2 hcz20_3 hcz20_4
   try clear hcz22_0 hcz22_1 hcz22_2 hcz22_3 hcz22_4
   try clear hfz10_0 hfz10_1 hfz10_2 hfz10_3 hfz10_4
   try clear hfz16_0 hfz16_1 hfz16_2 hfz16_3 hfz16_4
   try clear hfz18_0 hfz18_1 hfz18_2 hfz18_3 hfz18_4
   try clear hfz20_0 hfz20_1 hfz20_2 hfz20_3 hfz20_4
   try clear hfz22_0 hfz22_1 hfz22_2 hfz22_3 hfz22_4
   obtain ⟨x5_1, x6_1, x7_1, rfl, HA, HK1, HO_4, HO_5, HO_6, HO_113000, HO_113004, BK101, BK102, BK112, HB⟩ := hrel
   cases gk with
   | zero => exact absurd HA.out (by simp [spec_Trim.l0])
   | succ k1 =>
    have H := HA.out
    clear HA
    simp only [spec_Trim.l0] at H
    by_cases c26 : x7_1 < (t114.length : Int)
    ·rw [if_pos c26] at H
     have c26b0 : decide (x7_1 < (t114.length : Int)) = true := decide_eq_true c26
     clear c26
     have c27 := ipos H
     rw [if_pos c27] at H
     have c27b0 := decide_eq_true c27
     clear c27
     have c28 := ipos H
     rw [if_pos c28] at H
     have c28b0 := decide_eq_true c28
     clear c28
     have c29 := ipos H
     rw [if_pos c29] at H
     have c29b0 := decide_eq_true c29
     clear c29
     obtain ⟨y124, hy124⟩ : ∃ y_ : List Int, y_ = (x5_1.set ((rd t114 x7_1) : Int).toNat x7_1) := ⟨_, rfl⟩
     replace H : (if (rd t114 x7_1) < (t109.length : Int) then (if x6_1.length < 2513169434916 then (spec_Trim.l0 k1 t114 y124 (x6_1 ++ [(⟨(rd_T47 t109 (rd t114 x7_1)).f0, (rd_T47 t109 (rd t114 x7_1)).f1, (rd_T47 t109 (rd t114 x7_1)).f2, (rd_T47 t109 (rd t114 x7_1)).f3, (rd_T47 t109 (rd t114 x7_1)).f4⟩ : S47)]) (wrap64 (x7_1 + 1)) t103 t106 t107 t108 t109) else (none)) else (none)) = some (r1, r2, r3, r4, r5) := by first | (rw [hy124]; with_reducible exact H) | (have H2_ := (Option.bind_some _ _).symm.trans H; rw [hy124]; with_reducible exact H2_) | (have H2_ := (Option.bind_some _ _).symm.trans H; with_reducible exact H2_) | with_reducible exact H | (rw [hy124]; exact H) | exact H
     have Ny124 := Zs0.mk hy124
     clear hy124
     have c31 := ipos H
     rw [if_pos c31] at H
     have c31b0 := decide_eq_true c31
     clear c31
     have c32 := ipos H
     rw [if_pos c32] at H
     have LMc32 := Zs0.mk c32
     clear c32
     obtain ⟨y127, hy127⟩ : ∃ y_ : List (S47), y_ = (x6_1 ++ [(⟨(rd_T47 t109 (rd t114 x7_1)).f0, (rd_T47 t109 (rd t114 x7_1)).f1, (rd_T47 t109 (rd t114 x7_1)).f2, (rd_T47 t109 (rd t114 x7_1)).f3, (rd_T47 t109 (rd t114 x7_1)).f4⟩ : S47)]) := ⟨_, rfl⟩
     replace H : (spec_Trim.l0 k1 t114 y124 y127 (wrap64 (x7_1 + 1)) t103 t106 t107 t108 t109) = some (r1, r2, r3, r4, r5) := by first | (rw [hy127]; with_reducible exact H) | (have H2_ := (Option.bind_some _ _).symm.trans H; rw [hy127]; with_reducible exact H2_) | (have H2_ := (Option.bind_some _ _).symm.trans H; with_reducible exact H2_) | with_reducible exact H | (rw [hy127]; exact H) | exact H
     have Ny127 := Zs0.mk hy127
     clear hy127
     have H' := Zs0.mk H
     clear H
     obtain ⟨Ao33, co33, eo33⟩ := Kd.R_slice HO_4.out
     subst eo33
     have p123 : 0 ≤ (x7_1 : Int) := zD
     have q123 : x7_1 < (t114.length : Int) := zD
     obtain ⟨ad123, e123, hx123_0⟩ := Kd.at_int (Kd.R_reads' HO_4.out).2.2 x7_1 p123 q123
     cases e123
     replace p123 := eq_true p123
     replace q123 := eq_true q123
     have p30 : 0 ≤ ((rd t114 x7_1) : Int) := zD
     have q30 : ((rd t114 x7_1) : Int) < ((x5_1.length : Int) : Int) := zD
     obtain ⟨go30, co30, eo30, gb30, gl30, cl30, HG30⟩ := Kd.R_form HO_5.out (by omega)
     (first | cases eo30 | (injection eo30 with ea_ en_ ec_; (first | subst ea_ | (injection ea_ with ea_; subst ea_)); subst ec_; clear en_))
     have GB30 := Zs0.mk gb30
     have GG30 := Zs0.mk HG30
     clear gb30 gl30 HG30
     obtain ⟨hx30_0, hf30_0⟩ := Kd.R_celln 0 HO_5.out ((rd t114 x7_1) : Int) p30 q30
     replace p30 := eq_true p30
     replace q30 := eq_true q30
     have HP34 := Kd.R_putg HO_5.out ((rd t114 x7_1) : Int) x7_1
     try go_wp2_with (first | ((with_reducible refine gate_store (t := 3) (p := 34) rfl ?_); refine store_event (t := 3) (p := 34) (v := ?vo_w35) (w1 := (wr.setCell ⟨go30, ((rd t114 x7_1) : Int).toNat, none⟩ (.int .i64 x7_1))) ?hg ?ho ?hn ?hr ?_; (case ho => rfl); (case hg => rfl); (case hn => rfl); (case hr => first | (go_simp; done) | (go_simp; rfl)); intro w35 hw; have hg : wr.grownBy w35 (some go30) := (by rw [hw]; exact HP34.2); have hp_ : Kd.R (Kd.int .i64) 3 w35 w.heap.size (fun k_ => (w.heap.size ≤ k_) ∧ some k_ ≠ (.slice (some ad123) t114.length co33 : Value).ownBlock ∧ some k_ ≠ (.slice Ao13 t103.length co13 : Value).ownBlock) (.slice (some ⟨go30, 0, none⟩) x5_1.length co30) y124 := (by rw [hw, Ny124.out]; exact HP34.1); clear HP34; have n0_ := Zs0.mk (Kd.R_after (v := (.slice (some ⟨go30, 0, none⟩) x5_1.length co30)) (v1 := (.slice (some ⟨go30, 0, none⟩) x5_1.length co30)) (ok := (fun k_ => (w.heap.size ≤ k_) ∧ some k_ ≠ (.slice Ao13 t103.length co13 : Value).ownBlock)) (by (with_reducible repeat (first | apply Kd.rA1 | apply Kd.rD1 | apply Kd.rD2)); exact Kd.R_mono HO_4.out (fun _ hk => ⟨⟨hk.1, hk.2.2⟩, hk.2.1⟩)) hg (.inl rfl)); have n1_ := Zs0.mk (hp_); have n2_ := Zs0.mk (Kd.N_afterv (v := (.slice (some ⟨go30, 0, none⟩) x5_1.length co30)) (v1 := (.slice (some ⟨go30, 0, none⟩) x5_1.length co30)) (ok := (fun k_ => (w.heap.size ≤ k_) ∧ some k_ ≠ (.slice (some ad123) t114.length co33 : Value).ownBlock ∧ some k_ ≠ (.slice Ao13 t103.length co13 : Value).ownBlock ∧ some k_ ≠ (.slice Ao17 t109.length co17 : Value).ownBlock ∧ k_ ≠ gb101 ∧ k_ ≠ gb102 ∧ k_ ≠ gb112)) (by (with_reducible repeat (first | apply Kd.N_alloc | apply Kd.N_drewN | apply Kd.N_drew)); exact Kd.N_mono HO_6.out (fun _ hk => ⟨⟨hk.1, ⟨hk.2.1, ⟨hk.2.2.2.1, ⟨hk.2.2.2.2.1, ⟨hk.2.2.2.2.2.1, ⟨hk.2.2.2.2.2.2.1, hk.2.2.2.2.2.2.2⟩⟩⟩⟩⟩⟩, hk.2.2.1⟩)) hg (.inl rfl)); have n3_ := Zs0.mk (Kd.R_after (v := (.slice (some ⟨go30, 0, none⟩) x5_1.length co30)) (v1 := (.slice (some ⟨go30, 0, none⟩) x5_1.length co30)) (ok := (fun k_ => (w.heap.size ≤ k_) ∧ some k_ ≠ (.slice (some ad123) t114.length co33 : Value).ownBlock)) (by (with_reducible repeat (first | apply Kd.rA1 | apply Kd.rD1 | apply Kd.rD2)); exact Kd.R_mono HO_113000.out (fun _ hk => ⟨⟨hk.1, hk.2.1⟩, hk.2.2⟩)) hg (.inl rfl)); have n4_ := Zs0.mk (Kd.N_afterv (v := (.slice (some ⟨go30, 0, none⟩) x5_1.length co30)) (v1 := (.slice (some ⟨go30, 0, none⟩) x5_1.length co30)) (ok := (fun k_ => (w.heap.size ≤ k_) ∧ some k_ ≠ (.slice (some ad123) t114.length co33 : Value).ownBlock ∧ some k_ ≠ (u6 : Value).ownBlock ∧ some k_ ≠ (.slice Ao13 t103.length co13 : Value).ownBlock ∧ k_ ≠ gb101 ∧ k_ ≠ gb102 ∧ k_ ≠ gb112)) (by (with_reducible repeat (first | apply Kd.N_alloc | apply Kd.N_drewN | apply Kd.N_drew)); exact Kd.N_mono HO_113004.out (fun _ hk => ⟨⟨hk.1, ⟨hk.2.1, ⟨hk.2.2.2.1, ⟨hk.2.2.2.2.1, ⟨hk.2.2.2.2.2.1, ⟨hk.2.2.2.2.2.2.1, hk.2.2.2.2.2.2.2⟩⟩⟩⟩⟩⟩, hk.2.2.1⟩)) hg (.inl rfl)); have n5_ := Zs0.mk (blk_grown (zG BK101.out) hg (Kd.R_ne HO_5.out BK101.out (by decide))); have n6_ := Zs0.mk (blk_grown (zG BK102.out) hg (Kd.R_ne HO_5.out BK102.out (by decide))); have n7_ := Zs0.mk (blk_grown (zG BK112.out) hg (Kd.R_ne HO_5.out BK112.out (by decide))); have n8_ := Zs0.mk ((by rw [hw]; exact blS (HB.out) GB30.out : Below w.heap.size w w35)); revert n0_ n1_ n2_ n3_ n4_ n5_ n6_ n7_ n8_; clear HO_4 HO_5 HO_6 HO_113000 HO_113004 BK101 BK102 BK112 HB; intro HO_4 HO_5 HO_6 HO_113000 HO_113004 BK101 BK102 BK112 HB; clear hg hw hp_))
     have n0_ := Zs0.mk (Kd.rD2 HO_4.out)
     have n1_ := Zs0.mk (Kd.rD2 HO_5.out)
     have n2_ := Zs0.mk (Kd.N_drew HO_6.out)
     have n3_ := Zs0.mk (Kd.rD2 HO_113000.out)
     have n4_ := Zs0.mk (Kd.N_drew HO_113004.out)
     have n5_ := Zs0.mk (bk1 BK101.out)
     have n6_ := Zs0.mk (bk1 BK102.out)
     have n7_ := Zs0.mk (bk1 BK112.out)
     have n8_ := Zs0.mk (bl1 HB.out)
     revert n0_ n1_ n2_ n3_ n4_ n5_ n6_ n7_ n8_; clear HO_4 HO_5 HO_6 HO_113000 HO_113004 BK101 BK102 BK112 HB; intro HO_4 HO_5 HO_6 HO_113000 HO_113004 BK101 BK102 BK112 HB
     have p125 : 0 ≤ (x7_1 : Int) := zD
     have q125 : x7_1 < (t114.length : Int) := zD
     obtain ⟨ad125, e125, hx125_0⟩ := Kd.at_int (Kd.R_reads' HO_4.out).2.2 x7_1 p125 q125
     obtain rfl : ad123 = ad125 := (by injection e125)
     replace p125 := eq_true p125
     replace q125 := eq_true q125
     have p126 : 0 ≤ ((rd t114 x7_1) : Int) := zD
     have q126 : (rd t114 x7_1) < (t109.length : Int) := zD
     obtain ⟨ad126, A126_0, c126_0, e126, hx126_0, hx126_1, hx126_2, hx126_3, hx126_4, hl126_0, hi126_0⟩ := at_T47 (Kd.N_reads' HO_113004.out).2.2 (rd t114 x7_1) p126 q126
     cases e126
     obtain ⟨ce126, hce126, hMe126, hcc126⟩ := Kd.N_get HO_113004.out z47 (rd t114 x7_1) p126 (by first | exact q126 | exact zD | (have e_ := (Kd.N_reads' HO_113004.out).1; omega))
     obtain ⟨ua126_0, uc126_0, rfl, ul126_0, ge126_0⟩ := k47_openF hMe126
     have hv126_0 := hcc126 0 _ rfl
     rw [Nat.add_zero] at hv126_0
     replace hv126_0 := Option.some.inj (hv126_0.symm.trans hx126_0)
     injection hv126_0 with hva_ hvn_ hvc_
     rw [hva_] at ge126_0
     rw [hvc_] at ul126_0
     have HL126_0 := Zs0.mk (show Kd.V k57 57 _ w.heap.size _ _ ((rd_T47 t109 (rd t114 x7_1)).f0) from Kd.V_mk ul126_0 ge126_0)
     clear hva_ hvn_ hvc_ ge126_0 ul126_0
     clear hcc126 hce126
     have HR126_0 := Zs0.mk hi126_0
     have HC126_0 := Zs0.mk hl126_0
     clear hi126_0 hl126_0
     replace p126 := eq_true p126
     replace q126 := eq_true q126
     refine start_ (n := 12) (S := fun w' => w'.cell? ⟨gb112, 0, none⟩ = some (.slice Ao13 t103.length co13) ∧ w'.cell? ⟨gb112, 1, none⟩ = some (.int .i64 t106) ∧ w'.cell? ⟨gb112, 2, none⟩ = some (.int .i64 t107) ∧ w'.cell? ⟨gb112, 3, none⟩ = some (.int .i64 t108) ∧ w'.cell? ⟨gb112, 4, none⟩ = some (.slice (some ad126) t109.length co17) ∧ w'.cell? (ad123.add (x7_1).toNat) = some (.int .i64 (rd t114 x7_1)) ∧ w'.cell? (ad126.add (((rd t114 x7_1)).toNat * 5)) = some (.slice A126_0 ((rd_T47 t109 (rd t114 x7_1)).f0).length c126_0) ∧ w'.cell? ⟨(ad126.add (((rd t114 x7_1)).toNat * 5)).block, (ad126.add (((rd t114 x7_1)).toNat * 5)).off + 1, none⟩ = some (.int .i64 ((rd_T47 t109 (rd t114 x7_1)).f1)) ∧ w'.cell? ⟨(ad126.add (((rd t114 x7_1)).toNat * 5)).block, (ad126.add (((rd t114 x7_1)).toNat * 5)).off + 2, none⟩ = some (.int .i64 ((rd_T47 t109 (rd t114 x7_1)).f2)) ∧ w'.cell? ⟨(ad126.add (((rd t114 x7_1)).toNat * 5)).block, (ad126.add (((rd t114 x7_1)).toNat * 5)).off + 3, none⟩ = some (.int .i64 ((rd_T47 t109 (rd t114 x7_1)).f3)) ∧ w'.cell? ⟨(ad126.add (((rd t114 x7_1)).toNat * 5)).block, (ad126.add (((rd t114 x7_1)).toNat * 5)).off + 4, none⟩ = some (.int .i64 ((rd_T47 t109 (rd t114 x7_1)).f4))) (ds := [9, 10]) #[false, false, false, false, false, false, false, false, false, false, false, false] (by kernel_rfl) rfl rfl ⟨(bkC BK112.out 0).trans rfl, (bkC BK112.out 1).trans rfl, (bkC BK112.out 2).trans rfl, (bkC BK112.out 3).trans rfl, (bkC BK112.out 4).trans rfl, hx125_0, hx126_0, hx126_1, hx126_2, hx126_3, hx126_4⟩ (fun hHeld => ?_); refine with_tabW spec_Trim.tab11 spec_Trim.bits11 (fun HT_ HW_ => ?_)
     generalize w35.drew = w36 at HO_4 HO_5 HO_6 HO_113000 HO_113004 BK101 BK102 BK112 HB HL126_0 HR126_0 hx125_0 hx126_0 hx126_1 hx126_2 hx126_3 hx126_4 hHeld ⊢
     refine pure_ (i := 0) (N := some 35) (v := ?_) (a' := ?_) #[true, false, false, false, false, false, false, false, false, false, false, false] rfl rfl (any_of HT_.out (by kernel_rfl)) (fun _ _ _ h => h) (Or.inl ⟨by rfl, ?_⟩) ?_ ?_
     rotate_left
     ·intro w'
      go_simp
      with_reducible rfl
     rotate_left
     ·exact zp
     refine pure_ (i := 1) (N := some 36) (v := ?_) (a' := ?_) #[true, true, false, false, false, false, false, false, false, false, false, false] rfl rfl (any_of HT_.out (by kernel_rfl)) (fun _ _ _ h => h) (Or.inl ⟨by rfl, ?_⟩) ?_ ?_
     rotate_left
     ·intro w'
      go_simp
      with_reducible rfl
     rotate_left
     ·exact zp
     refine pure_ (i := 3) (N := some 38) (v := ?_) (a' := ?_) #[true, true, false, true, false, false, false, false, false, false, false, false] rfl rfl (any_of HT_.out (by kernel_rfl)) (fun _ _ _ h => h) (Or.inl ⟨by rfl, ?_⟩) ?_ ?_
     rotate_left
     ·intro w'
      go_simp
      with_reducible rfl
     rotate_left
     ·exact zp
     refine pure_ (i := 4) (N := some 39) (v := ?_) (a' := ?_) #[true, true, false, true, true, false, false, false, false, false, false, false] rfl rfl (any_of HT_.out (by kernel_rfl)) (fun _ _ _ h => h) (Or.inl ⟨by rfl, ?_⟩) ?_ ?_
     rotate_left
     ·intro w'
      go_simp
      with_reducible rfl
     rotate_left
     ·exact zp
     refine pure_ (i := 5) (N := some 40) (v := ?_) (a' := ?_) #[true, true, false, true, true, true, false, false, false, false, false, false] rfl rfl (any_of HT_.out (by kernel_rfl)) (fun _ _ _ h => h) (Or.inl ⟨by rfl, ?_⟩) ?_ ?_
     rotate_left
     ·intro w'
      go_simp
      with_reducible rfl
     rotate_left
     ·exact zp
     refine take_ (i := 2) (N := some 37) (v := ?_) (a' := ?_) #[true, true, true, true, true, true, false, false, false, false, false, false] rfl rfl (take_ofW HT_.out HW_.out (by kernel_rfl)) (fun _ _ _ h => h) (Or.inl ⟨by rfl, ?_⟩) hHeld ?_ ?_
     rotate_left
     ·rintro w' ⟨s0, s1, s2, s3, s4, s5, s6, s7, s8, s9, s10⟩
      go_simp
      with_reducible rfl
     rotate_left
     ·exact zp
     refine take_ (i := 6) (N := some 41) (v := ?_) (a' := ?_) #[true, true, true, true, true, true, true, false, false, false, false, false] rfl rfl (take_ofW HT_.out HW_.out (by kernel_rfl)) (fun _ _ _ h => h) (Or.inl ⟨by rfl, ?_⟩) hHeld ?_ ?_
     rotate_left
     ·rintro w' ⟨s0, s1, s2, s3, s4, s5, s6, s7, s8, s9, s10⟩
      go_simp
      with_reducible rfl
     rotate_left
     ·exact zp
     refine pure_ (i := 7) (N := some 42) (v := ?_) (a' := ?_) #[true, true, true, true, true, true, true, true, false, false, false, false] rfl rfl (any_of HT_.out (by kernel_rfl)) (fun _ _ _ h => h) (Or.inl ⟨by rfl, ?_⟩) ?_ ?_
     rotate_left
     ·intro w'
      go_simp
      with_reducible rfl
     rotate_left
     ·exact zp
     refine take_ (i := 8) (N := some 43) (v := ?_) (a' := ?_) #[true, true, true, true, true, true, true, true, true, false, false, false] rfl rfl (take_ofW HT_.out HW_.out (by kernel_rfl)) (fun _ _ _ h => h) (Or.inl ⟨by rfl, ?_⟩) hHeld ?_ ?_
     rotate_left
     ·rintro w' ⟨s0, s1, s2, s3, s4, s5, s6, s7, s8, s9, s10⟩
      go_simp
      with_reducible rfl
     rotate_left
     ·exact zp
     refine last_ (i := 9) (N := some 44) #[true, true, true, true, true, true, true, true, true, true, false, false] rfl rfl (one_of HT_.out (by kernel_rfl)) (by decide) (fun K hK => ?_)
     refine value_ (w1 := ?_) (v := ?_) (by rfl) rfl ?_ ?_
     rotate_left 2
     ·go_simp
      constructor
      ·rfl
      ·rfl
     refine hK.out _ _ ?_
     clear hK K
     refine norm_ (a' := ?_) ?_ ?_
     rotate_left
     ·show Act.put _ (some 44) _ = _
      simp only [Act.put, List.setIfInBounds_toArray, List.set_cons_zero, List.set_cons_succ, i64_w, i32_w]
      rfl
     refine last_ (i := 10) (N := some 45) #[true, true, true, true, true, true, true, true, true, true, true, false] rfl rfl (one_of HT_.out (by kernel_rfl)) (by decide) (fun K hK => ?_)
     refine Kd.N_append_step k47 (w0 := w) w.heap.size (by rfl) (.tmp 35) (.tmp 44) 27 47 (.agg #[(.slice none 0 0), (.int .i64 0), (.int .i64 0), (.int .i64 0), (.int .i64 0)]) 56 rfl Try.underlying27 info47 rfl (by decide) (by omega) u6 x6_1 (⟨(rd_T47 t109 (rd t114 x7_1)).f0, (rd_T47 t109 (rd t114 x7_1)).f1, (rd_T47 t109 (rd t114 x7_1)).f2, (rd_T47 t109 (rd t114 x7_1)).f3, (rd_T47 t109 (rd t114 x7_1)).f4⟩ : S47) [.slice A126_0 ((rd_T47 t109 (rd t114 x7_1)).f0).length c126_0, .int .i64 ((rd_T47 t109 (rd t114 x7_1)).f1), .int .i64 ((rd_T47 t109 (rd t114 x7_1)).f2), .int .i64 ((rd_T47 t109 (rd t114 x7_1)).f3), .int .i64 ((rd_T47 t109 (rd t114 x7_1)).f4)] (fun k_ => (w.heap.size ≤ k_) ∧ some k_ ≠ (.slice (some ad123) t114.length co33 : Value).ownBlock ∧ some k_ ≠ (.slice (some ⟨go30, 0, none⟩) x5_1.length co30 : Value).ownBlock ∧ some k_ ≠ (.slice Ao13 t103.length co13 : Value).ownBlock ∧ some k_ ≠ (.slice (some ad126) t109.length co17 : Value).ownBlock ∧ k_ ≠ gb101 ∧ k_ ≠ gb102 ∧ k_ ≠ gb112) (fun k_ => ((fun k_ => (w.heap.size ≤ k_) ∧ some k_ ≠ (.slice (some ad123) t114.length co33 : Value).ownBlock ∧ some k_ ≠ (.slice (some ⟨go30, 0, none⟩) x5_1.length co30 : Value).ownBlock ∧ some k_ ≠ (.slice Ao13 t103.length co13 : Value).ownBlock ∧ some k_ ≠ (.slice (some ad126) t109.length co17 : Value).ownBlock ∧ k_ ≠ gb101 ∧ k_ ≠ gb102 ∧ k_ ≠ gb112)) k_ ∧ some k_ ≠ (u6 : Value).ownBlock) rfl rfl ?aP (fun _ hk => hk) ?aF ?aO ?aB ?aS ?aL ?_
     (case aP => exact (k47_mkF _ _ (⟨(rd_T47 t109 (rd t114 x7_1)).f0, (rd_T47 t109 (rd t114 x7_1)).f1, (rd_T47 t109 (rd t114 x7_1)).f2, (rd_T47 t109 (rd t114 x7_1)).f3, (rd_T47 t109 (rd t114 x7_1)).f4⟩ : S47) (Kd.V_reads' (Kd.V_mono (ok' := (fun k_ => ((fun k_ => (w.heap.size ≤ k_) ∧ some k_ ≠ (.slice (some ad123) t114.length co33 : Value).ownBlock ∧ some k_ ≠ (.slice (some ⟨go30, 0, none⟩) x5_1.length co30 : Value).ownBlock ∧ some k_ ≠ (.slice Ao13 t103.length co13 : Value).ownBlock ∧ some k_ ≠ (.slice (some ad126) t109.length co17 : Value).ownBlock ∧ k_ ≠ gb101 ∧ k_ ≠ gb102 ∧ k_ ≠ gb112)) k_ ∧ some k_ ≠ (u6 : Value).ownBlock)) (HL126_0.out) (fun k_ hk => ⟨⟨hk.1.1.1, ⟨hk.1.1.2.1, ⟨hk.1.2, ⟨hk.1.1.2.2.2.1, ⟨hk.2, ⟨hk.1.1.2.2.2.2.1, ⟨hk.1.1.2.2.2.2.2.1, hk.1.1.2.2.2.2.2.2⟩⟩⟩⟩⟩⟩⟩, hk.1.1.2.2.1⟩))).2.1 (Kd.V_F (Kd.V_mono (ok' := (fun k_ => ((fun k_ => (w.heap.size ≤ k_) ∧ some k_ ≠ (.slice (some ad123) t114.length co33 : Value).ownBlock ∧ some k_ ≠ (.slice (some ⟨go30, 0, none⟩) x5_1.length co30 : Value).ownBlock ∧ some k_ ≠ (.slice Ao13 t103.length co13 : Value).ownBlock ∧ some k_ ≠ (.slice (some ad126) t109.length co17 : Value).ownBlock ∧ k_ ≠ gb101 ∧ k_ ≠ gb102 ∧ k_ ≠ gb112)) k_ ∧ some k_ ≠ (u6 : Value).ownBlock)) (HL126_0.out) (fun k_ hk => ⟨⟨hk.1.1.1, ⟨hk.1.1.2.1, ⟨hk.1.2, ⟨hk.1.1.2.2.2.1, ⟨hk.2, ⟨hk.1.1.2.2.2.2.1, ⟨hk.1.1.2.2.2.2.2.1, hk.1.1.2.2.2.2.2.2⟩⟩⟩⟩⟩⟩⟩, hk.1.1.2.2.1⟩)))))
     (case aB => exact zB)
     (case aF => exact (fun k_ hk => ⟨(Nat.le_trans (blZ zB) hk), Kd.fresh' (Kd.R_lt (zR HO_4.out)) k_ hk, Kd.fresh' (Kd.R_lt (zR HO_5.out)) k_ hk, Kd.fresh' (Kd.R_lt (zR HO_113000.out)) k_ hk, Kd.fresh' (Kd.N_lt (zN HO_113004.out)) k_ hk, Kd.freshB (zG BK101.out) k_ hk, Kd.freshB (zG BK102.out) k_ hk, Kd.freshB (zG BK112.out) k_ hk⟩))
     (case aO => exact (by (with_reducible repeat (first | apply Kd.N_alloc | apply Kd.N_drewN | apply Kd.N_drew)); exact Kd.N_mono HO_6.out (fun _ hk => ⟨hk.1.1, ⟨hk.1.2.1, ⟨hk.2, ⟨hk.1.2.2.1, ⟨hk.1.2.2.2.1, ⟨hk.1.2.2.2.2.1, ⟨hk.1.2.2.2.2.2.1, hk.1.2.2.2.2.2.2⟩⟩⟩⟩⟩⟩⟩)))
     (case aS => exact (blZ zB))
     (case aL => have := LMc32.out; omega)
     intro v128 w37 ho hb hg hat
     rw [← Ny127.out] at ho
     have n0_ := Zs0.mk (Kd.R_over' (zR HO_4.out) (Kd.N_typed (zN HO_6.out)) (by decide) hg)
     have n1_ := Zs0.mk (Kd.R_over' (zR HO_5.out) (Kd.N_typed (zN HO_6.out)) (by decide) hg)
     have n2_ := Zs0.mk (Kd.R_over' (zR HO_113000.out) (Kd.N_typed (zN HO_6.out)) (by decide) hg)
     have n3_ := Zs0.mk (Kd.N_afterv (ok := (fun k_ => (w.heap.size ≤ k_) ∧ some k_ ≠ (.slice (some ad123) t114.length co33 : Value).ownBlock ∧ some k_ ≠ (.slice (some ⟨go30, 0, none⟩) x5_1.length co30 : Value).ownBlock ∧ some k_ ≠ (.slice Ao13 t103.length co13 : Value).ownBlock ∧ k_ ≠ gb101 ∧ k_ ≠ gb102 ∧ k_ ≠ gb112)) (by (with_reducible repeat (first | apply Kd.N_alloc | apply Kd.N_drewN | apply Kd.N_drew)); exact Kd.N_mono HO_113004.out (fun _ hk => ⟨⟨hk.1.1, ⟨hk.1.2.1, ⟨hk.2, ⟨hk.1.2.2.2.1, ⟨hk.1.2.2.2.2.1, ⟨hk.1.2.2.2.2.2.1, hk.1.2.2.2.2.2.2⟩⟩⟩⟩⟩⟩, hk.1.2.2.1⟩)) hg hat)
     have n4_ := Zs0.mk (blk_grown (zG BK101.out) hg (Kd.N_ne HO_6.out BK101.out (by decide)))
     have n5_ := Zs0.mk (blk_grown (zG BK102.out) hg (Kd.N_ne HO_6.out BK102.out (by decide)))
     have n6_ := Zs0.mk (blk_grown (zG BK112.out) hg (Kd.N_ne HO_6.out BK112.out (by decide)))
     have n7_ := Zs0.mk (Kd.V_afterv (ok := (fun k_ => (w.heap.size ≤ k_) ∧ some k_ ≠ (.slice (some ad123) t114.length co33 : Value).ownBlock ∧ some k_ ≠ (.slice (some ⟨go30, 0, none⟩) x5_1.length co30 : Value).ownBlock ∧ some k_ ≠ (.slice Ao13 t103.length co13 : Value).ownBlock ∧ some k_ ≠ (.slice (some ad126) t109.length co17 : Value).ownBlock ∧ k_ ≠ gb101 ∧ k_ ≠ gb102 ∧ k_ ≠ gb112)) (by (with_reducible repeat (first | apply Kd.V_alloc | apply Kd.V_drewN | apply Kd.V_drew)); exact Kd.V_mono HL126_0.out (fun _ hk => ⟨⟨hk.1.1.1, ⟨hk.1.1.2.1, ⟨hk.1.2, ⟨hk.1.1.2.2.2.1, ⟨hk.2, ⟨hk.1.1.2.2.2.2.1, ⟨hk.1.1.2.2.2.2.2.1, hk.1.1.2.2.2.2.2.2⟩⟩⟩⟩⟩⟩⟩, hk.1.1.2.2.1⟩)) hg hat)
     have n8_ := Zs0.mk (hb)
     have n9_ := Zs0.mk (ho)
     revert n0_ n1_ n2_ n3_ n4_ n5_ n6_ n7_ n8_ n9_; clear HO_4 HO_5 HO_113000 HO_113004 BK101 BK102 BK112 HL126_0 HB HO_6; intro HO_4 HO_5 HO_113000 HO_113004 BK101 BK102 BK112 HL126_0 HB HO129
     clear ho hb hg hat
     refine hK.out _ _ ?_
     clear hK K
     refine norm_ (a' := ?_) ?_ ?_
     rotate_left
     ·show Act.put _ (some 45) _ = _
      simp only [Act.put, List.setIfInBounds_toArray, List.set_cons_zero, List.set_cons_succ, i64_w, i32_w]
      rfl
     refine pure_ (i := 11) (N := some 6) (v := ?_) (a' := ?_) #[true, true, true, true, true, true, true, true, true, true, true, true] rfl rfl (any_of HT_.out (by kernel_rfl)) (fun _ _ _ h => h) (Or.inl ⟨by rfl, ?_⟩) ?_ ?_
     rotate_left
     ·intro w'
      go_simp
      with_reducible rfl
     rotate_left
     ·exact zp
     refine done_ (done_of HT_.out (by kernel_rfl)) ?_
     try go_wp2
     go_roundg k1
     case measure => have := HK1.out; omega
     case rel => exact ⟨(y124), (y127), (wrap64 (x7_1 + 1)), zq, H', ⟨by have := HK1.out; omega⟩, ⟨by (with_reducible repeat (first | apply Kd.rA1 | apply Kd.rD1 | apply Kd.rD2)); exact Kd.R_mono HO_4.out (fun _ hk => ⟨hk.1.1, ⟨hk.2, hk.1.2⟩⟩)⟩, ⟨zR HO_5.out⟩, ⟨zN HO129.out⟩, ⟨by (with_reducible repeat (first | apply Kd.rA1 | apply Kd.rD1 | apply Kd.rD2)); exact Kd.R_mono HO_113000.out (fun _ hk => ⟨hk.1.1, ⟨hk.1.2, hk.2⟩⟩)⟩, ⟨by (with_reducible repeat (first | apply Kd.N_alloc | apply Kd.N_drewN | apply Kd.N_drew)); exact Kd.N_mono HO_113004.out (fun _ hk => ⟨hk.1.1, ⟨hk.1.2.1, ⟨hk.1.2.2.1, ⟨hk.2, ⟨hk.1.2.2.2.1, ⟨hk.1.2.2.2.2.1, ⟨hk.1.2.2.2.2.2.1, hk.1.2.2.2.2.2.2⟩⟩⟩⟩⟩⟩⟩)⟩, ⟨zG BK101.out⟩, ⟨zG BK102.out⟩, ⟨zG BK112.out⟩, ⟨zB⟩⟩
    ·rw [if_neg c26] at H
     have c26b0 : decide (x7_1 < (t114.length : Int)) = false := decide_eq_false c26
     clear c26
     have H' := Zs0.mk H
     clear H
     obtain ⟨Ao38, co38, eo38⟩ := Kd.R_slice HO_4.out
     subst eo38
     go_wp2
     go_loopg [8] k1 (fun kq v8 w' => ∃ (x6_2 : List (S47)) (x8_2 : Int), v8 = .int .i64 x8_2 ∧ Zs0 (spec_Trim.l1 kq x5_1 x6_2 x8_2 t103 t106 t107 t108 t109 = some (r1, r2, r3, r4, r5)) ∧ Zs0 (kq ≤ k1) ∧ Zs0 (Kd.R (Kd.int .i64) 3 w' w.heap.size (fun k_ => (w.heap.size ≤ k_) ∧ some k_ ≠ ((.slice Ao13 t103.length co13) : Value).ownBlock) v118 x5_1) ∧ Zs0 (Kd.N k47 47 w' w.heap.size (fun k_ => (w.heap.size ≤ k_) ∧ some k_ ≠ (v118 : Value).ownBlock ∧ some k_ ≠ ((.slice Ao13 t103.length co13) : Value).ownBlock ∧ some k_ ≠ ((.slice Ao17 t109.length co17) : Value).ownBlock ∧ k_ ≠ gb101 ∧ k_ ≠ gb102 ∧ k_ ≠ gb112) u6 x6_2) ∧ Zs0 (Kd.R (Kd.int .i64) 3 w' w.heap.size (fun k_ => (w.heap.size ≤ k_) ∧ some k_ ≠ (v118 : Value).ownBlock) (.slice Ao13 t103.length co13) t103) ∧ Zs0 (Kd.N k47 47 w' w.heap.size (fun k_ => (w.heap.size ≤ k_) ∧ some k_ ≠ (v118 : Value).ownBlock ∧ some k_ ≠ (u6 : Value).ownBlock ∧ some k_ ≠ ((.slice Ao13 t103.length co13) : Value).ownBlock ∧ k_ ≠ gb101 ∧ k_ ≠ gb102 ∧ k_ ≠ gb112) (.slice Ao17 t109.length co17) t109) ∧ Zs0 (w'.heap[gb101]? = some (.cells #[(.slice A0_0 l0_0.length c0_0), .int .i64 a0_1, .int .i64 a0_2, .int .i64 a0_3, (.slice A0_4 l0_4.length c0_4)] 29 (0, 0))) ∧ Zs0 (w'.heap[gb102]? = some (.cells #[(.slice none 0 0), .int .i64 0, .int .i64 0, .int .i64 0, (.slice none 0 0)] 29 (0, 0))) ∧ Zs0 (w'.heap[gb112]? = some (.cells #[(.slice Ao13 t103.length co13), .int .i64 t106, .int .i64 t107, .int .i64 t108, (.slice Ao17 t109.length co17)] 29 (0, 0))) ∧ Zs0 (Below w.heap.size w w'))
     case atStart => exact ⟨(x6_1), (0), zq, H', ⟨Nat.le_refl _⟩, ⟨by (with_reducible repeat (first | apply Kd.rA1 | apply Kd.rD1 | apply Kd.rD2)); exact Kd.R_mono HO_5.out (fun _ hk => ⟨hk.1, hk.2.2⟩)⟩, ⟨by (with_reducible repeat (first | apply Kd.N_alloc | apply Kd.N_drewN | apply Kd.N_drew)); exact Kd.N_mono HO_6.out (fun _ hk => ⟨hk.1, ⟨hk.2.2.1, ⟨hk.2.2.2.1, ⟨hk.2.2.2.2.1, ⟨hk.2.2.2.2.2.1, ⟨hk.2.2.2.2.2.2.1, hk.2.2.2.2.2.2.2⟩⟩⟩⟩⟩⟩)⟩, ⟨by (with_reducible repeat (first | apply Kd.rA1 | apply Kd.rD1 | apply Kd.rD2)); exact Kd.R_mono HO_113000.out (fun _ hk => ⟨hk.1, hk.2.2⟩)⟩, ⟨by (with_reducible repeat (first | apply Kd.N_alloc | apply Kd.N_drewN | apply Kd.N_drew)); exact Kd.N_mono HO_113004.out (fun _ hk => ⟨hk.1, ⟨hk.2.2.1, ⟨hk.2.2.2.1, ⟨hk.2.2.2.2.1, ⟨hk.2.2.2.2.2.1, ⟨hk.2.2.2.2.2.2.1, hk.2.2.2.2.2.2.2⟩⟩⟩⟩⟩⟩)⟩, ⟨zG BK101.out⟩, ⟨zG BK102.out⟩, ⟨zG BK112.out⟩, ⟨zB⟩⟩
     case round =>
      clear H'
      try clear c1
      try clear p1
      try clear q1
      try clear hx1
      try clear c2
      try clear p2
      try clear c3
      try clear p3
      try clear q3
      try clear hx3
      try clear hf3
      try clear c4
      try clear p6
      try clear c8
      try clear c9
      try clear c12
      try clear p12
      try clear q12
      try clear hx12
      try clear c14
      try clear c15
      try clear c21
      try clear c26
      try clear c26b0
      try clear c27
      try clear c27b0
      try clear c28
      try clear c28b0
      try clear c29
      try clear c29b0
      try clear c30
      try clear p30
      try clear q30
      try clear hx30
      try clear hf30
      try clear c31
      try clear c31b0
      try clear c32
      try clear hcz10_0 hcz10_1 hcz10_2 hcz10_3 hcz10_4
      try clear hcz16_0 hcz16_1 hcz16_2 hcz16_3 hcz16_4
      try clear hcz18_0 hcz18_1 hcz18_2 hcz18_3 hcz18_4
      try clear hcz20_0 hcz20_1 hcz20_2 hcz20_3 hcz20_4
      try clear hcz22_0 hcz22_1 hcz22_2 hcz22_3 hcz22_4
      try clear hfz10_0 hfz10_1 hfz10_2 hfz10_3 hfz10_4
      try clear hfz16_0 hfz16_1 hfz16_2 hfz16_3 hfz16_4
      try clear hfz18_0 hfz18_1 hfz18_2 hfz18_3 hfz18_4
      try clear hfz20_0 hfz20_1 hfz20_2 hfz20_3 hfz20_4
      try clear hfz22_0 hfz22_1 hfz22_2 hfz22_3 hfz22_4
      try clear hx123_0
      try clear hx125_0
      try clear hx126_0
      try clear hx126_1
      try clear hx126_2
      try clear hx126_3
      try clear hx126_4
      try clear hx30_0
      try clear p123
      try clear p125
      try clear p126
      try clear p2
      try clear p30
      try clear q123
      try clear q125
      try clear q126
      try clear q30
      obtain ⟨x6_2, x8_2, rfl, HA, HK2, HO_5, HO_6, HO_113000, HO_113004, BK101, BK102, BK112, HB⟩ := hrel
      cases gk with
      | zero => exact absurd HA.out (by simp [spec_Trim.l1])
      | succ k2 =>
       have H := HA.out
       clear HA
       simp only [spec_Trim.l1] at H
       by_cases c39 : x8_2 < (x6_2.length : Int)
       ·rw [if_pos c39] at H
        have c39b0 : decide (x8_2 < (x6_2.length : Int)) = true := decide_eq_true c39
        clear c39
        have c40 := ipos H
        rw [if_pos c40] at H
        have c40b0 := decide_eq_true c40
        clear c40
        by_cases c41 : ((rd_T47 x6_2 x8_2).f1) = 2
        ·rw [if_pos c41] at H
         have c41b0 : (((rd_T47 x6_2 x8_2).f1) == 2) = true := beq_iff_eq.mpr c41
         have c41b1 : (((rd_T47 x6_2 x8_2).f1) != 2) = false := bne_eq_false_iff_eq.mpr c41
         clear c41
         by_cases c42 : ((rd_T47 x6_2 x8_2).f1) = 1
         ·rw [if_pos c42] at H
          have c42b0 : (((rd_T47 x6_2 x8_2).f1) == 1) = true := beq_iff_eq.mpr c42
          have c42b1 : (((rd_T47 x6_2 x8_2).f1) != 1) = false := bne_eq_false_iff_eq.mpr c42
          clear c42
          have c43 := ipos H
          rw [if_pos c43] at H
          have c43b0 := decide_eq_true c43
          clear c43
          have c44 := ipos H
          rw [if_pos c44] at H
          have c44b0 := decide_eq_true c44
          clear c44
          obtain ⟨y134, hy134⟩ : ∃ y_ : List (S47), y_ = (x6_2.set (x8_2 : Int).toNat (⟨(rd_T47 x6_2 x8_2).f0, (rd_T47 x6_2 x8_2).f1, (rd_T47 x6_2 x8_2).f2, (rd_T47 x6_2 x8_2).f3, rd x5_1 ((rd_T47 x6_2 x8_2).f4)⟩ : S47)) := ⟨_, rfl⟩
          replace H : (spec_Trim.l1 k2 x5_1 y134 (wrap64 (x8_2 + 1)) t103 t106 t107 t108 t109) = some (r1, r2, r3, r4, r5) := by first | (rw [hy134]; with_reducible exact H) | (have H2_ := (Option.bind_some _ _).symm.trans H; rw [hy134]; with_reducible exact H2_) | (have H2_ := (Option.bind_some _ _).symm.trans H; with_reducible exact H2_) | with_reducible exact H | (rw [hy134]; exact H) | exact H
          have Ny134 := Zs0.mk hy134
          clear hy134
          have H' := Zs0.mk H
          clear H
          obtain ⟨Ao46, co46, eo46⟩ := Kd.N_slice HO_6.out
          subst eo46
          have p130 : 0 ≤ (x8_2 : Int) := zD
          have q130 : x8_2 < (x6_2.length : Int) := zD
          obtain ⟨ad130, A130_0, c130_0, e130, hx130_0, hx130_1, hx130_2, hx130_3, hx130_4, hl130_0, hi130_0⟩ := at_T47 (Kd.N_reads' HO_6.out).2.2 x8_2 p130 q130
          cases e130
          obtain ⟨ce130, hce130, hMe130, hcc130⟩ := Kd.N_get HO_6.out z47 x8_2 p130 (by first | exact q130 | exact zD | (have e_ := (Kd.N_reads' HO_6.out).1; omega))
          obtain ⟨ua130_0, uc130_0, rfl, ul130_0, ge130_0⟩ := k47_openF hMe130
          have hv130_0 := hcc130 0 _ rfl
          rw [Nat.add_zero] at hv130_0
          replace hv130_0 := Option.some.inj (hv130_0.symm.trans hx130_0)
          injection hv130_0 with hva_ hvn_ hvc_
          rw [hva_] at ge130_0
          rw [hvc_] at ul130_0
          have HL130_0 := Zs0.mk (show Kd.V k57 57 _ w.heap.size _ _ ((rd_T47 x6_2 x8_2).f0) from Kd.V_mk ul130_0 ge130_0)
          clear hva_ hvn_ hvc_ ge130_0 ul130_0
          clear hcc130 hce130
          have HR130_0 := Zs0.mk hi130_0
          have HC130_0 := Zs0.mk hl130_0
          clear hi130_0 hl130_0
          replace p130 := eq_true p130
          replace q130 := eq_true q130
          have p131 : 0 ≤ (x8_2 : Int) := zD
          have q131 : x8_2 < (x6_2.length : Int) := zD
          obtain ⟨ad131, A131_0, c131_0, e131, hx131_0, hx131_1, hx131_2, hx131_3, hx131_4, hl131_0, hi131_0⟩ := at_T47 (Kd.N_reads' HO_6.out).2.2 x8_2 p131 q131
          obtain rfl : ad130 = ad131 := (by injection e131)
          obtain ⟨ce131, hce131, hMe131, hcc131⟩ := Kd.N_get HO_6.out z47 x8_2 p131 (by first | exact q131 | exact zD | (have e_ := (Kd.N_reads' HO_6.out).1; omega))
          obtain ⟨ua131_0, uc131_0, rfl, ul131_0, ge131_0⟩ := k47_openF hMe131
          have hv131_0 := hcc131 0 _ rfl
          rw [Nat.add_zero] at hv131_0
          replace hv131_0 := Option.some.inj (hv131_0.symm.trans hx131_0)
          injection hv131_0 with hva_ hvn_ hvc_
          rw [hva_] at ge131_0
          rw [hvc_] at ul131_0
          have HL131_0 := Zs0.mk (show Kd.V k57 57 _ w.heap.size _ _ ((rd_T47 x6_2 x8_2).f0) from Kd.V_mk ul131_0 ge131_0)
          clear hva_ hvn_ hvc_ ge131_0 ul131_0
          clear hcc131 hce131
          have HR131_0 := Zs0.mk hi131_0
          have HC131_0 := Zs0.mk hl131_0
          clear hi131_0 hl131_0
          replace p131 := eq_true p131
          replace q131 := eq_true q131
          have ea_ := Option.some.inj (hx130_0.symm.trans hx131_0)
          injection ea_ with ea_ en_ ec_
          subst ea_
          subst ec_
          clear en_
          have p132 : 0 ≤ (x8_2 : Int) := zD
          have q132 : x8_2 < (x6_2.length : Int) := zD
          obtain ⟨ad132, A132_0, c132_0, e132, hx132_0, hx132_1, hx132_2, hx132_3, hx132_4, hl132_0, hi132_0⟩ := at_T47 (Kd.N_reads' HO_6.out).2.2 x8_2 p132 q132
          obtain rfl : ad130 = ad132 := (by injection e132)
          obtain ⟨ce132, hce132, hMe132, hcc132⟩ := Kd.N_get HO_6.out z47 x8_2 p132 (by first | exact q132 | exact zD | (have e_ := (Kd.N_reads' HO_6.out).1; omega))
          obtain ⟨ua132_0, uc132_0, rfl, ul132_0, ge132_0⟩ := k47_openF hMe132
          have hv132_0 := hcc132 0 _ rfl
          rw [Nat.add_zero] at hv132_0
          replace hv132_0 := Option.some.inj (hv132_0.symm.trans hx132_0)
          injection hv132_0 with hva_ hvn_ hvc_
          rw [hva_] at ge132_0
          rw [hvc_] at ul132_0
          have HL132_0 := Zs0.mk (show Kd.V k57 57 _ w.heap.size _ _ ((rd_T47 x6_2 x8_2).f0) from Kd.V_mk ul132_0 ge132_0)
          clear hva_ hvn_ hvc_ ge132_0 ul132_0
          clear hcc132 hce132
          have HR132_0 := Zs0.mk hi132_0
          have HC132_0 := Zs0.mk hl132_0
          clear hi132_0 hl132_0
          replace p132 := eq_true p132
          replace q132 := eq_true q132
          have ea_ := Option.some.inj (hx130_0.symm.trans hx132_0)
          injection ea_ with ea_ en_ ec_
          subst ea_
          subst ec_
          clear en_
          obtain ⟨Ao47, co47, eo47⟩ := Kd.R_slice HO_5.out
          subst eo47
          have p133 : 0 ≤ (((rd_T47 x6_2 x8_2).f4) : Int) := zD
          have q133 : ((rd_T47 x6_2 x8_2).f4) < (x5_1.length : Int) := zD
          obtain ⟨ad133, e133, hx133_0⟩ := Kd.at_int (Kd.R_reads' HO_5.out).2.2 ((rd_T47 x6_2 x8_2).f4) p133 q133
          cases e133
          replace p133 := eq_true p133
          replace q133 := eq_true q133
          have p45 : 0 ≤ (x8_2 : Int) := zD
          have q45 : (x8_2 : Int) < ((x6_2.length : Int) : Int) := zD
          obtain ⟨go45, co45, eo45, gb45, gl45, cl45, HG45⟩ := Kd.N_form HO_6.out (by omega)
          (first | cases eo45 | (injection eo45 with ea_ en_ ec_; (first | subst ea_ | (injection ea_ with ea_; subst ea_)); subst ec_; clear en_))
          have GB45 := Zs0.mk gb45
          have GG45 := Zs0.mk HG45
          clear gb45 gl45 HG45
          (first | simp only [add_plain] at hx130_0 | skip)
          (first | simp only [add_plain] at hx130_1 | skip)
          (first | simp only [add_plain] at hx130_2 | skip)
          (first | simp only [add_plain] at hx130_3 | skip)
          (first | simp only [add_plain] at hx130_4 | skip)
          (first | simp only [add_plain] at hx131_0 | skip)
          (first | simp only [add_plain] at hx131_1 | skip)
          (first | simp only [add_plain] at hx131_2 | skip)
          (first | simp only [add_plain] at hx131_3 | skip)
          (first | simp only [add_plain] at hx131_4 | skip)
          (first | simp only [add_plain] at hx132_0 | skip)
          (first | simp only [add_plain] at hx132_1 | skip)
          (first | simp only [add_plain] at hx132_2 | skip)
          (first | simp only [add_plain] at hx132_3 | skip)
          (first | simp only [add_plain] at hx132_4 | skip)
          obtain ⟨ce45, hcl45, hM45, hcc45, hfr45⟩ := Kd.N_elem HO_6.out z47 (x8_2 : Int) p45 q45
          obtain ⟨ua45_0, uc45_0, rfl, ul45_0, ge45_0⟩ := k47_openF hM45
          have hx45_0 : wr.cell? ⟨go45, (x8_2 : Int).toNat * 5, none⟩ = some (.slice ua45_0 ((rd_T47 x6_2 x8_2).f0).length uc45_0) := hcc45 0 _ rfl
          have hx45_1 : wr.cell? ⟨go45, (x8_2 : Int).toNat * 5 + 1, none⟩ = some (.int .i64 ((rd_T47 x6_2 x8_2).f1)) := hcc45 1 _ rfl
          have hx45_2 : wr.cell? ⟨go45, (x8_2 : Int).toNat * 5 + 2, none⟩ = some (.int .i64 ((rd_T47 x6_2 x8_2).f2)) := hcc45 2 _ rfl
          have hx45_3 : wr.cell? ⟨go45, (x8_2 : Int).toNat * 5 + 3, none⟩ = some (.int .i64 ((rd_T47 x6_2 x8_2).f3)) := hcc45 3 _ rfl
          have hx45_4 : wr.cell? ⟨go45, (x8_2 : Int).toNat * 5 + 4, none⟩ = some (.int .i64 ((rd_T47 x6_2 x8_2).f4)) := hcc45 4 _ rfl
          have hf45_0 : wr.frozen? ⟨go45, (x8_2 : Int).toNat * 5, none⟩ = false := hfr45 0
          have hf45_1 : wr.frozen? ⟨go45, (x8_2 : Int).toNat * 5 + 1, none⟩ = false := hfr45 1
          have hf45_2 : wr.frozen? ⟨go45, (x8_2 : Int).toNat * 5 + 2, none⟩ = false := hfr45 2
          have hf45_3 : wr.frozen? ⟨go45, (x8_2 : Int).toNat * 5 + 3, none⟩ = false := hfr45 3
          have hf45_4 : wr.frozen? ⟨go45, (x8_2 : Int).toNat * 5 + 4, none⟩ = false := hfr45 4
          clear hcl45 hcc45 hfr45 hM45
          replace p45 := eq_true p45
          replace q45 := eq_true q45
          have HX48 := Zs0.mk (show Kd.N k47 47 wr w.heap.size (fun k_ => (w.heap.size ≤ k_) ∧ some k_ ≠ (.slice (some ad133) x5_1.length co47 : Value).ownBlock ∧ some k_ ≠ (.slice Ao13 t103.length co13 : Value).ownBlock ∧ some k_ ≠ (.slice Ao17 t109.length co17 : Value).ownBlock ∧ k_ ≠ gb101 ∧ k_ ≠ gb102 ∧ k_ ≠ gb112) (.slice (some ⟨go45, 0, none⟩) x6_2.length co46) x6_2 from (zN HO_6.out))
          obtain ⟨ce48, hcl48, hM48, hcc48, hfr48⟩ := Kd.N_elem HX48.out z47 (x8_2 : Int) zD (by have h_ : (x8_2 : Int) < ((x6_2.length : Int) : Int) := zD; first | exact h_ | (have e_ := (Kd.N_reads' HO_6.out).1; omega) | simpa using h_)
          obtain ⟨ua48_0, uc48_0, rfl, ul48_0, ge48_0⟩ := k47_openF hM48
          have HP48 := Kd.N_seg HX48.out (x8_2 : Int) zD (by have h_ : (x8_2 : Int) < ((x6_2.length : Int) : Int) := zD; first | exact h_ | (have e_ := (Kd.N_reads' HO_6.out).1; omega) | simpa using h_) (seg := [.int .i64 (rd x5_1 ((rd_T47 x6_2 x8_2).f4))]) (j := 4) hcl48 hcc48 (show 5 ≤ 5 from by decide) (x' := (⟨(rd_T47 x6_2 x8_2).f0, (rd_T47 x6_2 x8_2).f1, (rd_T47 x6_2 x8_2).f2, (rd_T47 x6_2 x8_2).f3, rd x5_1 ((rd_T47 x6_2 x8_2).f4)⟩ : S47)) (k47_mkF _ _ (⟨(rd_T47 x6_2 x8_2).f0, (rd_T47 x6_2 x8_2).f1, (rd_T47 x6_2 x8_2).f2, (rd_T47 x6_2 x8_2).f3, rd x5_1 ((rd_T47 x6_2 x8_2).f4)⟩ : S47) ul48_0 ge48_0) (fun _ hk => hk)
          have hx48_4 := hcc48 4 _ rfl
          (try simp only [show (k47).sz = 5 from rfl, Nat.mul_one, Nat.add_zero] at hx48_4)
          have hf48_4 := hfr48 4
          (try simp only [show (k47).sz = 5 from rfl, Nat.mul_one, Nat.add_zero] at hf48_4)
          clear hcl48 hcc48 hfr48 hM48
          go_wp2_with (first | ((with_reducible refine gate_store (t := 3) (p := 87) rfl ?_); refine store_event (t := 3) (p := 87) (v := ?vo_w49) (w1 := (wr.setCell ⟨go45, (x8_2 : Int).toNat * 5 + 4, none⟩ (.int .i64 (rd x5_1 ((rd_T47 x6_2 x8_2).f4))))) ?hg ?ho ?hn ?hr ?_; (case ho => rfl); (case hg => rfl); (case hn => rfl); (case hr => first | (go_simp; done) | (go_simp; rfl)); intro w49 hw; have hg : wr.grownBy w49 (some go45) := (by rw [hw]; exact HP48.2); have hp_ : Kd.N k47 47 w49 w.heap.size (fun k_ => (w.heap.size ≤ k_) ∧ some k_ ≠ (.slice (some ad133) x5_1.length co47 : Value).ownBlock ∧ some k_ ≠ (.slice Ao13 t103.length co13 : Value).ownBlock ∧ some k_ ≠ (.slice Ao17 t109.length co17 : Value).ownBlock ∧ k_ ≠ gb101 ∧ k_ ≠ gb102 ∧ k_ ≠ gb112) (.slice (some ⟨go45, 0, none⟩) x6_2.length co46) y134 := (by rw [hw, Ny134.out]; exact HP48.1); clear HP48; have n0_ := Zs0.mk (Kd.R_over' (v := (.slice (some ⟨go45, 0, none⟩) x6_2.length co46)) (zR HO_5.out) (Kd.N_typed HO_6.out) (by decide) hg); have n1_ := Zs0.mk (hp_); have n2_ := Zs0.mk (Kd.R_over' (v := (.slice (some ⟨go45, 0, none⟩) x6_2.length co46)) (zR HO_113000.out) (Kd.N_typed HO_6.out) (by decide) hg); have n3_ := Zs0.mk (Kd.N_afterv (v := (.slice (some ⟨go45, 0, none⟩) x6_2.length co46)) (v1 := (.slice (some ⟨go45, 0, none⟩) x6_2.length co46)) (ok := (fun k_ => (w.heap.size ≤ k_) ∧ some k_ ≠ (.slice (some ad133) x5_1.length co47 : Value).ownBlock ∧ some k_ ≠ (.slice Ao13 t103.length co13 : Value).ownBlock ∧ k_ ≠ gb101 ∧ k_ ≠ gb102 ∧ k_ ≠ gb112)) (by (with_reducible repeat (first | apply Kd.N_alloc | apply Kd.N_drewN | apply Kd.N_drew)); exact Kd.N_mono HO_113004.out (fun _ hk => ⟨⟨hk.1, ⟨hk.2.1, ⟨hk.2.2.2.1, ⟨hk.2.2.2.2.1, ⟨hk.2.2.2.2.2.1, hk.2.2.2.2.2.2⟩⟩⟩⟩⟩, hk.2.2.1⟩)) hg (.inl rfl)); have n4_ := Zs0.mk (blk_grown (zG BK101.out) hg (Kd.N_ne HO_6.out BK101.out (by decide))); have n5_ := Zs0.mk (blk_grown (zG BK102.out) hg (Kd.N_ne HO_6.out BK102.out (by decide))); have n6_ := Zs0.mk (blk_grown (zG BK112.out) hg (Kd.N_ne HO_6.out BK112.out (by decide))); have n7_ := Zs0.mk (Kd.V_afterv (v := (.slice (some ⟨go45, 0, none⟩) x6_2.length co46)) (v1 := (.slice (some ⟨go45, 0, none⟩) x6_2.length co46)) (ok := (fun k_ => (w.heap.size ≤ k_) ∧ some k_ ≠ (.slice (some ad133) x5_1.length co47 : Value).ownBlock ∧ some k_ ≠ (.slice Ao13 t103.length co13 : Value).ownBlock ∧ some k_ ≠ (.slice Ao17 t109.length co17 : Value).ownBlock ∧ k_ ≠ gb101 ∧ k_ ≠ gb102 ∧ k_ ≠ gb112)) (zV HL130_0.out) hg (.inl rfl)); have n8_ := Zs0.mk (Kd.V_afterv (v := (.slice (some ⟨go45, 0, none⟩) x6_2.length co46)) (v1 := (.slice (some ⟨go45, 0, none⟩) x6_2.length co46)) (ok := (fun k_ => (w.heap.size ≤ k_) ∧ some k_ ≠ (.slice (some ad133) x5_1.length co47 : Value).ownBlock ∧ some k_ ≠ (.slice Ao13 t103.length co13 : Value).ownBlock ∧ some k_ ≠ (.slice Ao17 t109.length co17 : Value).ownBlock ∧ k_ ≠ gb101 ∧ k_ ≠ gb102 ∧ k_ ≠ gb112)) (zV HL131_0.out) hg (.inl rfl)); have n9_ := Zs0.mk (Kd.V_afterv (v := (.slice (some ⟨go45, 0, none⟩) x6_2.length co46)) (v1 := (.slice (some ⟨go45, 0, none⟩) x6_2.length co46)) (ok := (fun k_ => (w.heap.size ≤ k_) ∧ some k_ ≠ (.slice (some ad133) x5_1.length co47 : Value).ownBlock ∧ some k_ ≠ (.slice Ao13 t103.length co13 : Value).ownBlock ∧ some k_ ≠ (.slice Ao17 t109.length co17 : Value).ownBlock ∧ k_ ≠ gb101 ∧ k_ ≠ gb102 ∧ k_ ≠ gb112)) (zV HL132_0.out) hg (.inl rfl)); have n10_ := Zs0.mk ((by rw [hw]; exact blS (HB.out) GB45.out : Below w.heap.size w w49)); revert n0_ n1_ n2_ n3_ n4_ n5_ n6_ n7_ n8_ n9_ n10_; clear HO_5 HO_6 HO_113000 HO_113004 BK101 BK102 BK112 HL130_0 HL131_0 HL132_0 HB; intro HO_5 HO_6 HO_113000 HO_113004 BK101 BK102 BK112 HL130_0 HL131_0 HL132_0 HB; clear hg hw hp_))
          go_roundg k2
          case measure => have := HK1.out; have := HK2.out; omega
          case rel => exact ⟨(y134), (wrap64 (x8_2 + 1)), zq, H', ⟨by have := HK1.out; have := HK2.out; omega⟩, ⟨zR HO_5.out⟩, ⟨zN HO_6.out⟩, ⟨zR HO_113000.out⟩, ⟨by (with_reducible repeat (first | apply Kd.N_alloc | apply Kd.N_drewN | apply Kd.N_drew)); exact Kd.N_mono HO_113004.out (fun _ hk => ⟨hk.1.1, ⟨hk.1.2.1, ⟨hk.2, ⟨hk.1.2.2.1, ⟨hk.1.2.2.2.1, ⟨hk.1.2.2.2.2.1, hk.1.2.2.2.2.2⟩⟩⟩⟩⟩⟩)⟩, ⟨zG BK101.out⟩, ⟨zG BK102.out⟩, ⟨zG BK112.out⟩, ⟨zB⟩⟩
         ·rw [if_neg c42] at H
          have c42b0 : (((rd_T47 x6_2 x8_2).f1) == 1) = false := beq_eq_false_iff_ne.mpr c42
          have c42b1 : (((rd_T47 x6_2 x8_2).f1) != 1) = true := bne_iff_ne.mpr c42
          have H' := Zs0.mk H
          clear H
          obtain ⟨Ao50, co50, eo50⟩ := Kd.N_slice HO_6.out
          subst eo50
          have p130 : 0 ≤ (x8_2 : Int) := zD
          have q130 : x8_2 < (x6_2.length : Int) := zD
          obtain ⟨ad130, A130_0, c130_0, e130, hx130_0, hx130_1, hx130_2, hx130_3, hx130_4, hl130_0, hi130_0⟩ := at_T47 (Kd.N_reads' HO_6.out).2.2 x8_2 p130 q130
          cases e130
          obtain ⟨ce130, hce130, hMe130, hcc130⟩ := Kd.N_get HO_6.out z47 x8_2 p130 (by first | exact q130 | exact zD | (have e_ := (Kd.N_reads' HO_6.out).1; omega))
          obtain ⟨ua130_0, uc130_0, rfl, ul130_0, ge130_0⟩ := k47_openF hMe130
          have hv130_0 := hcc130 0 _ rfl
          rw [Nat.add_zero] at hv130_0
          replace hv130_0 := Option.some.inj (hv130_0.symm.trans hx130_0)
          injection hv130_0 with hva_ hvn_ hvc_
          rw [hva_] at ge130_0
          rw [hvc_] at ul130_0
          have HL130_0 := Zs0.mk (show Kd.V k57 57 _ w.heap.size _ _ ((rd_T47 x6_2 x8_2).f0) from Kd.V_mk ul130_0 ge130_0)
          clear hva_ hvn_ hvc_ ge130_0 ul130_0
          clear hcc130 hce130
          have HR130_0 := Zs0.mk hi130_0
          have HC130_0 := Zs0.mk hl130_0
          clear hi130_0 hl130_0
          replace p130 := eq_true p130
          replace q130 := eq_true q130
          have p131 : 0 ≤ (x8_2 : Int) := zD
          have q131 : x8_2 < (x6_2.length : Int) := zD
          obtain ⟨ad131, A131_0, c131_0, e131, hx131_0, hx131_1, hx131_2, hx131_3, hx131_4, hl131_0, hi131_0⟩ := at_T47 (Kd.N_reads' HO_6.out).2.2 x8_2 p131 q131
          obtain rfl : ad130 = ad131 := (by injection e131)
          obtain ⟨ce131, hce131, hMe131, hcc131⟩ := Kd.N_get HO_6.out z47 x8_2 p131 (by first | exact q131 | exact zD | (have e_ := (Kd.N_reads' HO_6.out).1; omega))
          obtain ⟨ua131_0, uc131_0, rfl, ul131_0, ge131_0⟩ := k47_openF hMe131
          have hv131_0 := hcc131 0 _ rfl
          rw [Nat.add_zero] at hv131_0
          replace hv131_0 := Option.some.inj (hv131_0.symm.trans hx131_0)
          injection hv131_0 with hva_ hvn_ hvc_
          rw [hva_] at ge131_0
          rw [hvc_] at ul131_0
          have HL131_0 := Zs0.mk (show Kd.V k57 57 _ w.heap.size _ _ ((rd_T47 x6_2 x8_2).f0) from Kd.V_mk ul131_0 ge131_0)
          clear hva_ hvn_ hvc_ ge131_0 ul131_0
          clear hcc131 hce131
          have HR131_0 := Zs0.mk hi131_0
          have HC131_0 := Zs0.mk hl131_0
          clear hi131_0 hl131_0
          replace p131 := eq_true p131
          replace q131 := eq_true q131
          have ea_ := Option.some.inj (hx130_0.symm.trans hx131_0)
          injection ea_ with ea_ en_ ec_
          subst ea_
          subst ec_
          clear en_
          go_wp2
          go_roundg k2
          case measure => have := HK1.out; have := HK2.out; omega
          case rel => exact ⟨(x6_2), (wrap64 (x8_2 + 1)), zq, H', ⟨by have := HK1.out; have := HK2.out; omega⟩, ⟨zR HO_5.out⟩, ⟨zN HO_6.out⟩, ⟨zR HO_113000.out⟩, ⟨zN HO_113004.out⟩, ⟨zG BK101.out⟩, ⟨zG BK102.out⟩, ⟨zG BK112.out⟩, ⟨zB⟩⟩
        ·rw [if_neg c41] at H
         have c41b0 : (((rd_T47 x6_2 x8_2).f1) == 2) = false := beq_eq_false_iff_ne.mpr c41
         have c41b1 : (((rd_T47 x6_2 x8_2).f1) != 2) = true := bne_iff_ne.mpr c41
         have c51 := ipos H
         rw [if_pos c51] at H
         have c51b0 := decide_eq_true c51
         clear c51
         have c52 := ipos H
         rw [if_pos c52] at H
         have c52b0 := decide_eq_true c52
         clear c52
         obtain ⟨y137, hy137⟩ : ∃ y_ : List (S47), y_ = (x6_2.set (x8_2 : Int).toNat (⟨(rd_T47 x6_2 x8_2).f0, (rd_T47 x6_2 x8_2).f1, (rd_T47 x6_2 x8_2).f2, rd x5_1 ((rd_T47 x6_2 x8_2).f3), (rd_T47 x6_2 x8_2).f4⟩ : S47)) := ⟨_, rfl⟩
         replace H : (if ((rd_T47 y137 x8_2).f1) = 1 then (if 0 ≤ ((rd_T47 y137 x8_2).f4) then (if ((rd_T47 y137 x8_2).f4) < (x5_1.length : Int) then (spec_Trim.l1 k2 x5_1 (y137.set (x8_2 : Int).toNat (⟨(rd_T47 y137 x8_2).f0, (rd_T47 y137 x8_2).f1, (rd_T47 y137 x8_2).f2, (rd_T47 y137 x8_2).f3, rd x5_1 ((rd_T47 y137 x8_2).f4)⟩ : S47)) (wrap64 (x8_2 + 1)) t103 t106 t107 t108 t109) else (none)) else (none)) else (spec_Trim.l1 k2 x5_1 y137 (wrap64 (x8_2 + 1)) t103 t106 t107 t108 t109)) = some (r1, r2, r3, r4, r5) := by first | (rw [hy137]; with_reducible exact H) | (have H2_ := (Option.bind_some _ _).symm.trans H; rw [hy137]; with_reducible exact H2_) | (have H2_ := (Option.bind_some _ _).symm.trans H; with_reducible exact H2_) | with_reducible exact H | (rw [hy137]; exact H) | exact H
         have Ny137 := Zs0.mk hy137
         clear hy137
         by_cases c54 : ((rd_T47 y137 x8_2).f1) = 1
         ·rw [if_pos c54] at H
          have c54b0 : (((rd_T47 y137 x8_2).f1) == 1) = true := beq_iff_eq.mpr c54
          have c54b1 : (((rd_T47 y137 x8_2).f1) != 1) = false := bne_eq_false_iff_eq.mpr c54
          clear c54
          have c55 := ipos H
          rw [if_pos c55] at H
          have c55b0 := decide_eq_true c55
          clear c55
          have c56 := ipos H
          rw [if_pos c56] at H
          have c56b0 := decide_eq_true c56
          clear c56
          obtain ⟨y141, hy141⟩ : ∃ y_ : List (S47), y_ = (y137.set (x8_2 : Int).toNat (⟨(rd_T47 y137 x8_2).f0, (rd_T47 y137 x8_2).f1, (rd_T47 y137 x8_2).f2, (rd_T47 y137 x8_2).f3, rd x5_1 ((rd_T47 y137 x8_2).f4)⟩ : S47)) := ⟨_, rfl⟩
          replace H : (spec_Trim.l1 k2 x5_1 y141 (wrap64 (x8_2 + 1)) t103 t106 t107 t108 t109) = some (r1, r2, r3, r4, r5) := by first | (rw [hy141]; with_reducible exact H) | (have H2_ := (Option.bind_some _ _).symm.trans H; rw [hy141]; with_reducible exact H2_) | (have H2_ := (Option.bind_some _ _).symm.trans H; with_reducible exact H2_) | with_reducible exact H | (rw [hy141]; exact H) | exact H
          have Ny141 := Zs0.mk hy141
          clear hy141
          have H' := Zs0.mk H
          clear H
          obtain ⟨Ao58, co58, eo58⟩ := Kd.N_slice HO_6.out
          subst eo58
          have p130 : 0 ≤ (x8_2 : Int) := zD
          have q130 : x8_2 < (x6_2.length : Int) := zD
          obtain ⟨ad130, A130_0, c130_0, e130, hx130_0, hx130_1, hx130_2, hx130_3, hx130_4, hl130_0, hi130_0⟩ := at_T47 (Kd.N_reads' HO_6.out).2.2 x8_2 p130 q130
          cases e130
          obtain ⟨ce130, hce130, hMe130, hcc130⟩ := Kd.N_get HO_6.out z47 x8_2 p130 (by first | exact q130 | exact zD | (have e_ := (Kd.N_reads' HO_6.out).1; omega))
          obtain ⟨ua130_0, uc130_0, rfl, ul130_0, ge130_0⟩ := k47_openF hMe130
          have hv130_0 := hcc130 0 _ rfl
          rw [Nat.add_zero] at hv130_0
          replace hv130_0 := Option.some.inj (hv130_0.symm.trans hx130_0)
          injection hv130_0 with hva_ hvn_ hvc_
          rw [hva_] at ge130_0
          rw [hvc_] at ul130_0
          have HL130_0 := Zs0.mk (show Kd.V k57 57 _ w.heap.size _ _ ((rd_T47 x6_2 x8_2).f0) from Kd.V_mk ul130_0 ge130_0)
          clear hva_ hvn_ hvc_ ge130_0 ul130_0
          clear hcc130 hce130
          have HR130_0 := Zs0.mk hi130_0
          have HC130_0 := Zs0.mk hl130_0
          clear hi130_0 hl130_0
          replace p130 := eq_true p130
          replace q130 := eq_true q130
          have p135 : 0 ≤ (x8_2 : Int) := zD
          have q135 : x8_2 < (x6_2.length : Int) := zD
          obtain ⟨ad135, A135_0, c135_0, e135, hx135_0, hx135_1, hx135_2, hx135_3, hx135_4, hl135_0, hi135_0⟩ := at_T47 (Kd.N_reads' HO_6.out).2.2 x8_2 p135 q135
          obtain rfl : ad130 = ad135 := (by injection e135)
          obtain ⟨ce135, hce135, hMe135, hcc135⟩ := Kd.N_get HO_6.out z47 x8_2 p135 (by first | exact q135 | exact zD | (have e_ := (Kd.N_reads' HO_6.out).1; omega))
          obtain ⟨ua135_0, uc135_0, rfl, ul135_0, ge135_0⟩ := k47_openF hMe135
          have hv135_0 := hcc135 0 _ rfl
          rw [Nat.add_zero] at hv135_0
          replace hv135_0 := Option.some.inj (hv135_0.symm.trans hx135_0)
          injection hv135_0 with hva_ hvn_ hvc_
          rw [hva_] at ge135_0
          rw [hvc_] at ul135_0
          have HL135_0 := Zs0.mk (show Kd.V k57 57 _ w.heap.size _ _ ((rd_T47 x6_2 x8_2).f0) from Kd.V_mk ul135_0 ge135_0)
          clear hva_ hvn_ hvc_ ge135_0 ul135_0
          clear hcc135 hce135
          have HR135_0 := Zs0.mk hi135_0
          have HC135_0 := Zs0.mk hl135_0
          clear hi135_0 hl135_0
          replace p135 := eq_true p135
          replace q135 := eq_true q135
          have ea_ := Option.some.inj (hx130_0.symm.trans hx135_0)
          injection ea_ with ea_ en_ ec_
          subst ea_
          subst ec_
          clear en_
          obtain ⟨Ao59, co59, eo59⟩ := Kd.R_slice HO_5.out
          subst eo59
          have p136 : 0 ≤ (((rd_T47 x6_2 x8_2).f3) : Int) := zD
          have q136 : ((rd_T47 x6_2 x8_2).f3) < (x5_1.length : Int) := zD
          obtain ⟨ad136, e136, hx136_0⟩ := Kd.at_int (Kd.R_reads' HO_5.out).2.2 ((rd_T47 x6_2 x8_2).f3) p136 q136
          cases e136
          replace p136 := eq_true p136
          replace q136 := eq_true q136
          have p53 : 0 ≤ (x8_2 : Int) := zD
          have q53 : (x8_2 : Int) < ((x6_2.length : Int) : Int) := zD
          obtain ⟨go53, co53, eo53, gb53, gl53, cl53, HG53⟩ := Kd.N_form HO_6.out (by omega)
          (first | cases eo53 | (injection eo53 with ea_ en_ ec_; (first | subst ea_ | (injection ea_ with ea_; subst ea_)); subst ec_; clear en_))
          have GB53 := Zs0.mk gb53
          have GG53 := Zs0.mk HG53
          clear gb53 gl53 HG53
          (first | simp only [add_plain] at hx130_0 | skip)
          (first | simp only [add_plain] at hx130_1 | skip)
          (first | simp only [add_plain] at hx130_2 | skip)
          (first | simp only [add_plain] at hx130_3 | skip)
          (first | simp only [add_plain] at hx130_4 | skip)
          (first | simp only [add_plain] at hx131_0 | skip)
          (first | simp only [add_plain] at hx131_1 | skip)
          (first | simp only [add_plain] at hx131_2 | skip)
          (first | simp only [add_plain] at hx131_3 | skip)
          (first | simp only [add_plain] at hx131_4 | skip)
          (first | simp only [add_plain] at hx135_0 | skip)
          (first | simp only [add_plain] at hx135_1 | skip)
          (first | simp only [add_plain] at hx135_2 | skip)
          (first | simp only [add_plain] at hx135_3 | skip)
          (first | simp only [add_plain] at hx135_4 | skip)
          obtain ⟨ce53, hcl53, hM53, hcc53, hfr53⟩ := Kd.N_elem HO_6.out z47 (x8_2 : Int) p53 q53
          obtain ⟨ua53_0, uc53_0, rfl, ul53_0, ge53_0⟩ := k47_openF hM53
          have hx53_0 : wr.cell? ⟨go53, (x8_2 : Int).toNat * 5, none⟩ = some (.slice ua53_0 ((rd_T47 x6_2 x8_2).f0).length uc53_0) := hcc53 0 _ rfl
          have hx53_1 : wr.cell? ⟨go53, (x8_2 : Int).toNat * 5 + 1, none⟩ = some (.int .i64 ((rd_T47 x6_2 x8_2).f1)) := hcc53 1 _ rfl
          have hx53_2 : wr.cell? ⟨go53, (x8_2 : Int).toNat * 5 + 2, none⟩ = some (.int .i64 ((rd_T47 x6_2 x8_2).f2)) := hcc53 2 _ rfl
          have hx53_3 : wr.cell? ⟨go53, (x8_2 : Int).toNat * 5 + 3, none⟩ = some (.int .i64 ((rd_T47 x6_2 x8_2).f3)) := hcc53 3 _ rfl
          have hx53_4 : wr.cell? ⟨go53, (x8_2 : Int).toNat * 5 + 4, none⟩ = some (.int .i64 ((rd_T47 x6_2 x8_2).f4)) := hcc53 4 _ rfl
          have hf53_0 : wr.frozen? ⟨go53, (x8_2 : Int).toNat * 5, none⟩ = false := hfr53 0
          have hf53_1 : wr.frozen? ⟨go53, (x8_2 : Int).toNat * 5 + 1, none⟩ = false := hfr53 1
          have hf53_2 : wr.frozen? ⟨go53, (x8_2 : Int).toNat * 5 + 2, none⟩ = false := hfr53 2
          have hf53_3 : wr.frozen? ⟨go53, (x8_2 : Int).toNat * 5 + 3, none⟩ = false := hfr53 3
          have hf53_4 : wr.frozen? ⟨go53, (x8_2 : Int).toNat * 5 + 4, none⟩ = false := hfr53 4
          clear hcl53 hcc53 hfr53 hM53
          replace p53 := eq_true p53
          replace q53 := eq_true q53
          have HX60 := Zs0.mk (show Kd.N k47 47 wr w.heap.size (fun k_ => (w.heap.size ≤ k_) ∧ some k_ ≠ (.slice (some ad136) x5_1.length co59 : Value).ownBlock ∧ some k_ ≠ (.slice Ao13 t103.length co13 : Value).ownBlock ∧ some k_ ≠ (.slice Ao17 t109.length co17 : Value).ownBlock ∧ k_ ≠ gb101 ∧ k_ ≠ gb102 ∧ k_ ≠ gb112) (.slice (some ⟨go53, 0, none⟩) x6_2.length co58) x6_2 from (zN HO_6.out))
          obtain ⟨ce60, hcl60, hM60, hcc60, hfr60⟩ := Kd.N_elem HX60.out z47 (x8_2 : Int) zD (by have h_ : (x8_2 : Int) < ((x6_2.length : Int) : Int) := zD; first | exact h_ | (have e_ := (Kd.N_reads' HO_6.out).1; omega) | simpa using h_)
          obtain ⟨ua60_0, uc60_0, rfl, ul60_0, ge60_0⟩ := k47_openF hM60
          have HP60 := Kd.N_seg HX60.out (x8_2 : Int) zD (by have h_ : (x8_2 : Int) < ((x6_2.length : Int) : Int) := zD; first | exact h_ | (have e_ := (Kd.N_reads' HO_6.out).1; omega) | simpa using h_) (seg := [.int .i64 (rd x5_1 ((rd_T47 x6_2 x8_2).f3))]) (j := 3) hcl60 hcc60 (show 4 ≤ 5 from by decide) (x' := (⟨(rd_T47 x6_2 x8_2).f0, (rd_T47 x6_2 x8_2).f1, (rd_T47 x6_2 x8_2).f2, rd x5_1 ((rd_T47 x6_2 x8_2).f3), (rd_T47 x6_2 x8_2).f4⟩ : S47)) (k47_mkF _ _ (⟨(rd_T47 x6_2 x8_2).f0, (rd_T47 x6_2 x8_2).f1, (rd_T47 x6_2 x8_2).f2, rd x5_1 ((rd_T47 x6_2 x8_2).f3), (rd_T47 x6_2 x8_2).f4⟩ : S47) ul60_0 ge60_0) (fun _ hk => hk)
          have hx60_3 := hcc60 3 _ rfl
          (try simp only [show (k47).sz = 5 from rfl, Nat.mul_one, Nat.add_zero] at hx60_3)
          have hf60_3 := hfr60 3
          (try simp only [show (k47).sz = 5 from rfl, Nat.mul_one, Nat.add_zero] at hf60_3)
          clear hcl60 hcc60 hfr60 hM60
          go_wp2_with (first | ((with_reducible refine gate_store (t := 3) (p := 69) rfl ?_); refine store_event (t := 3) (p := 69) (v := ?vo_w61) (w1 := (wr.setCell ⟨go53, (x8_2 : Int).toNat * 5 + 3, none⟩ (.int .i64 (rd x5_1 ((rd_T47 x6_2 x8_2).f3))))) ?hg ?ho ?hn ?hr ?_; (case ho => rfl); (case hg => rfl); (case hn => rfl); (case hr => first | (go_simp; done) | (go_simp; rfl)); intro w61 hw; have hg : wr.grownBy w61 (some go53) := (by rw [hw]; exact HP60.2); have hp_ : Kd.N k47 47 w61 w.heap.size (fun k_ => (w.heap.size ≤ k_) ∧ some k_ ≠ (.slice (some ad136) x5_1.length co59 : Value).ownBlock ∧ some k_ ≠ (.slice Ao13 t103.length co13 : Value).ownBlock ∧ some k_ ≠ (.slice Ao17 t109.length co17 : Value).ownBlock ∧ k_ ≠ gb101 ∧ k_ ≠ gb102 ∧ k_ ≠ gb112) (.slice (some ⟨go53, 0, none⟩) x6_2.length co58) y137 := (by rw [hw, Ny137.out]; exact HP60.1); clear HP60; have n0_ := Zs0.mk (Kd.R_over' (v := (.slice (some ⟨go53, 0, none⟩) x6_2.length co58)) (zR HO_5.out) (Kd.N_typed HO_6.out) (by decide) hg); have n1_ := Zs0.mk (hp_); have n2_ := Zs0.mk (Kd.R_over' (v := (.slice (some ⟨go53, 0, none⟩) x6_2.length co58)) (zR HO_113000.out) (Kd.N_typed HO_6.out) (by decide) hg); have n3_ := Zs0.mk (Kd.N_afterv (v := (.slice (some ⟨go53, 0, none⟩) x6_2.length co58)) (v1 := (.slice (some ⟨go53, 0, none⟩) x6_2.length co58)) (ok := (fun k_ => (w.heap.size ≤ k_) ∧ some k_ ≠ (.slice (some ad136) x5_1.length co59 : Value).ownBlock ∧ some k_ ≠ (.slice Ao13 t103.length co13 : Value).ownBlock ∧ k_ ≠ gb101 ∧ k_ ≠ gb102 ∧ k_ ≠ gb112)) (by (with_reducible repeat (first | apply Kd.N_alloc | apply Kd.N_drewN | apply Kd.N_drew)); exact Kd.N_mono HO_113004.out (fun _ hk => ⟨⟨hk.1, ⟨hk.2.1, ⟨hk.2.2.2.1, ⟨hk.2.2.2.2.1, ⟨hk.2.2.2.2.2.1, hk.2.2.2.2.2.2⟩⟩⟩⟩⟩, hk.2.2.1⟩)) hg (.inl rfl)); have n4_ := Zs0.mk (blk_grown (zG BK101.out) hg (Kd.N_ne HO_6.out BK101.out (by decide))); have n5_ := Zs0.mk (blk_grown (zG BK102.out) hg (Kd.N_ne HO_6.out BK102.out (by decide))); have n6_ := Zs0.mk (blk_grown (zG BK112.out) hg (Kd.N_ne HO_6.out BK112.out (by decide))); have n7_ := Zs0.mk (Kd.V_afterv (v := (.slice (some ⟨go53, 0, none⟩) x6_2.length co58)) (v1 := (.slice (some ⟨go53, 0, none⟩) x6_2.length co58)) (ok := (fun k_ => (w.heap.size ≤ k_) ∧ some k_ ≠ (.slice (some ad136) x5_1.length co59 : Value).ownBlock ∧ some k_ ≠ (.slice Ao13 t103.length co13 : Value).ownBlock ∧ some k_ ≠ (.slice Ao17 t109.length co17 : Value).ownBlock ∧ k_ ≠ gb101 ∧ k_ ≠ gb102 ∧ k_ ≠ gb112)) (zV HL130_0.out) hg (.inl rfl)); have n8_ := Zs0.mk (Kd.V_afterv (v := (.slice (some ⟨go53, 0, none⟩) x6_2.length co58)) (v1 := (.slice (some ⟨go53, 0, none⟩) x6_2.length co58)) (ok := (fun k_ => (w.heap.size ≤ k_) ∧ some k_ ≠ (.slice (some ad136) x5_1.length co59 : Value).ownBlock ∧ some k_ ≠ (.slice Ao13 t103.length co13 : Value).ownBlock ∧ some k_ ≠ (.slice Ao17 t109.length co17 : Value).ownBlock ∧ k_ ≠ gb101 ∧ k_ ≠ gb102 ∧ k_ ≠ gb112)) (zV HL135_0.out) hg (.inl rfl)); have n9_ := Zs0.mk ((by rw [hw]; exact blS (HB.out) GB53.out : Below w.heap.size w w61)); revert n0_ n1_ n2_ n3_ n4_ n5_ n6_ n7_ n8_ n9_; clear HO_5 HO_6 HO_113000 HO_113004 BK101 BK102 BK112 HL130_0 HL135_0 HB; intro HO_5 HO_6 HO_113000 HO_113004 BK101 BK102 BK112 HL130_0 HL135_0 HB; clear hg hw hp_; have p138 : 0 ≤ (x8_2 : Int) := zD; have q138 : x8_2 < (y137.length : Int) := (by have h_ : (x8_2 : Int) < ((x6_2.length : Int) : Int) := zD; first | (have e_ := (Kd.N_reads' HO_6.out).1; omega) | simpa only [Ny137.out, List.length_set] using h_); have ql138 : ((x8_2 : Int) < ((x6_2.length : Int) : Int)) = True := eq_true zD; obtain ⟨ad138, A138_0, c138_0, e138, hx138_0, hx138_1, hx138_2, hx138_3, hx138_4, hl138_0, hi138_0⟩ := at_T47 (Kd.N_reads' HO_6.out).2.2 x8_2 p138 q138; obtain rfl : (⟨go53, 0, none⟩ : Addr) = ad138 := (by injection e138); obtain ⟨ce138, hce138, hMe138, hcc138⟩ := Kd.N_get HO_6.out z47 x8_2 p138 (by first | exact q138 | exact zD | (have e_ := (Kd.N_reads' HO_6.out).1; omega)); obtain ⟨ua138_0, uc138_0, rfl, ul138_0, ge138_0⟩ := k47_openF hMe138; have hv138_0 := hcc138 0 _ rfl; rw [Nat.add_zero] at hv138_0; replace hv138_0 := Option.some.inj (hv138_0.symm.trans hx138_0); injection hv138_0 with hva_ hvn_ hvc_; rw [hva_] at ge138_0; rw [hvc_] at ul138_0; have HL138_0 := Zs0.mk (show Kd.V k57 57 _ w.heap.size _ _ ((rd_T47 y137 x8_2).f0) from Kd.V_mk ul138_0 ge138_0); clear hva_ hvn_ hvc_ ge138_0 ul138_0; clear hcc138 hce138; (first | simp only [add_plain] at hx138_0 | simp only [add_at] at hx138_0 | simp only [Addr.add, Nat.zero_add] at hx138_0 | skip); (first | simp only [add_plain] at hx138_1 | simp only [add_at] at hx138_1 | simp only [Addr.add, Nat.zero_add] at hx138_1 | skip); (first | simp only [add_plain] at hx138_2 | simp only [add_at] at hx138_2 | simp only [Addr.add, Nat.zero_add] at hx138_2 | skip); (first | simp only [add_plain] at hx138_3 | simp only [add_at] at hx138_3 | simp only [Addr.add, Nat.zero_add] at hx138_3 | skip); (first | simp only [add_plain] at hx138_4 | simp only [add_at] at hx138_4 | simp only [Addr.add, Nat.zero_add] at hx138_4 | skip); have HR138_0 := Zs0.mk hi138_0; have HC138_0 := Zs0.mk hl138_0; clear hi138_0 hl138_0; replace p138 := eq_true p138; replace q138 := eq_true q138; have p139 : 0 ≤ (x8_2 : Int) := zD; have q139 : x8_2 < (y137.length : Int) := (by have h_ : (x8_2 : Int) < ((x6_2.length : Int) : Int) := zD; first | (have e_ := (Kd.N_reads' HO_6.out).1; omega) | simpa only [Ny137.out, List.length_set] using h_); have ql139 : ((x8_2 : Int) < ((x6_2.length : Int) : Int)) = True := eq_true zD; obtain ⟨ad139, A139_0, c139_0, e139, hx139_0, hx139_1, hx139_2, hx139_3, hx139_4, hl139_0, hi139_0⟩ := at_T47 (Kd.N_reads' HO_6.out).2.2 x8_2 p139 q139; obtain rfl : (⟨go53, 0, none⟩ : Addr) = ad139 := (by injection e139); obtain ⟨ce139, hce139, hMe139, hcc139⟩ := Kd.N_get HO_6.out z47 x8_2 p139 (by first | exact q139 | exact zD | (have e_ := (Kd.N_reads' HO_6.out).1; omega)); obtain ⟨ua139_0, uc139_0, rfl, ul139_0, ge139_0⟩ := k47_openF hMe139; have hv139_0 := hcc139 0 _ rfl; rw [Nat.add_zero] at hv139_0; replace hv139_0 := Option.some.inj (hv139_0.symm.trans hx139_0); injection hv139_0 with hva_ hvn_ hvc_; rw [hva_] at ge139_0; rw [hvc_] at ul139_0; have HL139_0 := Zs0.mk (show Kd.V k57 57 _ w.heap.size _ _ ((rd_T47 y137 x8_2).f0) from Kd.V_mk ul139_0 ge139_0); clear hva_ hvn_ hvc_ ge139_0 ul139_0; clear hcc139 hce139; (first | simp only [add_plain] at hx139_0 | simp only [add_at] at hx139_0 | simp only [Addr.add, Nat.zero_add] at hx139_0 | skip); (first | simp only [add_plain] at hx139_1 | simp only [add_at] at hx139_1 | simp only [Addr.add, Nat.zero_add] at hx139_1 | skip); (first | simp only [add_plain] at hx139_2 | simp only [add_at] at hx139_2 | simp only [Addr.add, Nat.zero_add] at hx139_2 | skip); (first | simp only [add_plain] at hx139_3 | simp only [add_at] at hx139_3 | simp only [Addr.add, Nat.zero_add] at hx139_3 | skip); (first | simp only [add_plain] at hx139_4 | simp only [add_at] at hx139_4 | simp only [Addr.add, Nat.zero_add] at hx139_4 | skip); have HR139_0 := Zs0.mk hi139_0; have HC139_0 := Zs0.mk hl139_0; clear hi139_0 hl139_0; replace p139 := eq_true p139; replace q139 := eq_true q139; have ea_ := Option.some.inj (hx138_0.symm.trans hx139_0); injection ea_ with ea_ en_ ec_; subst ea_; subst ec_; clear en_; have p140 : 0 ≤ (((rd_T47 y137 x8_2).f4) : Int) := zD; have q140 : ((rd_T47 y137 x8_2).f4) < (x5_1.length : Int) := zD; obtain ⟨ad140, e140, hx140_0⟩ := Kd.at_int (Kd.R_reads' HO_5.out).2.2 ((rd_T47 y137 x8_2).f4) p140 q140; obtain rfl : ad136 = ad140 := (by injection e140); replace p140 := eq_true p140; replace q140 := eq_true q140; have p57 : 0 ≤ (x8_2 : Int) := zD; have q57 : (x8_2 : Int) < ((x6_2.length : Int) : Int) := zD; obtain ⟨ce57, hcl57, hM57, hcc57, hfr57⟩ := Kd.N_elem HO_6.out z47 (x8_2 : Int) p57 q57; obtain ⟨ua57_0, uc57_0, rfl, ul57_0, ge57_0⟩ := k47_openF hM57; have hx57_0 : w61.cell? ⟨go53, (x8_2 : Int).toNat * 5, none⟩ = some (.slice ua57_0 ((rd_T47 y137 x8_2).f0).length uc57_0) := hcc57 0 _ rfl; have hx57_1 : w61.cell? ⟨go53, (x8_2 : Int).toNat * 5 + 1, none⟩ = some (.int .i64 ((rd_T47 y137 x8_2).f1)) := hcc57 1 _ rfl; have hx57_2 : w61.cell? ⟨go53, (x8_2 : Int).toNat * 5 + 2, none⟩ = some (.int .i64 ((rd_T47 y137 x8_2).f2)) := hcc57 2 _ rfl; have hx57_3 : w61.cell? ⟨go53, (x8_2 : Int).toNat * 5 + 3, none⟩ = some (.int .i64 ((rd_T47 y137 x8_2).f3)) := hcc57 3 _ rfl; have hx57_4 : w61.cell? ⟨go53, (x8_2 : Int).toNat * 5 + 4, none⟩ = some (.int .i64 ((rd_T47 y137 x8_2).f4)) := hcc57 4 _ rfl; have hf57_0 : w61.frozen? ⟨go53, (x8_2 : Int).toNat * 5, none⟩ = false := hfr57 0; have hf57_1 : w61.frozen? ⟨go53, (x8_2 : Int).toNat * 5 + 1, none⟩ = false := hfr57 1; have hf57_2 : w61.frozen? ⟨go53, (x8_2 : Int).toNat * 5 + 2, none⟩ = false := hfr57 2; have hf57_3 : w61.frozen? ⟨go53, (x8_2 : Int).toNat * 5 + 3, none⟩ = false := hfr57 3; have hf57_4 : w61.frozen? ⟨go53, (x8_2 : Int).toNat * 5 + 4, none⟩ = false := hfr57 4; clear hcl57 hcc57 hfr57 hM57; replace p57 := eq_true p57; replace q57 := eq_true q57; have HX62 := Zs0.mk (show Kd.N k47 47 w61 w.heap.size (fun k_ => (w.heap.size ≤ k_) ∧ some k_ ≠ (.slice (some ad136) x5_1.length co59 : Value).ownBlock ∧ some k_ ≠ (.slice Ao13 t103.length co13 : Value).ownBlock ∧ some k_ ≠ (.slice Ao17 t109.length co17 : Value).ownBlock ∧ k_ ≠ gb101 ∧ k_ ≠ gb102 ∧ k_ ≠ gb112) (.slice (some ⟨go53, 0, none⟩) x6_2.length co58) y137 from (zN HO_6.out)); obtain ⟨ce62, hcl62, hM62, hcc62, hfr62⟩ := Kd.N_elem HX62.out z47 (x8_2 : Int) zD (by have h_ : (x8_2 : Int) < ((x6_2.length : Int) : Int) := zD; first | exact h_ | (have e_ := (Kd.N_reads' HO_6.out).1; omega) | simpa using h_); obtain ⟨ua62_0, uc62_0, rfl, ul62_0, ge62_0⟩ := k47_openF hM62; have HP62 := Kd.N_seg HX62.out (x8_2 : Int) zD (by have h_ : (x8_2 : Int) < ((x6_2.length : Int) : Int) := zD; first | exact h_ | (have e_ := (Kd.N_reads' HO_6.out).1; omega) | simpa using h_) (seg := [.int .i64 (rd x5_1 ((rd_T47 y137 x8_2).f4))]) (j := 4) hcl62 hcc62 (show 5 ≤ 5 from by decide) (x' := (⟨(rd_T47 y137 x8_2).f0, (rd_T47 y137 x8_2).f1, (rd_T47 y137 x8_2).f2, (rd_T47 y137 x8_2).f3, rd x5_1 ((rd_T47 y137 x8_2).f4)⟩ : S47)) (k47_mkF _ _ (⟨(rd_T47 y137 x8_2).f0, (rd_T47 y137 x8_2).f1, (rd_T47 y137 x8_2).f2, (rd_T47 y137 x8_2).f3, rd x5_1 ((rd_T47 y137 x8_2).f4)⟩ : S47) ul62_0 ge62_0) (fun _ hk => hk); have hx62_4 := hcc62 4 _ rfl; (try simp only [show (k47).sz = 5 from rfl, Nat.mul_one, Nat.add_zero] at hx62_4); have hf62_4 := hfr62 4; (try simp only [show (k47).sz = 5 from rfl, Nat.mul_one, Nat.add_zero] at hf62_4); clear hcl62 hcc62 hfr62 hM62) | ((with_reducible refine gate_store (t := 3) (p := 87) rfl ?_); refine store_event (t := 3) (p := 87) (v := ?vo_w63) (w1 := (w61.setCell ⟨go53, (x8_2 : Int).toNat * 5 + 4, none⟩ (.int .i64 (rd x5_1 ((rd_T47 y137 x8_2).f4))))) ?hg ?ho ?hn ?hr ?_; (case ho => rfl); (case hg => rfl); (case hn => rfl); (case hr => first | (go_simp; done) | (go_simp; rfl)); intro w63 hw; have hg : w61.grownBy w63 (some go53) := (by rw [hw]; exact HP62.2); have hp_ : Kd.N k47 47 w63 w.heap.size (fun k_ => (w.heap.size ≤ k_) ∧ some k_ ≠ (.slice (some ad136) x5_1.length co59 : Value).ownBlock ∧ some k_ ≠ (.slice Ao13 t103.length co13 : Value).ownBlock ∧ some k_ ≠ (.slice Ao17 t109.length co17 : Value).ownBlock ∧ k_ ≠ gb101 ∧ k_ ≠ gb102 ∧ k_ ≠ gb112) (.slice (some ⟨go53, 0, none⟩) x6_2.length co58) y141 := (by rw [hw, Ny141.out]; exact HP62.1); clear HP62; have n0_ := Zs0.mk (Kd.R_over' (v := (.slice (some ⟨go53, 0, none⟩) x6_2.length co58)) (zR HO_5.out) (Kd.N_typed HO_6.out) (by decide) hg); have n1_ := Zs0.mk (hp_); have n2_ := Zs0.mk (Kd.R_over' (v := (.slice (some ⟨go53, 0, none⟩) x6_2.length co58)) (zR HO_113000.out) (Kd.N_typed HO_6.out) (by decide) hg); have n3_ := Zs0.mk (Kd.N_afterv (v := (.slice (some ⟨go53, 0, none⟩) x6_2.length co58)) (v1 := (.slice (some ⟨go53, 0, none⟩) x6_2.length co58)) (ok := (fun k_ => (w.heap.size ≤ k_) ∧ some k_ ≠ (.slice (some ad136) x5_1.length co59 : Value).ownBlock ∧ some k_ ≠ (.slice Ao13 t103.length co13 : Value).ownBlock ∧ k_ ≠ gb101 ∧ k_ ≠ gb102 ∧ k_ ≠ gb112)) (zN HO_113004.out) hg (.inl rfl)); have n4_ := Zs0.mk (blk_grown (zG BK101.out) hg (Kd.N_ne HO_6.out BK101.out (by decide))); have n5_ := Zs0.mk (blk_grown (zG BK102.out) hg (Kd.N_ne HO_6.out BK102.out (by decide))); have n6_ := Zs0.mk (blk_grown (zG BK112.out) hg (Kd.N_ne HO_6.out BK112.out (by decide))); have n7_ := Zs0.mk (Kd.V_afterv (v := (.slice (some ⟨go53, 0, none⟩) x6_2.length co58)) (v1 := (.slice (some ⟨go53, 0, none⟩) x6_2.length co58)) (ok := (fun k_ => (w.heap.size ≤ k_) ∧ some k_ ≠ (.slice (some ad136) x5_1.length co59 : Value).ownBlock ∧ some k_ ≠ (.slice Ao13 t103.length co13 : Value).ownBlock ∧ some k_ ≠ (.slice Ao17 t109.length co17 : Value).ownBlock ∧ k_ ≠ gb101 ∧ k_ ≠ gb102 ∧ k_ ≠ gb112)) (zV HL130_0.out) hg (.inl rfl)); have n8_ := Zs0.mk (Kd.V_afterv (v := (.slice (some ⟨go53, 0, none⟩) x6_2.length co58)) (v1 := (.slice (some ⟨go53, 0, none⟩) x6_2.length co58)) (ok := (fun k_ => (w.heap.size ≤ k_) ∧ some k_ ≠ (.slice (some ad136) x5_1.length co59 : Value).ownBlock ∧ some k_ ≠ (.slice Ao13 t103.length co13 : Value).ownBlock ∧ some k_ ≠ (.slice Ao17 t109.length co17 : Value).ownBlock ∧ k_ ≠ gb101 ∧ k_ ≠ gb102 ∧ k_ ≠ gb112)) (zV HL135_0.out) hg (.inl rfl)); have n9_ := Zs0.mk (Kd.V_afterv (v := (.slice (some ⟨go53, 0, none⟩) x6_2.length co58)) (v1 := (.slice (some ⟨go53, 0, none⟩) x6_2.length co58)) (ok := (fun k_ => (w.heap.size ≤ k_) ∧ some k_ ≠ (.slice (some ad136) x5_1.length co59 : Value).ownBlock ∧ some k_ ≠ (.slice Ao13 t103.length co13 : Value).ownBlock ∧ some k_ ≠ (.slice Ao17 t109.length co17 : Value).ownBlock ∧ k_ ≠ gb101 ∧ k_ ≠ gb102 ∧ k_ ≠ gb112)) (zV HL138_0.out) hg (.inl rfl)); have n10_ := Zs0.mk (Kd.V_afterv (v := (.slice (some ⟨go53, 0, none⟩) x6_2.length co58)) (v1 := (.slice (some ⟨go53, 0, none⟩) x6_2.length co58)) (ok := (fun k_ => (w.heap.size ≤ k_) ∧ some k_ ≠ (.slice (some ad136) x5_1.length co59 : Value).ownBlock ∧ some k_ ≠ (.slice Ao13 t103.length co13 : Value).ownBlock ∧ some k_ ≠ (.slice Ao17 t109.length co17 : Value).ownBlock ∧ k_ ≠ gb101 ∧ k_ ≠ gb102 ∧ k_ ≠ gb112)) (zV HL139_0.out) hg (.inl rfl)); have n11_ := Zs0.mk ((by rw [hw]; exact blS (HB.out) GB53.out : Below w.heap.size w w63)); revert n0_ n1_ n2_ n3_ n4_ n5_ n6_ n7_ n8_ n9_ n10_ n11_; clear HO_5 HO_6 HO_113000 HO_113004 BK101 BK102 BK112 HL130_0 HL135_0 HL138_0 HL139_0 HB; intro HO_5 HO_6 HO_113000 HO_113004 BK101 BK102 BK112 HL130_0 HL135_0 HL138_0 HL139_0 HB; clear hg hw hp_))
          go_roundg k2
          case measure => have := HK1.out; have := HK2.out; omega
          case rel => exact ⟨(y141), (wrap64 (x8_2 + 1)), zq, H', ⟨by have := HK1.out; have := HK2.out; omega⟩, ⟨zR HO_5.out⟩, ⟨zN HO_6.out⟩, ⟨zR HO_113000.out⟩, ⟨by (with_reducible repeat (first | apply Kd.N_alloc | apply Kd.N_drewN | apply Kd.N_drew)); exact Kd.N_mono HO_113004.out (fun _ hk => ⟨hk.1.1, ⟨hk.1.2.1, ⟨hk.2, ⟨hk.1.2.2.1, ⟨hk.1.2.2.2.1, ⟨hk.1.2.2.2.2.1, hk.1.2.2.2.2.2⟩⟩⟩⟩⟩⟩)⟩, ⟨zG BK101.out⟩, ⟨zG BK102.out⟩, ⟨zG BK112.out⟩, ⟨zB⟩⟩
         ·rw [if_neg c54] at H
          have c54b0 : (((rd_T47 y137 x8_2).f1) == 1) = false := beq_eq_false_iff_ne.mpr c54
          have c54b1 : (((rd_T47 y137 x8_2).f1) != 1) = true := bne_iff_ne.mpr c54
          have H' := Zs0.mk H
          clear H
          obtain ⟨Ao64, co64, eo64⟩ := Kd.N_slice HO_6.out
          subst eo64
          have p130 : 0 ≤ (x8_2 : Int) := zD
          have q130 : x8_2 < (x6_2.length : Int) := zD
          obtain ⟨ad130, A130_0, c130_0, e130, hx130_0, hx130_1, hx130_2, hx130_3, hx130_4, hl130_0, hi130_0⟩ := at_T47 (Kd.N_reads' HO_6.out).2.2 x8_2 p130 q130
          cases e130
          obtain ⟨ce130, hce130, hMe130, hcc130⟩ := Kd.N_get HO_6.out z47 x8_2 p130 (by first | exact q130 | exact zD | (have e_ := (Kd.N_reads' HO_6.out).1; omega))
          obtain ⟨ua130_0, uc130_0, rfl, ul130_0, ge130_0⟩ := k47_openF hMe130
          have hv130_0 := hcc130 0 _ rfl
          rw [Nat.add_zero] at hv130_0
          replace hv130_0 := Option.some.inj (hv130_0.symm.trans hx130_0)
          injection hv130_0 with hva_ hvn_ hvc_
          rw [hva_] at ge130_0
          rw [hvc_] at ul130_0
          have HL130_0 := Zs0.mk (show Kd.V k57 57 _ w.heap.size _ _ ((rd_T47 x6_2 x8_2).f0) from Kd.V_mk ul130_0 ge130_0)
          clear hva_ hvn_ hvc_ ge130_0 ul130_0
          clear hcc130 hce130
          have HR130_0 := Zs0.mk hi130_0
          have HC130_0 := Zs0.mk hl130_0
          clear hi130_0 hl130_0
          replace p130 := eq_true p130
          replace q130 := eq_true q130
          have p135 : 0 ≤ (x8_2 : Int) := zD
          have q135 : x8_2 < (x6_2.length : Int) := zD
          obtain ⟨ad135, A135_0, c135_0, e135, hx135_0, hx135_1, hx135_2, hx135_3, hx135_4, hl135_0, hi135_0⟩ := at_T47 (Kd.N_reads' HO_6.out).2.2 x8_2 p135 q135
          obtain rfl : ad130 = ad135 := (by injection e135)
          obtain ⟨ce135, hce135, hMe135, hcc135⟩ := Kd.N_get HO_6.out z47 x8_2 p135 (by first | exact q135 | exact zD | (have e_ := (Kd.N_reads' HO_6.out).1; omega))
          obtain ⟨ua135_0, uc135_0, rfl, ul135_0, ge135_0⟩ := k47_openF hMe135
          have hv135_0 := hcc135 0 _ rfl
          rw [Nat.add_zero] at hv135_0
          replace hv135_0 := Option.some.inj (hv135_0.symm.trans hx135_0)
          injection hv135_0 with hva_ hvn_ hvc_
          rw [hva_] at ge135_0
          rw [hvc_] at ul135_0
          have HL135_0 := Zs0.mk (show Kd.V k57 57 _ w.heap.size _ _ ((rd_T47 x6_2 x8_2).f0) from Kd.V_mk ul135_0 ge135_0)
          clear hva_ hvn_ hvc_ ge135_0 ul135_0
          clear hcc135 hce135
          have HR135_0 := Zs0.mk hi135_0
          have HC135_0 := Zs0.mk hl135_0
          clear hi135_0 hl135_0
          replace p135 := eq_true p135
          replace q135 := eq_true q135
          have ea_ := Option.some.inj (hx130_0.symm.trans hx135_0)
          injection ea_ with ea_ en_ ec_
          subst ea_
          subst ec_
          clear en_
          obtain ⟨Ao65, co65, eo65⟩ := Kd.R_slice HO_5.out
          subst eo65
          have p136 : 0 ≤ (((rd_T47 x6_2 x8_2).f3) : Int) := zD
          have q136 : ((rd_T47 x6_2 x8_2).f3) < (x5_1.length : Int) := zD
          obtain ⟨ad136, e136, hx136_0⟩ := Kd.at_int (Kd.R_reads' HO_5.out).2.2 ((rd_T47 x6_2 x8_2).f3) p136 q136
          cases e136
          replace p136 := eq_true p136
          replace q136 := eq_true q136
          have p53 : 0 ≤ (x8_2 : Int) := zD
          have q53 : (x8_2 : Int) < ((x6_2.length : Int) : Int) := zD
          obtain ⟨go53, co53, eo53, gb53, gl53, cl53, HG53⟩ := Kd.N_form HO_6.out (by omega)
          (first | cases eo53 | (injection eo53 with ea_ en_ ec_; (first | subst ea_ | (injection ea_ with ea_; subst ea_)); subst ec_; clear en_))
          have GB53 := Zs0.mk gb53
          have GG53 := Zs0.mk HG53
          clear gb53 gl53 HG53
          (first | simp only [add_plain] at hx130_0 | skip)
          (first | simp only [add_plain] at hx130_1 | skip)
          (first | simp only [add_plain] at hx130_2 | skip)
          (first | simp only [add_plain] at hx130_3 | skip)
          (first | simp only [add_plain] at hx130_4 | skip)
          (first | simp only [add_plain] at hx135_0 | skip)
          (first | simp only [add_plain] at hx135_1 | skip)
          (first | simp only [add_plain] at hx135_2 | skip)
          (first | simp only [add_plain] at hx135_3 | skip)
          (first | simp only [add_plain] at hx135_4 | skip)
          obtain ⟨ce53, hcl53, hM53, hcc53, hfr53⟩ := Kd.N_elem HO_6.out z47 (x8_2 : Int) p53 q53
          obtain ⟨ua53_0, uc53_0, rfl, ul53_0, ge53_0⟩ := k47_openF hM53
          have hx53_0 : wr.cell? ⟨go53, (x8_2 : Int).toNat * 5, none⟩ = some (.slice ua53_0 ((rd_T47 x6_2 x8_2).f0).length uc53_0) := hcc53 0 _ rfl
          have hx53_1 : wr.cell? ⟨go53, (x8_2 : Int).toNat * 5 + 1, none⟩ = some (.int .i64 ((rd_T47 x6_2 x8_2).f1)) := hcc53 1 _ rfl
          have hx53_2 : wr.cell? ⟨go53, (x8_2 : Int).toNat * 5 + 2, none⟩ = some (.int .i64 ((rd_T47 x6_2 x8_2).f2)) := hcc53 2 _ rfl
          have hx53_3 : wr.cell? ⟨go53, (x8_2 : Int).toNat * 5 + 3, none⟩ = some (.int .i64 ((rd_T47 x6_2 x8_2).f3)) := hcc53 3 _ rfl
          have hx53_4 : wr.cell? ⟨go53, (x8_2 : Int).toNat * 5 + 4, none⟩ = some (.int .i64 ((rd_T47 x6_2 x8_2).f4)) := hcc53 4 _ rfl
          have hf53_0 : wr.frozen? ⟨go53, (x8_2 : Int).toNat * 5, none⟩ = false := hfr53 0
          have hf53_1 : wr.frozen? ⟨go53, (x8_2 : Int).toNat * 5 + 1, none⟩ = false := hfr53 1
          have hf53_2 : wr.frozen? ⟨go53, (x8_2 : Int).toNat * 5 + 2, none⟩ = false := hfr53 2
          have hf53_3 : wr.frozen? ⟨go53, (x8_2 : Int).toNat * 5 + 3, none⟩ = false := hfr53 3
          have hf53_4 : wr.frozen? ⟨go53, (x8_2 : Int).toNat * 5 + 4, none⟩ = false := hfr53 4
          clear hcl53 hcc53 hfr53 hM53
          replace p53 := eq_true p53
          replace q53 := eq_true q53
          have HX66 := Zs0.mk (show Kd.N k47 47 wr w.heap.size (fun k_ => (w.heap.size ≤ k_) ∧ some k_ ≠ (.slice (some ad136) x5_1.length co65 : Value).ownBlock ∧ some k_ ≠ (.slice Ao13 t103.length co13 : Value).ownBlock ∧ some k_ ≠ (.slice Ao17 t109.length co17 : Value).ownBlock ∧ k_ ≠ gb101 ∧ k_ ≠ gb102 ∧ k_ ≠ gb112) (.slice (some ⟨go53, 0, none⟩) x6_2.length co64) x6_2 from (zN HO_6.out))
          obtain ⟨ce66, hcl66, hM66, hcc66, hfr66⟩ := Kd.N_elem HX66.out z47 (x8_2 : Int) zD (by have h_ : (x8_2 : Int) < ((x6_2.length : Int) : Int) := zD; first | exact h_ | (have e_ := (Kd.N_reads' HO_6.out).1; omega) | simpa using h_)
          obtain ⟨ua66_0, uc66_0, rfl, ul66_0, ge66_0⟩ := k47_openF hM66
          have HP66 := Kd.N_seg HX66.out (x8_2 : Int) zD (by have h_ : (x8_2 : Int) < ((x6_2.length : Int) : Int) := zD; first | exact h_ | (have e_ := (Kd.N_reads' HO_6.out).1; omega) | simpa using h_) (seg := [.int .i64 (rd x5_1 ((rd_T47 x6_2 x8_2).f3))]) (j := 3) hcl66 hcc66 (show 4 ≤ 5 from by decide) (x' := (⟨(rd_T47 x6_2 x8_2).f0, (rd_T47 x6_2 x8_2).f1, (rd_T47 x6_2 x8_2).f2, rd x5_1 ((rd_T47 x6_2 x8_2).f3), (rd_T47 x6_2 x8_2).f4⟩ : S47)) (k47_mkF _ _ (⟨(rd_T47 x6_2 x8_2).f0, (rd_T47 x6_2 x8_2).f1, (rd_T47 x6_2 x8_2).f2, rd x5_1 ((rd_T47 x6_2 x8_2).f3), (rd_T47 x6_2 x8_2).f4⟩ : S47) ul66_0 ge66_0) (fun _ hk => hk)
          have hx66_3 := hcc66 3 _ rfl
          (try simp only [show (k47).sz = 5 from rfl, Nat.mul_one, Nat.add_zero] at hx66_3)
          have hf66_3 := hfr66 3
          (try simp only [show (k47).sz = 5 from rfl, Nat.mul_one, Nat.add_zero] at hf66_3)
          clear hcl66 hcc66 hfr66 hM66
          go_wp2_with (first | ((with_reducible refine gate_store (t := 3) (p := 69) rfl ?_); refine store_event (t := 3) (p := 69) (v := ?vo_w67) (w1 := (wr.setCell ⟨go53, (x8_2 : Int).toNat * 5 + 3, none⟩ (.int .i64 (rd x5_1 ((rd_T47 x6_2 x8_2).f3))))) ?hg ?ho ?hn ?hr ?_; (case ho => rfl); (case hg => rfl); (case hn => rfl); (case hr => first | (go_simp; done) | (go_simp; rfl)); intro w67 hw; have hg : wr.grownBy w67 (some go53) := (by rw [hw]; exact HP66.2); have hp_ : Kd.N k47 47 w67 w.heap.size (fun k_ => (w.heap.size ≤ k_) ∧ some k_ ≠ (.slice (some ad136) x5_1.length co65 : Value).ownBlock ∧ some k_ ≠ (.slice Ao13 t103.length co13 : Value).ownBlock ∧ some k_ ≠ (.slice Ao17 t109.length co17 : Value).ownBlock ∧ k_ ≠ gb101 ∧ k_ ≠ gb102 ∧ k_ ≠ gb112) (.slice (some ⟨go53, 0, none⟩) x6_2.length co64) y137 := (by rw [hw, Ny137.out]; exact HP66.1); clear HP66; have n0_ := Zs0.mk (Kd.R_over' (v := (.slice (some ⟨go53, 0, none⟩) x6_2.length co64)) (zR HO_5.out) (Kd.N_typed HO_6.out) (by decide) hg); have n1_ := Zs0.mk (hp_); have n2_ := Zs0.mk (Kd.R_over' (v := (.slice (some ⟨go53, 0, none⟩) x6_2.length co64)) (zR HO_113000.out) (Kd.N_typed HO_6.out) (by decide) hg); have n3_ := Zs0.mk (Kd.N_afterv (v := (.slice (some ⟨go53, 0, none⟩) x6_2.length co64)) (v1 := (.slice (some ⟨go53, 0, none⟩) x6_2.length co64)) (ok := (fun k_ => (w.heap.size ≤ k_) ∧ some k_ ≠ (.slice (some ad136) x5_1.length co65 : Value).ownBlock ∧ some k_ ≠ (.slice Ao13 t103.length co13 : Value).ownBlock ∧ k_ ≠ gb101 ∧ k_ ≠ gb102 ∧ k_ ≠ gb112)) (by (with_reducible repeat (first | apply Kd.N_alloc | apply Kd.N_drewN | apply Kd.N_drew)); exact Kd.N_mono HO_113004.out (fun _ hk => ⟨⟨hk.1, ⟨hk.2.1, ⟨hk.2.2.2.1, ⟨hk.2.2.2.2.1, ⟨hk.2.2.2.2.2.1, hk.2.2.2.2.2.2⟩⟩⟩⟩⟩, hk.2.2.1⟩)) hg (.inl rfl)); have n4_ := Zs0.mk (blk_grown (zG BK101.out) hg (Kd.N_ne HO_6.out BK101.out (by decide))); have n5_ := Zs0.mk (blk_grown (zG BK102.out) hg (Kd.N_ne HO_6.out BK102.out (by decide))); have n6_ := Zs0.mk (blk_grown (zG BK112.out) hg (Kd.N_ne HO_6.out BK112.out (by decide))); have n7_ := Zs0.mk (Kd.V_afterv (v := (.slice (some ⟨go53, 0, none⟩) x6_2.length co64)) (v1 := (.slice (some ⟨go53, 0, none⟩) x6_2.length co64)) (ok := (fun k_ => (w.heap.size ≤ k_) ∧ some k_ ≠ (.slice (some ad136) x5_1.length co65 : Value).ownBlock ∧ some k_ ≠ (.slice Ao13 t103.length co13 : Value).ownBlock ∧ some k_ ≠ (.slice Ao17 t109.length co17 : Value).ownBlock ∧ k_ ≠ gb101 ∧ k_ ≠ gb102 ∧ k_ ≠ gb112)) (zV HL130_0.out) hg (.inl rfl)); have n8_ := Zs0.mk (Kd.V_afterv (v := (.slice (some ⟨go53, 0, none⟩) x6_2.length co64)) (v1 := (.slice (some ⟨go53, 0, none⟩) x6_2.length co64)) (ok := (fun k_ => (w.heap.size ≤ k_) ∧ some k_ ≠ (.slice (some ad136) x5_1.length co65 : Value).ownBlock ∧ some k_ ≠ (.slice Ao13 t103.length co13 : Value).ownBlock ∧ some k_ ≠ (.slice Ao17 t109.length co17 : Value).ownBlock ∧ k_ ≠ gb101 ∧ k_ ≠ gb102 ∧ k_ ≠ gb112)) (zV HL135_0.out) hg (.inl rfl)); have n9_ := Zs0.mk ((by rw [hw]; exact blS (HB.out) GB53.out : Below w.heap.size w w67)); revert n0_ n1_ n2_ n3_ n4_ n5_ n6_ n7_ n8_ n9_; clear HO_5 HO_6 HO_113000 HO_113004 BK101 BK102 BK112 HL130_0 HL135_0 HB; intro HO_5 HO_6 HO_113000 HO_113004 BK101 BK102 BK112 HL130_0 HL135_0 HB; clear hg hw hp_; have p138 : 0 ≤ (x8_2 : Int) := zD; have q138 : x8_2 < (y137.length : Int) := (by have h_ : (x8_2 : Int) < ((x6_2.length : Int) : Int) := zD; first | (have e_ := (Kd.N_reads' HO_6.out).1; omega) | simpa only [Ny137.out, List.length_set] using h_); have ql138 : ((x8_2 : Int) < ((x6_2.length : Int) : Int)) = True := eq_true zD; obtain ⟨ad138, A138_0, c138_0, e138, hx138_0, hx138_1, hx138_2, hx138_3, hx138_4, hl138_0, hi138_0⟩ := at_T47 (Kd.N_reads' HO_6.out).2.2 x8_2 p138 q138; obtain rfl : (⟨go53, 0, none⟩ : Addr) = ad138 := (by injection e138); obtain ⟨ce138, hce138, hMe138, hcc138⟩ := Kd.N_get HO_6.out z47 x8_2 p138 (by first | exact q138 | exact zD | (have e_ := (Kd.N_reads' HO_6.out).1; omega)); obtain ⟨ua138_0, uc138_0, rfl, ul138_0, ge138_0⟩ := k47_openF hMe138; have hv138_0 := hcc138 0 _ rfl; rw [Nat.add_zero] at hv138_0; replace hv138_0 := Option.some.inj (hv138_0.symm.trans hx138_0); injection hv138_0 with hva_ hvn_ hvc_; rw [hva_] at ge138_0; rw [hvc_] at ul138_0; have HL138_0 := Zs0.mk (show Kd.V k57 57 _ w.heap.size _ _ ((rd_T47 y137 x8_2).f0) from Kd.V_mk ul138_0 ge138_0); clear hva_ hvn_ hvc_ ge138_0 ul138_0; clear hcc138 hce138; (first | simp only [add_plain] at hx138_0 | simp only [add_at] at hx138_0 | simp only [Addr.add, Nat.zero_add] at hx138_0 | skip); (first | simp only [add_plain] at hx138_1 | simp only [add_at] at hx138_1 | simp only [Addr.add, Nat.zero_add] at hx138_1 | skip); (first | simp only [add_plain] at hx138_2 | simp only [add_at] at hx138_2 | simp only [Addr.add, Nat.zero_add] at hx138_2 | skip); (first | simp only [add_plain] at hx138_3 | simp only [add_at] at hx138_3 | simp only [Addr.add, Nat.zero_add] at hx138_3 | skip); (first | simp only [add_plain] at hx138_4 | simp only [add_at] at hx138_4 | simp only [Addr.add, Nat.zero_add] at hx138_4 | skip); have HR138_0 := Zs0.mk hi138_0; have HC138_0 := Zs0.mk hl138_0; clear hi138_0 hl138_0; replace p138 := eq_true p138; replace q138 := eq_true q138))
          go_roundg k2
          case measure => have := HK1.out; have := HK2.out; omega
          case rel => exact ⟨(y137), (wrap64 (x8_2 + 1)), zq, H', ⟨by have := HK1.out; have := HK2.out; omega⟩, ⟨zR HO_5.out⟩, ⟨zN HO_6.out⟩, ⟨zR HO_113000.out⟩, ⟨by (with_reducible repeat (first | apply Kd.N_alloc | apply Kd.N_drewN | apply Kd.N_drew)); exact Kd.N_mono HO_113004.out (fun _ hk => ⟨hk.1.1, ⟨hk.1.2.1, ⟨hk.2, ⟨hk.1.2.2.1, ⟨hk.1.2.2.2.1, ⟨hk.1.2.2.2.2.1, hk.1.2.2.2.2.2⟩⟩⟩⟩⟩⟩)⟩, ⟨zG BK101.out⟩, ⟨zG BK102.out⟩, ⟨zG BK112.out⟩, ⟨zB⟩⟩
       ·rw [if_neg c39] at H
        have c39b0 : decide (x8_2 < (x6_2.length : Int)) = false := decide_eq_false c39
        clear c39
        simp only [Option.some.injEq, Prod.mk.injEq] at H
        obtain ⟨rfl, rfl, rfl, rfl, rfl⟩ := H
        obtain ⟨Ao68, co68, eo68⟩ := Kd.N_slice HO_6.out
        subst eo68
        have hnb69 := NB112_101.out
        have hnc69 := NB101_112.out
        have hnb70 := NB112_102.out
        have hnc70 := NB102_112.out
        obtain ⟨hcz71_0, hcz71_1, hcz71_2, hcz71_3, hcz71_4, hfz71_0, hfz71_1, hfz71_2, hfz71_3, hfz71_4⟩ := bx5 BK112.out
        have hnb72 := NB102_101.out
        have hnc72 := NB101_102.out
        obtain ⟨hcz73_0, hcz73_1, hcz73_2, hcz73_3, hcz73_4, hfz73_0, hfz73_1, hfz73_2, hfz73_3, hfz73_4⟩ := bx5 BK102.out
        go_wp2
        refine bodyPost_ret (results_cell_row rfl _ _ gb102 29 #[.slice Ao13 t103.length co13, .int .i64 t106, .int .i64 t107, .int .i64 t108, .slice Ao68 x6_2.length co68] (0, 0) _ rfl (by refine zE ?_; refine blk_put (cs := #[.slice Ao13 t103.length co13, .int .i64 t106, .int .i64 t107, .int .i64 t108, .slice none 0 0]) ?_ 4 _ rfl; refine zE ?_; refine blk_put (cs := #[.slice Ao13 t103.length co13, .int .i64 t106, .int .i64 t107, .int .i64 0, .slice none 0 0]) ?_ 3 _ rfl; refine zE ?_; refine blk_put (cs := #[.slice Ao13 t103.length co13, .int .i64 t106, .int .i64 0, .int .i64 0, .slice none 0 0]) ?_ 2 _ rfl; refine zE ?_; refine blk_put (cs := #[.slice Ao13 t103.length co13, .int .i64 0, .int .i64 0, .int .i64 0, .slice none 0 0]) ?_ 1 _ rfl; refine zE ?_; refine blk_put (cs := #[.slice none 0 0, .int .i64 0, .int .i64 0, .int .i64 0, .slice none 0 0]) ?_ 0 _ rfl; refine zE ?_; refine blk_far ?_ NB102_112.out _; refine zE ?_; exact BK102.out) Try.underlying29 rfl (by kernel_rfl)) rfl ?_
        exact ⟨_, _, zr, by (with_reducible repeat (first | apply Kd.rA1 | apply Kd.rD1 | apply Kd.rD2)); exact Kd.R_mono (Kd.R_far (p := ⟨gb102, 4, none⟩) (Kd.R_far (p := ⟨gb102, 3, none⟩) (Kd.R_far (p := ⟨gb102, 2, none⟩) (Kd.R_far (p := ⟨gb102, 1, none⟩) (Kd.R_far (p := ⟨gb102, 0, none⟩) (Kd.R_far (p := ⟨gb112, 4, none⟩) (Kd.R_types (Kd.R_types HO_113000.out BK112.out (by decide)) BK102.out (by decide)) (fun _ hk => hk.1.2) (.slice Ao68 x6_2.length co68)) (fun _ hk => hk.2) (.slice Ao13 t103.length co13)) (fun _ hk => hk.2) (.int .i64 t106)) (fun _ hk => hk.2) (.int .i64 t107)) (fun _ hk => hk.2) (.int .i64 t108)) (fun _ hk => hk.2) (.slice Ao68 x6_2.length co68)) (fun _ hk => hk.1.1.1), by (with_reducible repeat (first | apply Kd.N_alloc | apply Kd.N_drewN | apply Kd.N_drew)); exact Kd.N_mono (Kd.N_far (p := ⟨gb102, 4, none⟩) (Kd.N_far (p := ⟨gb102, 3, none⟩) (Kd.N_far (p := ⟨gb102, 2, none⟩) (Kd.N_far (p := ⟨gb102, 1, none⟩) (Kd.N_far (p := ⟨gb102, 0, none⟩) (Kd.N_far (p := ⟨gb112, 4, none⟩) (Kd.N_mono (Kd.N_mono HO_6.out (fun k_ hk => (⟨hk, hk.2.2.2.2.2.2⟩ : _ ∧ k_ ≠ gb112))) (fun k_ hk => (⟨hk, hk.1.2.2.2.2.2.1⟩ : _ ∧ k_ ≠ gb102))) (fun _ hk => hk.1.2) (.slice Ao68 x6_2.length co68)) (fun _ hk => hk.2) (.slice Ao13 t103.length co13)) (fun _ hk => hk.2) (.int .i64 t106)) (fun _ hk => hk.2) (.int .i64 t107)) (fun _ hk => hk.2) (.int .i64 t108)) (fun _ hk => hk.2) (.slice Ao68 x6_2.length co68)) (fun _ hk => ⟨hk.1.1.1, hk.1.1.2.2.1⟩), zB⟩
 ·replace c4 := Bool.eq_false_iff.mpr c4
  subst c4
  have H1 : (some (t103, t106, t107, t108, t109)) = some (r1, r2, r3, r4, r5) := by rw [if_neg (show ¬ (false = true) by decide)] at H; exact H
  clear H
  have H := H1
  clear H1
  simp only [Option.some.injEq, Prod.mk.injEq] at H
  obtain ⟨rfl, rfl, rfl, rfl, rfl⟩ := H
  go_enter Try.func8, Try.ntmps8
  go_wp2_with (first | ((with_reducible refine gtD (N := 1) rfl ?_); refine bxE ?hg (N := 1) ?hd (cs := #[.slice A0_0 l0_0.length c0_0, .int .i64 a0_1, .int .i64 a0_2, .int .i64 a0_3, .slice A0_4 l0_4.length c0_4]) (t := 29) ?hr ?_; (case hd => rfl); (case hg => rfl); (case hr => first | (go_simp; done) | (go_simp; rfl)); intro gb101 hg w74 hbox hb; have n0_ := Zs0.mk (blT zB hb); have n1_ := Zs0.mk (hbox); have n2_ := Zs0.mk (zs hg : w.heap.size ≤ gb101); have n3_ := Zs0.mk (zs hg : w.heap.size ≤ gb101); revert n0_ n1_ n2_ n3_; clear HB; intro HB BK101 GW101 GE101; clear hb hbox hg) | ((with_reducible refine gtD (N := 2) rfl ?_); refine bxE ?hg (N := 2) ?hd (cs := #[.slice none 0 0, .int .i64 0, .int .i64 0, .int .i64 0, .slice none 0 0]) (t := 29) ?hr ?_; (case hd => rfl); (case hg => rfl); (case hr => first | (go_simp; done) | (go_simp; rfl)); intro gb102 hg w75 hbox hb; have n0_ := Zs0.mk (bkB (zG BK101.out) hb); have n1_ := Zs0.mk (blT zB hb); have n2_ := Zs0.mk (hbox); have n3_ := Zs0.mk (zs hg : w.heap.size ≤ gb102); have n4_ := Zs0.mk (zs hg : w.heap.size ≤ gb102); have n5_ := Zs0.mk ((by rw [hg]; exact Nat.ne_of_lt (blk_lt (zG BK101.out)) : gb101 ≠ gb102)); have n6_ := Zs0.mk ((by rw [hg]; exact Nat.ne_of_gt (blk_lt (zG BK101.out)) : gb102 ≠ gb101)); revert n0_ n1_ n2_ n3_ n4_ n5_ n6_; clear BK101 HB; intro BK101 HB BK102 GW102 GE102 NB101_102 NB102_101; clear hb hbox hg; have hnb76 := NB101_102.out; have hnc76 := NB102_101.out; obtain ⟨hcz77_0, hcz77_1, hcz77_2, hcz77_3, hcz77_4, hfz77_0, hfz77_1, hfz77_2, hfz77_3, hfz77_4⟩ := bx5 BK101.out) | ((with_reducible refine gtC (f := 28) rfl ?_); refine goesL_ (some 10) rfl rfl Try.func28 (by kernel_rfl) rfl #[.agg #[.slice A0_0 l0_0.length c0_0, .int .i64 a0_1, .int .i64 a0_2, .int .i64 a0_3, .slice A0_4 l0_4.length c0_4]] rfl zM ?_; (with_reducible refine (spec_l04Copy.calls k _ _ l0_0 a0_1 a0_2 a0_3 _ _ l0_4 t103 t106 t107 t108 t109 _ ?side1 ?side2 ?side3 ?side4 A2.out).mono ?_); (case side1 => exact zC HR0_0.out); (case side2 => exact HC0_0.out); (case side3 => exact zC HR0_4.out); (case side4 => exact HC0_4.out); rintro e w78 ⟨v104, v110, rfl, ho0, ho1, hb⟩; refine ⟨_, rfl, ?_⟩; have n0_ := Zs0.mk (Kd.R_lower (Kd.R_newM (M := fun k_ => (w.heap.size ≤ k_)) ho0 (blZ zB) (fun k_ h_ => h_)) (blZ zB)); have n1_ := Zs0.mk (Kd.N_lower (Kd.N_mono (ok' := fun k_ => (w.heap.size ≤ k_) ∧ some k_ ≠ (v104 : Value).ownBlock ∧ k_ ≠ gb101 ∧ k_ ≠ gb102) (Kd.S_N (Kd.S_bound (Kd.S_apart' ho1 (Kd.R_typed ho0) (by decide)))) (fun k_ hk_ => ⟨(Nat.le_trans (blZ zB) hk_.2.1), hk_.1.2, (Kd.freshB (zG BK101.out) k_ hk_.2.1), (Kd.freshB (zG BK102.out) k_ hk_.2.1)⟩)) (blZ zB)); have n2_ := Zs0.mk (bkB (zG BK101.out) hb); have n3_ := Zs0.mk (bkB (zG BK102.out) hb); have n4_ := Zs0.mk (blT zB hb); revert n0_ n1_ n2_ n3_ n4_; clear BK101 BK102 HB; intro HO105 HO111 BK101 BK102 HB; (try clear hb); (try clear hb2); (try clear hk); (try clear hi); (try clear ho0); (try clear ho1)) | ((with_reducible refine gtD (N := 3) rfl ?_); refine bxE ?hg (N := 3) ?hd (cs := #[.slice none 0 0, .int .i64 0, .int .i64 0, .int .i64 0, .slice none 0 0]) (t := 29) ?hr ?_; (case hd => rfl); (case hg => rfl); (case hr => first | (go_simp; done) | (go_simp; rfl)); intro gb112 hg w79 hbox hb; have n0_ := Zs0.mk (Kd.R_below (zR HO105.out) hb); have n1_ := Zs0.mk (Kd.N_below (Kd.N_elderB (zN HO111.out) gb112 (Nat.le_of_eq hg.symm)) hb); have n2_ := Zs0.mk (bkB (zG BK101.out) hb); have n3_ := Zs0.mk (bkB (zG BK102.out) hb); have n4_ := Zs0.mk (blT zB hb); have n5_ := Zs0.mk (hbox); have n6_ := Zs0.mk (zs hg : w.heap.size ≤ gb112); have n7_ := Zs0.mk (zs hg : w.heap.size ≤ gb112); have n8_ := Zs0.mk ((by rw [hg]; exact Nat.ne_of_lt (blk_lt (zG BK101.out)) : gb101 ≠ gb112)); have n9_ := Zs0.mk ((by rw [hg]; exact Nat.ne_of_gt (blk_lt (zG BK101.out)) : gb112 ≠ gb101)); have n10_ := Zs0.mk ((by rw [hg]; exact Nat.ne_of_lt (blk_lt (zG BK102.out)) : gb102 ≠ gb112)); have n11_ := Zs0.mk ((by rw [hg]; exact Nat.ne_of_gt (blk_lt (zG BK102.out)) : gb112 ≠ gb102)); revert n0_ n1_ n2_ n3_ n4_ n5_ n6_ n7_ n8_ n9_ n10_ n11_; clear HO105 HO111 BK101 BK102 HB; intro HO105 HO111 BK101 BK102 HB BK112 GW112 GE112 NB101_112 NB112_101 NB102_112 NB112_102; clear hb hbox hg; obtain ⟨Ao80, co80, eo80⟩ := Kd.R_slice HO105.out; subst eo80; have hnb81 := NB112_101.out; have hnc81 := NB101_112.out; have hnb82 := NB112_102.out; have hnc82 := NB102_112.out; obtain ⟨hcz83_0, hcz83_1, hcz83_2, hcz83_3, hcz83_4, hfz83_0, hfz83_1, hfz83_2, hfz83_3, hfz83_4⟩ := bx5 BK112.out; obtain ⟨Ao84, co84, eo84⟩ := Kd.N_slice HO111.out; subst eo84; obtain ⟨hcz85_0, hcz85_1, hcz85_2, hcz85_3, hcz85_4, hfz85_0, hfz85_1, hfz85_2, hfz85_3, hfz85_4⟩ := bx5 BK101.out) | ((with_reducible refine gtC (f := 29) rfl ?_); refine goesL_ (some 12) rfl rfl Try.func29 (by kernel_rfl) rfl #[.agg #[.slice A0_0 l0_0.length c0_0, .int .i64 a0_1, .int .i64 a0_2, .int .i64 a0_3, .slice A0_4 l0_4.length c0_4]] rfl zM ?_; (with_reducible refine (spec_GraphOk.calls k _ _ l0_0 a0_1 a0_2 a0_3 _ _ l0_4 false _ ?side1 ?side2 ?side3 ?side4 A3.out).mono ?_); (case side1 => exact Kd.cB1 HR0_0.out zB); (case side2 => exact HC0_0.out); (case side3 => exact Kd.cB1 HR0_4.out zB); (case side4 => exact HC0_4.out); rintro e w86 ⟨rfl, hb⟩; refine ⟨_, rfl, ?_⟩; have n0_ := Zs0.mk (Kd.R_below (by (with_reducible repeat (first | apply Kd.rA1 | apply Kd.rD1 | apply Kd.rD2)); exact (Kd.R_mono (Kd.R_far (p := ⟨gb112, 4, none⟩) (Kd.R_far (p := ⟨gb112, 3, none⟩) (Kd.R_far (p := ⟨gb112, 2, none⟩) (Kd.R_far (p := ⟨gb112, 1, none⟩) (Kd.R_far (p := ⟨gb112, 0, none⟩) (Kd.R_types HO105.out BK112.out (by decide)) (fun _ hk => hk.2) (.slice Ao80 t103.length co80)) (fun _ hk => hk.2) (.int .i64 t106)) (fun _ hk => hk.2) (.int .i64 t107)) (fun _ hk => hk.2) (.int .i64 t108)) (fun _ hk => hk.2) (.slice Ao84 t109.length co84)) (fun _ h_ => h_.1))) hb); have n1_ := Zs0.mk (Kd.N_below (by (with_reducible repeat (first | apply Kd.N_alloc | apply Kd.N_drewN | apply Kd.N_drew)); exact (Kd.N_mono (Kd.N_far (p := ⟨gb112, 4, none⟩) (Kd.N_far (p := ⟨gb112, 3, none⟩) (Kd.N_far (p := ⟨gb112, 2, none⟩) (Kd.N_far (p := ⟨gb112, 1, none⟩) (Kd.N_far (p := ⟨gb112, 0, none⟩) (Kd.N_mono HO111.out (fun k_ hk => (⟨hk, hk.2⟩ : _ ∧ k_ ≠ gb112))) (fun _ hk => hk.2) (.slice Ao80 t103.length co80)) (fun _ hk => hk.2) (.int .i64 t106)) (fun _ hk => hk.2) (.int .i64 t107)) (fun _ hk => hk.2) (.int .i64 t108)) (fun _ hk => hk.2) (.slice Ao84 t109.length co84)) (fun _ h_ => h_.1))) hb); have n2_ := Zs0.mk (bkB (g := gb101) (o := .cells #[.slice A0_0 l0_0.length c0_0, .int .i64 a0_1, .int .i64 a0_2, .int .i64 a0_3, .slice A0_4 l0_4.length c0_4] 29 (0, 0)) (by refine zE ?_; refine blk_far ?_ NB101_112.out _; refine zE ?_; refine blk_far ?_ NB101_112.out _; refine zE ?_; refine blk_far ?_ NB101_112.out _; refine zE ?_; refine blk_far ?_ NB101_112.out _; refine zE ?_; refine blk_far ?_ NB101_112.out _; refine zE ?_; exact BK101.out) hb); have n3_ := Zs0.mk (bkB (g := gb102) (o := .cells #[.slice none 0 0, .int .i64 0, .int .i64 0, .int .i64 0, .slice none 0 0] 29 (0, 0)) (by refine zE ?_; refine blk_far ?_ NB102_112.out _; refine zE ?_; refine blk_far ?_ NB102_112.out _; refine zE ?_; refine blk_far ?_ NB102_112.out _; refine zE ?_; refine blk_far ?_ NB102_112.out _; refine zE ?_; refine blk_far ?_ NB102_112.out _; refine zE ?_; exact BK102.out) hb); have n4_ := Zs0.mk (bkB (g := gb112) (o := .cells #[.slice Ao80 t103.length co80, .int .i64 t106, .int .i64 t107, .int .i64 t108, .slice Ao84 t109.length co84] 29 (0, 0)) (by refine zE ?_; refine blk_put (cs := #[.slice Ao80 t103.length co80, .int .i64 t106, .int .i64 t107, .int .i64 t108, .slice none 0 0]) ?_ 4 _ rfl; refine zE ?_; refine blk_put (cs := #[.slice Ao80 t103.length co80, .int .i64 t106, .int .i64 t107, .int .i64 0, .slice none 0 0]) ?_ 3 _ rfl; refine zE ?_; refine blk_put (cs := #[.slice Ao80 t103.length co80, .int .i64 t106, .int .i64 0, .int .i64 0, .slice none 0 0]) ?_ 2 _ rfl; refine zE ?_; refine blk_put (cs := #[.slice Ao80 t103.length co80, .int .i64 0, .int .i64 0, .int .i64 0, .slice none 0 0]) ?_ 1 _ rfl; refine zE ?_; refine blk_put (cs := #[.slice none 0 0, .int .i64 0, .int .i64 0, .int .i64 0, .slice none 0 0]) ?_ 0 _ rfl; refine zE ?_; exact BK112.out) hb); have n5_ := Zs0.mk (blT zB hb); revert n0_ n1_ n2_ n3_ n4_ n5_; clear HO105 HO111 BK101 BK102 BK112 HB; intro HO105 HO111 BK101 BK102 BK112 HB; (try clear hb); (try clear hb2); (try clear hk); (try clear hi); obtain ⟨hcz87_0, hcz87_1, hcz87_2, hcz87_3, hcz87_4, hfz87_0, hfz87_1, hfz87_2, hfz87_3, hfz87_4⟩ := bx5 BK112.out; obtain ⟨hcz88_0, hcz88_1, hcz88_2, hcz88_3, hcz88_4, hfz88_0, hfz88_1, hfz88_2, hfz88_3, hfz88_4⟩ := bx5 BK102.out))
  refine bodyPost_ret (results_cell_row rfl _ _ gb102 29 #[.slice Ao80 t103.length co80, .int .i64 t106, .int .i64 t107, .int .i64 t108, .slice Ao84 t109.length co84] (0, 0) _ rfl (by refine zE ?_; refine blk_put (cs := #[.slice Ao80 t103.length co80, .int .i64 t106, .int .i64 t107, .int .i64 t108, .slice none 0 0]) ?_ 4 _ rfl; refine zE ?_; refine blk_put (cs := #[.slice Ao80 t103.length co80, .int .i64 t106, .int .i64 t107, .int .i64 0, .slice none 0 0]) ?_ 3 _ rfl; refine zE ?_; refine blk_put (cs := #[.slice Ao80 t103.length co80, .int .i64 t106, .int .i64 0, .int .i64 0, .slice none 0 0]) ?_ 2 _ rfl; refine zE ?_; refine blk_put (cs := #[.slice Ao80 t103.length co80, .int .i64 0, .int .i64 0, .int .i64 0, .slice none 0 0]) ?_ 1 _ rfl; refine zE ?_; refine blk_put (cs := #[.slice none 0 0, .int .i64 0, .int .i64 0, .int .i64 0, .slice none 0 0]) ?_ 0 _ rfl; refine zE ?_; exact BK102.out) Try.underlying29 rfl (by kernel_rfl)) rfl ?_
  exact ⟨_, _, zr, by (with_reducible repeat (first | apply Kd.rA1 | apply Kd.rD1 | apply Kd.rD2)); exact Kd.R_mono (Kd.R_far (p := ⟨gb102, 4, none⟩) (Kd.R_far (p := ⟨gb102, 3, none⟩) (Kd.R_far (p := ⟨gb102, 2, none⟩) (Kd.R_far (p := ⟨gb102, 1, none⟩) (Kd.R_far (p := ⟨gb102, 0, none⟩) (Kd.R_types HO105.out BK102.out (by decide)) (fun _ hk => hk.2) (.slice Ao80 t103.length co80)) (fun _ hk => hk.2) (.int .i64 t106)) (fun _ hk => hk.2) (.int .i64 t107)) (fun _ hk => hk.2) (.int .i64 t108)) (fun _ hk => hk.2) (.slice Ao84 t109.length co84)) (fun _ hk => hk.1.1), by (with_reducible repeat (first | apply Kd.N_alloc | apply Kd.N_drewN | apply Kd.N_drew)); exact Kd.N_mono (Kd.N_far (p := ⟨gb102, 4, none⟩) (Kd.N_far (p := ⟨gb102, 3, none⟩) (Kd.N_far (p := ⟨gb102, 2, none⟩) (Kd.N_far (p := ⟨gb102, 1, none⟩) (Kd.N_far (p := ⟨gb102, 0, none⟩) (Kd.N_mono HO111.out (fun k_ hk => (⟨hk, hk.1.2.2.2⟩ : _ ∧ k_ ≠ gb102))) (fun _ hk => hk.2) (.slice Ao80 t103.length co80)) (fun _ hk => hk.2) (.int .i64 t106)) (fun _ hk => hk.2) (.int .i64 t107)) (fun _ hk => hk.2) (.int .i64 t108)) (fun _ hk => hk.2) (.slice Ao84 t109.length co84)) (fun _ hk => ⟨hk.1.1.1, hk.1.1.2.1⟩), zB⟩

end Go.Proofs.Ytcbpbnkoolpibaa.P
