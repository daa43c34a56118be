/- Printed by a program over this seat's translation: a Lean function for each Go function, and that the Go code comes to its answers. -/
import Derived.Test.YtcbpbnkoolpibaaMTrim0a
import Derived.Test.YtcbpbnkoolpibaaMTrim1a
import Derived.Test.YtcbpbnkoolpibaaMTrim0b
namespace Go.Proofs.Ytcbpbnkoolpibaa.P
open Go.RowKit Go.Proofs.YtcbpbnkoolpibaaW.PrintWords Go.Proofs.YtcbpbnkoolpibaaW.PrintLast Go.Proofs.YtcbpbnkoolpibaaW.PrintMore
attribute [local go_sem] max2_int min2_int max_two min_two max_three min_three max_four min_four   -- for this text's walks alone
set_option linter.unusedVariables false
set_option linter.unusedSimpArgs false

/-! ### spec_Blocks: function 21 -/
mutual
def spec_Blocks.l0 : Nat → List Int → List Int → List Int → List Int → Int → Int → Int → List (S47) → Option (List Int)
  | 0, _, _, _, _, _, _, _, _ => none
  | k + 1, x3, x4, x5, x102000, x102001, x102002, x102003, x102004 => if (x5.length : Int) > 0 then (if 0 < (x5.length : Int) then (if 0 ≤ (rd x5 0) then (if (rd x5 0) < (x102004.length : Int) then ((spec_l05Next.f ((rd_T47 x102004 (rd x5 0)).f0) ((rd_T47 x102004 (rd x5 0)).f1) ((rd_T47 x102004 (rd x5 0)).f2) ((rd_T47 x102004 (rd x5 0)).f3) ((rd_T47 x102004 (rd x5 0)).f4)).bind fun t115 => (if 1 ≤ (x5.length : Int) then (spec_Blocks.l1 k x3 x4 (x5.drop (1 : Int).toNat) t115 0 x102000 x102001 x102002 x102003 x102004) else (none))) else (none)) else (none)) else (none)) else (spec_Blocks.l2 k x3 x4 0)
def spec_Blocks.l1 : Nat → List Int → List Int → List Int → List Int → Int → List Int → Int → Int → Int → List (S47) → Option (List Int)
  | 0, _, _, _, _, _, _, _, _, _, _ => none
  | k + 1, x3, x4, x5, x6, x7, x102000, x102001, x102002, x102003, x102004 => if x7 < (x6.length : Int) then (if 0 ≤ x7 then (if 0 ≤ (rd x6 x7) then (if (rd x6 x7) < (x4.length : Int) then (if (rd x4 (rd x6 x7)) = 0 then (if x5.length < 17592186044416 then (spec_Blocks.l1 k x3 (x4.set ((rd x6 x7) : Int).toNat 1) (x5 ++ [rd x6 x7]) x6 (wrap64 (x7 + 1)) x102000 x102001 x102002 x102003 x102004) else (none)) else (spec_Blocks.l1 k x3 x4 x5 x6 (wrap64 (x7 + 1)) x102000 x102001 x102002 x102003 x102004)) else (none)) else (none)) else (none)) else (spec_Blocks.l0 k x3 x4 x5 x102000 x102001 x102002 x102003 x102004)
def spec_Blocks.l2 : Nat → List Int → List Int → Int → Option (List Int)
  | 0, _, _, _ => none
  | k + 1, x3, x4, x8 => if x8 < (x4.length : Int) then (if 0 ≤ x8 then (if (rd x4 x8) = 1 then (if x3.length < 17592186044416 then (spec_Blocks.l2 k (x3 ++ [x8]) x4 (wrap64 (x8 + 1))) else (none)) else (spec_Blocks.l2 k x3 x4 (wrap64 (x8 + 1)))) else (none)) else (some x3)
end
def spec_Blocks.f (k : Nat) (l0_0 : List Int) (a0_1 : Int) (a0_2 : Int) (a0_3 : Int) (l0_4 : List (S47)) : Option (List Int) := (some (([] : List Int) : List Int)).bind fun y102 => ((spec_GraphOk.f k l0_0 a0_1 a0_2 a0_3 l0_4).bind fun t105 => (if t105 = true then ((spec_l03Zeros.f k (l0_4.length : Int)).bind fun t106 => (if 0 < (t106.length : Int) then (spec_Blocks.l0 k y102 (t106.set (0 : Int).toNat 1) (([0] : List Int)) l0_0 a0_1 a0_2 a0_3 l0_4) else (none))) else (some y102)))
theorem spec_Blocks.mono_l : ∀ k, (∀ y0 y1 y2 y3 y4 y5 y6 y7, LeO (spec_Blocks.l0 k y0 y1 y2 y3 y4 y5 y6 y7) (spec_Blocks.l0 (k + 1) y0 y1 y2 y3 y4 y5 y6 y7)) ∧ (∀ y0 y1 y2 y3 y4 y5 y6 y7 y8 y9, LeO (spec_Blocks.l1 k y0 y1 y2 y3 y4 y5 y6 y7 y8 y9) (spec_Blocks.l1 (k + 1) y0 y1 y2 y3 y4 y5 y6 y7 y8 y9)) ∧ (∀ y0 y1 y2, LeO (spec_Blocks.l2 k y0 y1 y2) (spec_Blocks.l2 (k + 1) y0 y1 y2))
  | 0 => ⟨fun _ _ _ _ _ _ _ _ r h => by simp [spec_Blocks.l0] at h, fun _ _ _ _ _ _ _ _ _ _ r h => by simp [spec_Blocks.l1] at h, fun _ _ _ r h => by simp [spec_Blocks.l2] at h⟩
  | k + 1 => by
    obtain ⟨ih0, ih1, ih2⟩ := spec_Blocks.mono_l k
    refine ⟨?_, ?_, ?_⟩
    · intro y0 y1 y2 y3 y4 y5 y6 y7
      unfold spec_Blocks.l0
      repeat' first
      | (with_reducible exact ih0 _ _ _ _ _ _ _ _)
      | (with_reducible exact ih1 _ _ _ _ _ _ _ _ _ _)
      | (with_reducible exact ih2 _ _ _)
      | (with_reducible exact spec_GraphOk.mono _ _ _ _ _ _)
      | (with_reducible exact spec_l03Zeros.mono _ _)
      | (with_reducible exact LeO.refl _)
      | (with_reducible exact LeO.none _)
      | (with_reducible refine LeO.ite ?_ ?_)
      | (with_reducible refine LeO.bind ?_ (fun _ => ?_))
      | exact ih0 _ _ _ _ _ _ _ _
      | exact ih1 _ _ _ _ _ _ _ _ _ _
      | exact ih2 _ _ _
      | exact spec_GraphOk.mono _ _ _ _ _ _
      | exact spec_l03Zeros.mono _ _
      | exact LeO.none _
      | refine LeO.ite ?_ ?_
      | refine LeO.bind ?_ (fun _ => ?_)
    · intro y0 y1 y2 y3 y4 y5 y6 y7 y8 y9
      unfold spec_Blocks.l1
      repeat' first
      | (with_reducible exact ih0 _ _ _ _ _ _ _ _)
      | (with_reducible exact ih1 _ _ _ _ _ _ _ _ _ _)
      | (with_reducible exact ih2 _ _ _)
      | (with_reducible exact spec_GraphOk.mono _ _ _ _ _ _)
      | (with_reducible exact spec_l03Zeros.mono _ _)
      | (with_reducible exact LeO.refl _)
      | (with_reducible exact LeO.none _)
      | (with_reducible refine LeO.ite ?_ ?_)
      | (with_reducible refine LeO.bind ?_ (fun _ => ?_))
      | exact ih0 _ _ _ _ _ _ _ _
      | exact ih1 _ _ _ _ _ _ _ _ _ _
      | exact ih2 _ _ _
      | exact spec_GraphOk.mono _ _ _ _ _ _
      | exact spec_l03Zeros.mono _ _
      | exact LeO.none _
      | refine LeO.ite ?_ ?_
      | refine LeO.bind ?_ (fun _ => ?_)
    · intro y0 y1 y2
      unfold spec_Blocks.l2
      repeat' first
      | (with_reducible exact ih0 _ _ _ _ _ _ _ _)
      | (with_reducible exact ih1 _ _ _ _ _ _ _ _ _ _)
      | (with_reducible exact ih2 _ _ _)
      | (with_reducible exact spec_GraphOk.mono _ _ _ _ _ _)
      | (with_reducible exact spec_l03Zeros.mono _ _)
      | (with_reducible exact LeO.refl _)
      | (with_reducible exact LeO.none _)
      | (with_reducible refine LeO.ite ?_ ?_)
      | (with_reducible refine LeO.bind ?_ (fun _ => ?_))
      | exact ih0 _ _ _ _ _ _ _ _
      | exact ih1 _ _ _ _ _ _ _ _ _ _
      | exact ih2 _ _ _
      | exact spec_GraphOk.mono _ _ _ _ _ _
      | exact spec_l03Zeros.mono _ _
      | exact LeO.none _
      | refine LeO.ite ?_ ?_
      | refine LeO.bind ?_ (fun _ => ?_)
theorem spec_Blocks.mono : ∀ a0 a1 a2 a3 a4 k, LeO (spec_Blocks.f k a0 a1 a2 a3 a4) (spec_Blocks.f (k + 1) a0 a1 a2 a3 a4) := by
  intro a0 a1 a2 a3 a4 k
  obtain ⟨ih0, ih1, ih2⟩ := spec_Blocks.mono_l k
  unfold spec_Blocks.f
  repeat' first
      | (with_reducible exact ih0 _ _ _ _ _ _ _ _)
      | (with_reducible exact ih1 _ _ _ _ _ _ _ _ _ _)
      | (with_reducible exact ih2 _ _ _)
      | (with_reducible exact spec_GraphOk.mono _ _ _ _ _ _)
      | (with_reducible exact spec_l03Zeros.mono _ _)
      | (with_reducible exact LeO.refl _)
      | (with_reducible exact LeO.none _)
      | (with_reducible refine LeO.ite ?_ ?_)
      | (with_reducible refine LeO.bind ?_ (fun _ => ?_))
      | exact ih0 _ _ _ _ _ _ _ _
      | exact ih1 _ _ _ _ _ _ _ _ _ _
      | exact ih2 _ _ _
      | exact spec_GraphOk.mono _ _ _ _ _ _
      | exact spec_l03Zeros.mono _ _
      | exact LeO.none _
      | refine LeO.ite ?_ ?_
      | refine LeO.bind ?_ (fun _ => ?_)
def spec_Blocks.T8 : Bool × List (List Nat × List Nat) := (true, [([], []), ([0], [0]), ([], []), ([2], [2]), ([3], [3]), ([1, 4], [1, 4]), ([5], [5]), ([6], [6]), ([7, 7, 0, 1, 2, 3, 4, 5, 6, 7], [7])])
def spec_Blocks.B8 : List Nat := [0, 1, 0, 4, 12, 31, 63, 127, 255]
theorem spec_Blocks.tab8 : rtab .any (opsOf Try.f21 8) = spec_Blocks.T8 := by kernel_rfl
theorem spec_Blocks.bits8 : waitsOk spec_Blocks.T8.2 spec_Blocks.B8 = true := by kernel_rfl
set_option maxHeartbeats 8000000 in
set_option maxRecDepth 100000 in
theorem spec_Blocks.calls (k : Nat) (A0_0 : Option Addr) (c0_0 : Nat) (l0_0 : List Int) (a0_1 : Int) (a0_2 : Int) (a0_3 : Int) (A0_4 : Option Addr) (c0_4 : Nat) (l0_4 : List (S47)) (r : List Int) (w : World) (hr0_0 : Kd.C (Kd.int .i64) w A0_0 l0_0.length l0_0) (hc0_0 : l0_0.length ≤ c0_0) (hr0_4 : Kd.C k47 w A0_4 l0_4.length l0_4) (hc0_4 : l0_4.length ≤ c0_4) (h : spec_Blocks.f k l0_0 a0_1 a0_2 a0_3 l0_4 = some r) :
  Calls Try.prog 21 #[.agg #[.slice A0_0 l0_0.length c0_0, .int .i64 a0_1, .int .i64 a0_2, .int .i64 a0_3, .slice A0_4 l0_4.length c0_4]] w fun e w' => ∃ v0_ : Value, e = .returned (v0_) ∧ Kd.R (Kd.int .i64) 3 w' w.heap.size (fun _ => True) v0_ r ∧ Below w.heap.size w w' := by
 have hu29 := Try.underlying29
 have hu47 := Try.underlying47
 have HR0_0 := Zs0.mk hr0_0
 have HC0_0 := Zs0.mk hc0_0
 clear hr0_0 hc0_0
 have HR0_4 := Zs0.mk hr0_4
 have HC0_4 := Zs0.mk hc0_4
 clear hr0_4 hc0_4
 have HB := Zs0.mk (Below.refl w.heap.size w)
 have H : ((some (([] : List Int) : List Int)).bind fun y102 => ((spec_GraphOk.f k l0_0 a0_1 a0_2 a0_3 l0_4).bind fun t105 => (if t105 = true then ((spec_l03Zeros.f k (l0_4.length : Int)).bind fun t106 => (if 0 < (t106.length : Int) then (spec_Blocks.l0 k y102 (t106.set (0 : Int).toNat 1) (([0] : List Int)) l0_0 a0_1 a0_2 a0_3 l0_4) else (none))) else (some y102)))) = some r := h
 clear h
 obtain ⟨y102, hy102⟩ : ∃ y_ : List Int, y_ = (([] : List Int)) := ⟨_, rfl⟩
 replace H : ((spec_GraphOk.f k l0_0 a0_1 a0_2 a0_3 l0_4).bind fun t105 => (if t105 = true then ((spec_l03Zeros.f k (l0_4.length : Int)).bind fun t106 => (if 0 < (t106.length : Int) then (spec_Blocks.l0 k y102 (t106.set (0 : Int).toNat 1) (([0] : List Int)) l0_0 a0_1 a0_2 a0_3 l0_4) else (none))) else (some y102))) = some r := by first | (rw [hy102]; with_reducible exact H) | (have H2_ := (Option.bind_some _ _).symm.trans H; rw [hy102]; with_reducible exact H2_) | (have H2_ := (Option.bind_some _ _).symm.trans H; with_reducible exact H2_) | with_reducible exact H | (rw [hy102]; exact H) | exact H
 have Ny102 := Zs0.mk hy102
 clear hy102
 replace H := Option.bind_eq_some_iff.mp H
 obtain ⟨t105, A20, H⟩ := H
 replace H : (if t105 = true then ((spec_l03Zeros.f k (l0_4.length : Int)).bind fun t106 => (if 0 < (t106.length : Int) then (spec_Blocks.l0 k y102 (t106.set (0 : Int).toNat 1) (([0] : List Int)) l0_0 a0_1 a0_2 a0_3 l0_4) else (none))) else (some y102)) = some r := H
 have A2 := Zs0.mk A20
 clear A20
 by_cases c3 : t105 = true
 ·subst c3
  have H1 : ((spec_l03Zeros.f k (l0_4.length : Int)).bind fun t106 => (if 0 < (t106.length : Int) then (spec_Blocks.l0 k y102 (t106.set (0 : Int).toNat 1) (([0] : List Int)) l0_0 a0_1 a0_2 a0_3 l0_4) else (none))) = some r := by rw [if_pos rfl] at H; exact H
  clear H
  have H := H1
  clear H1
  replace H := Option.bind_eq_some_iff.mp H
  obtain ⟨t106, A40, H⟩ := H
  replace H : (if 0 < (t106.length : Int) then (spec_Blocks.l0 k y102 (t106.set (0 : Int).toNat 1) (([0] : List Int)) l0_0 a0_1 a0_2 a0_3 l0_4) else (none)) = some r := H
  have A4 := Zs0.mk A40
  clear A40
  have c5 := ipos H
  rw [if_pos c5] at H
  have c5b0 := decide_eq_true c5
  have c5b1 : decide (0 < t106.length) = true := decide_eq_true (by omega)
  clear c5
  obtain ⟨y109, hy109⟩ : ∃ y_ : List Int, y_ = (t106.set (0 : Int).toNat 1) := ⟨_, rfl⟩
  replace H : (spec_Blocks.l0 k y102 y109 (([0] : List Int)) l0_0 a0_1 a0_2 a0_3 l0_4) = some r := by first | (rw [hy109]; with_reducible exact H) | (have H2_ := (Option.bind_some _ _).symm.trans H; rw [hy109]; with_reducible exact H2_) | (have H2_ := (Option.bind_some _ _).symm.trans H; with_reducible exact H2_) | with_reducible exact H | (rw [hy109]; exact H) | exact H
  have Ny109 := Zs0.mk hy109
  clear hy109
  obtain ⟨y110, hy110⟩ : ∃ y_ : List Int, y_ = (([0] : List Int)) := ⟨_, rfl⟩
  replace H : (spec_Blocks.l0 k y102 y109 y110 l0_0 a0_1 a0_2 a0_3 l0_4) = some r := by first | (rw [hy110]; with_reducible exact H) | (have H2_ := (Option.bind_some _ _).symm.trans H; rw [hy110]; with_reducible exact H2_) | (have H2_ := (Option.bind_some _ _).symm.trans H; with_reducible exact H2_) | with_reducible exact H | (rw [hy110]; exact H) | exact H
  have Ny110 := Zs0.mk hy110
  clear hy110
  have H' := Zs0.mk H
  clear H
  go_enter Try.func21, Try.ntmps21
  go_wp2_with (first | ((with_reducible refine gtD (N := 1) rfl ?_); refine bxE ?hg (N := 1) ?hd (cs := #[.slice A0_0 l0_0.length c0_0, .int .i64 a0_1, .int .i64 a0_2, .int .i64 a0_3, .slice A0_4 l0_4.length c0_4]) (t := 29) ?hr ?_; (case hd => rfl); (case hg => rfl); (case hr => first | (go_simp; done) | (go_simp; rfl)); intro gb101 hg w7 hbox hb; have n0_ := Zs0.mk (blT zB hb); have n1_ := Zs0.mk (hbox); have n2_ := Zs0.mk (zs hg : w.heap.size ≤ gb101); have n3_ := Zs0.mk (zs hg : w.heap.size ≤ gb101); revert n0_ n1_ n2_ n3_; clear HB; intro HB BK101 GW101 GE101; clear hb hbox hg) | ((with_reducible refine gtD (N := 9) rfl ?_); refine Kd.R_lit (Kd.int .i64) _ 3 ?hg (N := 9) ?hd (xs := ([] : List Int)) (inner := []) (ok := fun _ => True) (okp := fun _ => True) ?hr ?hp (fun _ hk => hk) trivial (Below.refl _ _) (Nat.le_refl _) (by simp) ?_; (case hd => rfl); (case hg => rfl); (case hr => first | (go_simp; done) | (go_simp; rfl)); (case hp => exact (Reps.none _ _)); intro v103 w8 ho9 hb hg_ hnew_; clear hg_ hnew_; (first | rw [← Ny102.out] at ho9 | (simp only [Int.reduceToNat] at ho9; rw [← Ny102.out] at ho9)); have n0_ := Zs0.mk (Kd.R_lower ho9 (blZ zB)); have n1_ := Zs0.mk (bkB (zG BK101.out) hb); have n2_ := Zs0.mk (blT zB hb); revert n0_ n1_ n2_; clear BK101 HB; intro HO104 BK101 HB; clear hb ho9; obtain ⟨hcz10_0, hcz10_1, hcz10_2, hcz10_3, hcz10_4, hfz10_0, hfz10_1, hfz10_2, hfz10_3, hfz10_4⟩ := bx5 BK101.out) | ((with_reducible refine gtC (f := 29) rfl ?_); refine goesL_ (some 11) rfl rfl Try.func29 (by kernel_rfl) rfl #[.agg #[.slice A0_0 l0_0.length c0_0, .int .i64 a0_1, .int .i64 a0_2, .int .i64 a0_3, .slice A0_4 l0_4.length c0_4]] rfl zM ?_; (with_reducible refine (spec_GraphOk.calls k _ _ l0_0 a0_1 a0_2 a0_3 _ _ l0_4 true _ ?side1 ?side2 ?side3 ?side4 A2.out).mono ?_); (case side1 => exact zC HR0_0.out); (case side2 => exact HC0_0.out); (case side3 => exact zC HR0_4.out); (case side4 => exact HC0_4.out); rintro e w11 ⟨rfl, hb⟩; refine ⟨_, rfl, ?_⟩; have n0_ := Zs0.mk (Kd.R_below (zR HO104.out) hb); have n1_ := Zs0.mk (bkB (zG BK101.out) hb); have n2_ := Zs0.mk (blT zB hb); revert n0_ n1_ n2_; clear HO104 BK101 HB; intro HO104 BK101 HB; (try clear hb); (try clear hb2); (try clear hk); (try clear hi); obtain ⟨hcz12_0, hcz12_1, hcz12_2, hcz12_3, hcz12_4, hfz12_0, hfz12_1, hfz12_2, hfz12_3, hfz12_4⟩ := bx5 BK101.out) | ((with_reducible refine gtC (f := 30) rfl ?_); refine goesL_ (some 17) rfl rfl Try.func30 (by kernel_rfl) rfl #[.int .i64 (l0_4.length : Int)] rfl zM ?_; (with_reducible refine (spec_l03Zeros.calls k (l0_4.length : Int) t106 _ A4.out).mono ?_); rintro e w13 ⟨v107, rfl, ho0, hb⟩; refine ⟨_, rfl, ?_⟩; have n0_ := Zs0.mk (Kd.R_elder' (zR HO104.out) (Kd.R_base ho0) hb); have n1_ := Zs0.mk (Kd.R_lower (Kd.R_new' ho0 (Kd.R_lt (zR HO104.out))) (blZ zB)); have n2_ := Zs0.mk (bkB (zG BK101.out) hb); have n3_ := Zs0.mk (blT zB hb); revert n0_ n1_ n2_ n3_; clear HO104 BK101 HB; intro HO104 HO108 BK101 HB; (try clear hb); (try clear hb2); (try clear hk); (try clear hi); (try clear ho0); have p6 : 0 ≤ (0 : Int) := (by omega); have q6 : (0 : Int) < ((t106.length : Int) : Int) := zD; have qi6 : (0 < t106.length) = True := eq_true (by omega); obtain ⟨go6, co6, eo6, gb6, gl6, cl6, HG6⟩ := Kd.R_form HO108.out (by omega); (first | cases eo6 | (injection eo6 with ea_ en_ ec_; (first | subst ea_ | (injection ea_ with ea_; subst ea_)); subst ec_; clear en_)); have GB6 := Zs0.mk gb6; have GG6 := Zs0.mk HG6; clear gb6 gl6 HG6; obtain ⟨hx6_0, hf6_0⟩ := Kd.R_celln 0 HO108.out (0 : Int) p6 q6; (try rw [show ((0 : Int)).toNat = 0 from rfl] at hx6_0); (try simp only [Nat.reduceMul, Nat.zero_mul, Nat.zero_add, Nat.reduceAdd] at hx6_0); (try rw [show ((0 : Int)).toNat = 0 from rfl] at hf6_0); (try simp only [Nat.reduceMul, Nat.zero_mul, Nat.zero_add, Nat.reduceAdd] at hf6_0); replace p6 := eq_true p6; replace q6 := eq_true q6; have n_ := Zs0.mk (Kd.R_mono (ok' := (fun k_ => some k_ ≠ (v103 : Value).ownBlock)) HO108.out (fun k_ hk => hk.2)); clear HO108; have HO108 := n_; clear n_; obtain ⟨hy14_, hz14_⟩ := Kd.R_celln 0 HO108.out (0 : Int) (by omega) zD; (try simp only [Int.reduceToNat, Int.toNat_zero, Int.toNat_ofNat, Nat.reduceMul, Nat.zero_mul, Nat.zero_add] at hy14_ hz14_); (try rw [show ((0 : Int)).toNat = 0 from rfl] at hy14_); (try rw [show ((0 : Int)).toNat = 0 from rfl] at hz14_); have HP14 := Kd.R_putg HO108.out (0 : Int) 1) | ((with_reducible refine gate_store (t := 3) (p := 19) rfl ?_); refine store_event (t := 3) (p := 19) (v := ?vo_w15) (w1 := (w13.setCell ⟨go6, (0 : Int).toNat, none⟩ (.int .i64 1))) ?hg ?ho ?hn ?hr ?_; (case ho => rfl); (case hg => rfl); (case hn => rfl); (case hr => first | (go_simp; done) | (go_simp; rfl)); intro w15 hw; have hg : w13.grownBy w15 (some go6) := (by rw [hw]; exact HP14.2); have hp_ : Kd.R (Kd.int .i64) 3 w15 w.heap.size (fun k_ => some k_ ≠ (v103 : Value).ownBlock) (.slice (some ⟨go6, 0, none⟩) t106.length co6) y109 := (by rw [hw, Ny109.out]; exact HP14.1); clear HP14; have n0_ := Zs0.mk (blk_grown (zG BK101.out) hg (Kd.R_ne HO108.out BK101.out (by decide))); have n1_ := Zs0.mk (Kd.R_after (v := (.slice (some ⟨go6, 0, none⟩) t106.length co6)) (v1 := (.slice (some ⟨go6, 0, none⟩) t106.length co6)) (ok := (fun _ => True)) (zR HO104.out) hg (.inl rfl)); have n2_ := Zs0.mk (hp_); have n3_ := Zs0.mk ((by rw [hw]; exact blS (HB.out) GB6.out : Below w.heap.size w w15)); revert n0_ n1_ n2_ n3_; clear BK101 HO104 HO108 HB; intro BK101 HO104 HO108 HB; clear hg hw hp_) | ((with_reducible refine gtD (N := 20) rfl ?_); refine Kd.R_lit (Kd.int .i64) _ 3 ?hg (N := 20) ?hd (xs := ([0] : List Int)) (inner := [.int .i64 0]) (ok := fun _ => True) (okp := fun _ => True) ?hr ?hp (fun _ hk => hk) trivial (Below.refl _ _) (Nat.le_refl _) (by simp) ?_; (case hd => rfl); (case hg => rfl); (case hr => first | (go_simp; done) | (go_simp; rfl)); (case hp => exact (Reps.one (show Kd.M (Kd.int .i64) _ _ _ 0 [.int .i64 0] from rfl) (Reps.none _ _))); intro v111 w16 ho17 hb hg_ hnew_; clear hg_ hnew_; (first | rw [← Ny110.out] at ho17 | (simp only [Int.reduceToNat] at ho17; rw [← Ny110.out] at ho17)); have n0_ := Zs0.mk (Kd.R_elder' (zR HO104.out) (Kd.R_base ho17) hb); have n1_ := Zs0.mk (Kd.R_elder' (zR HO108.out) (Kd.R_base ho17) hb); have n2_ := Zs0.mk (Kd.R_lower (Kd.R_new' (Kd.R_new' ho17 (Kd.R_lt (zR HO104.out))) (Kd.R_lt (zR HO108.out))) (blZ zB)); have n3_ := Zs0.mk (bkB (zG BK101.out) hb); have n4_ := Zs0.mk (blT zB hb); revert n0_ n1_ n2_ n3_ n4_; clear HO104 HO108 BK101 HB; intro HO104 HO108 HO112 BK101 HB; clear hb ho17))
  go_loopg [5] k (fun kq v5 w' => ∃ (x4_1 : List Int) (x5_1 : List Int), Zs0 (spec_Blocks.l0 kq y102 x4_1 x5_1 l0_0 a0_1 a0_2 a0_3 l0_4 = some r) ∧ Zs0 (kq ≤ k) ∧ Zs0 (Kd.R (Kd.int .i64) 3 w' w.heap.size (fun k_ => some k_ ≠ ((.slice (some ⟨go6, 0, none⟩) t106.length co6) : Value).ownBlock ∧ some k_ ≠ (v5 : Value).ownBlock) v103 y102) ∧ Zs0 (Kd.R (Kd.int .i64) 3 w' w.heap.size (fun k_ => some k_ ≠ (v103 : Value).ownBlock ∧ some k_ ≠ (v5 : Value).ownBlock) (.slice (some ⟨go6, 0, none⟩) t106.length co6) x4_1) ∧ Zs0 (Kd.Q (Kd.int .i64) 3 w' w.heap.size (fun k_ => some k_ ≠ (v103 : Value).ownBlock ∧ some k_ ≠ ((.slice (some ⟨go6, 0, none⟩) t106.length co6) : Value).ownBlock) v5 x5_1) ∧ Zs0 (w'.heap[gb101]? = some (.cells #[(.slice A0_0 l0_0.length c0_0), .int .i64 a0_1, .int .i64 a0_2, .int .i64 a0_3, (.slice A0_4 l0_4.length c0_4)] 29 (0, 0))) ∧ Zs0 (Below w.heap.size w w'))
  case atStart => exact ⟨(y109), (y110), H', ⟨Nat.le_refl _⟩, ⟨by (with_reducible repeat (first | apply Kd.rA1 | apply Kd.rD1 | apply Kd.rD2)); exact Kd.R_mono HO104.out (fun _ hk => ⟨hk.1.2, hk.2⟩)⟩, ⟨zR HO108.out⟩, ⟨Kd.Q_of_R (by (with_reducible repeat (first | apply Kd.rA1 | apply Kd.rD1 | apply Kd.rD2)); exact Kd.R_mono HO112.out (fun _ hk => ⟨hk.1.2, hk.2⟩))⟩, ⟨zG BK101.out⟩, ⟨zB⟩⟩
  case round =>
   clear H'
   try clear c2
   try clear p2
   try clear c3
   try clear c5
   try clear c5b0
   try clear c5b1
   try clear p6
   try clear q6
   try clear hx6
   try clear qi6
   try clear hf6
   try clear hcz10_0 hcz10_1 hcz10_2 hcz10_3 hcz10_4
   try clear hcz12_0 hcz12_1 hcz12_2 hcz12_3 hcz12_4
   try clear hfz10_0 hfz10_1 hfz10_2 hfz10_3 hfz10_4
   try clear hfz12_0 hfz12_1 hfz12_2 hfz12_3 hfz12_4
   try clear hx6_0
   try clear p6
   try clear q6
   obtain ⟨x4_1, x5_1, HA, HK1, HO_3, HO_4, HO_5, BK101, HB⟩ := hrel
   have hl4_1 := (Kd.R_reads' HO_4.out).1
   rw [hl4_1] at HO_4
   (try simp only [hl4_1])
   (try simp only [hl4_1] at BK101)
   (try simp only [hl4_1] at HO_3)
   (try simp only [hl4_1] at HO_5)
   cases gk with
   | zero => exact absurd HA.out (by simp [spec_Blocks.l0])
   | succ k1 =>
    have H := HA.out
    clear HA
    simp only [spec_Blocks.l0] at H
    by_cases c18 : (x5_1.length : Int) > 0
    ·rw [if_pos c18] at H
     have c18b0 : decide (0 < (x5_1.length : Int)) = true := decide_eq_true c18
     have c18b1 : decide (0 < x5_1.length) = true := decide_eq_true (by omega)
     clear c18
     have c19 := ipos H
     rw [if_pos c19] at H
     have c19b0 := decide_eq_true c19
     have c19b1 : decide (0 < x5_1.length) = true := decide_eq_true (by omega)
     clear c19
     have c20 := ipos H
     rw [if_pos c20] at H
     have c20b0 := decide_eq_true c20
     clear c20
     have c21 := ipos H
     rw [if_pos c21] at H
     have c21b0 := decide_eq_true c21
     clear c21
     replace H := Option.bind_eq_some_iff.mp H
     obtain ⟨t115, A220, H⟩ := H
     replace H : (if 1 ≤ (x5_1.length : Int) then (spec_Blocks.l1 k1 y102 x4_1 (x5_1.drop (1 : Int).toNat) t115 0 l0_0 a0_1 a0_2 a0_3 l0_4) else (none)) = some r := H
     have A22 := Zs0.mk A220
     clear A220
     have c23 := ipos H
     rw [if_pos c23] at H
     have c23b0 := eq_true c23
     have c23b1 := decide_eq_true c23
     clear c23
     obtain ⟨y118, hy118⟩ : ∃ y_ : List Int, y_ = (x5_1.drop (1 : Int).toNat) := ⟨_, rfl⟩
     replace H : (spec_Blocks.l1 k1 y102 x4_1 y118 t115 0 l0_0 a0_1 a0_2 a0_3 l0_4) = some r := by first | (rw [hy118]; with_reducible exact H) | (have H2_ := (Option.bind_some _ _).symm.trans H; rw [hy118]; with_reducible exact H2_) | (have H2_ := (Option.bind_some _ _).symm.trans H; with_reducible exact H2_) | with_reducible exact H | (rw [hy118]; exact H) | exact H
     have Ny118 := Zs0.mk hy118
     clear hy118
     have H' := Zs0.mk H
     clear H
     obtain ⟨Ao24, co24, eo24, _⟩ := Kd.Q_slice HO_5.out
     subst eo24
     try go_wp2
     have n0_ := Zs0.mk (Kd.rD2 HO_3.out)
     have n1_ := Zs0.mk (Kd.rD2 HO_4.out)
     have n2_ := Zs0.mk (Kd.Q_drew HO_5.out)
     have n3_ := Zs0.mk (bk1 BK101.out)
     have n4_ := Zs0.mk (bl1 HB.out)
     revert n0_ n1_ n2_ n3_ n4_; clear HO_3 HO_4 HO_5 BK101 HB; intro HO_3 HO_4 HO_5 BK101 HB
     have p113 : 0 ≤ (0 : Int) := (by omega)
     have q113 : 0 < (x5_1.length : Int) := zD
     obtain ⟨ad113, e113, hx113_0⟩ := Kd.at_int (Kd.Q_reads' HO_5.out).2.2 0 p113 q113
     cases e113
     have qi113 : (0 < x5_1.length) = True := eq_true (by omega)
     (try rw [show ((0 : Int)).toNat = 0 from rfl] at hx113_0)
     (try rw [Addr.add_zero'] at hx113_0)
     replace p113 := eq_true p113
     replace q113 := eq_true q113
     have p114 : 0 ≤ ((rd x5_1 0) : Int) := zD
     have q114 : (rd x5_1 0) < (l0_4.length : Int) := zD
     obtain ⟨ad114, A114_0, c114_0, e114, hx114_0, hx114_1, hx114_2, hx114_3, hx114_4, hl114_0, hi114_0⟩ := at_T47 HR0_4.out (rd x5_1 0) p114 q114
     have hw114_4 := hx114_4
     have hw114_3 := hx114_3
     have hw114_2 := hx114_2
     have hw114_1 := hx114_1
     have hw114_0 := hx114_0
     cases e114
     replace hx114_0 := zx HB.out hx114_0
     replace hx114_1 := zx HB.out hx114_1
     replace hx114_2 := zx HB.out hx114_2
     replace hx114_3 := zx HB.out hx114_3
     replace hx114_4 := zx HB.out hx114_4
     have HR114_0 := Zs0.mk hi114_0
     have HC114_0 := Zs0.mk hl114_0
     clear hi114_0 hl114_0
     replace p114 := eq_true p114
     replace q114 := eq_true q114
     refine start_ (n := 9) (S := fun w' => w'.cell? ⟨gb101, 0, none⟩ = some (.slice A0_0 l0_0.length c0_0) ∧ w'.cell? ⟨gb101, 1, none⟩ = some (.int .i64 a0_1) ∧ w'.cell? ⟨gb101, 2, none⟩ = some (.int .i64 a0_2) ∧ w'.cell? ⟨gb101, 3, none⟩ = some (.int .i64 a0_3) ∧ w'.cell? ⟨gb101, 4, none⟩ = some (.slice (some ad114) l0_4.length c0_4) ∧ w'.cell? ad113 = some (.int .i64 (rd x5_1 0)) ∧ w'.cell? (ad114.add (((rd x5_1 0)).toNat * 5)) = some (.slice A114_0 ((rd_T47 l0_4 (rd x5_1 0)).f0).length c114_0) ∧ w'.cell? ⟨(ad114.add (((rd x5_1 0)).toNat * 5)).block, (ad114.add (((rd x5_1 0)).toNat * 5)).off + 1, none⟩ = some (.int .i64 ((rd_T47 l0_4 (rd x5_1 0)).f1)) ∧ w'.cell? ⟨(ad114.add (((rd x5_1 0)).toNat * 5)).block, (ad114.add (((rd x5_1 0)).toNat * 5)).off + 2, none⟩ = some (.int .i64 ((rd_T47 l0_4 (rd x5_1 0)).f2)) ∧ w'.cell? ⟨(ad114.add (((rd x5_1 0)).toNat * 5)).block, (ad114.add (((rd x5_1 0)).toNat * 5)).off + 3, none⟩ = some (.int .i64 ((rd_T47 l0_4 (rd x5_1 0)).f3)) ∧ w'.cell? ⟨(ad114.add (((rd x5_1 0)).toNat * 5)).block, (ad114.add (((rd x5_1 0)).toNat * 5)).off + 4, none⟩ = some (.int .i64 ((rd_T47 l0_4 (rd x5_1 0)).f4))) (ds := []) #[false, false, false, false, false, false, false, false, false] (by kernel_rfl) rfl rfl ⟨(bkC BK101.out 0).trans rfl, (bkC BK101.out 1).trans rfl, (bkC BK101.out 2).trans rfl, (bkC BK101.out 3).trans rfl, (bkC BK101.out 4).trans rfl, hx113_0, (zx HB.out hw114_0), (zx HB.out hw114_1), (zx HB.out hw114_2), (zx HB.out hw114_3), (zx HB.out hw114_4)⟩ (fun hHeld => ?_); refine with_tabW spec_Blocks.tab8 spec_Blocks.bits8 (fun HT_ HW_ => ?_)
     generalize wr.drew = w25 at HO_3 HO_4 HO_5 BK101 HB HR114_0 hx113_0 hx114_0 hx114_1 hx114_2 hx114_3 hx114_4 hHeld ⊢
     refine pure_ (i := 0) (N := some 24) (v := ?_) (a' := ?_) #[true, false, false, false, false, false, false, false, false] rfl rfl (any_of HT_.out (by kernel_rfl)) (fun _ _ _ h => h) (Or.inl ⟨by rfl, ?_⟩) ?_ ?_
     rotate_left
     ·intro w'
      go_simp
      with_reducible rfl
     rotate_left
     ·exact zp
     refine pure_ (i := 2) (N := some 26) (v := ?_) (a' := ?_) #[true, false, true, false, false, false, false, false, false] rfl rfl (any_of HT_.out (by kernel_rfl)) (fun _ _ _ h => h) (Or.inl ⟨by rfl, ?_⟩) ?_ ?_
     rotate_left
     ·intro w'
      go_simp
      with_reducible rfl
     rotate_left
     ·exact zp
     refine pure_ (i := 3) (N := some 27) (v := ?_) (a' := ?_) #[true, false, true, true, false, false, false, false, false] rfl rfl (any_of HT_.out (by kernel_rfl)) (fun _ _ _ h => h) (Or.inl ⟨by rfl, ?_⟩) ?_ ?_
     rotate_left
     ·intro w'
      go_simp
      with_reducible rfl
     rotate_left
     ·exact zp
     refine take_ (i := 1) (N := some 25) (v := ?_) (a' := ?_) #[true, true, true, true, false, false, false, false, false] rfl rfl (take_ofW HT_.out HW_.out (by kernel_rfl)) (fun _ _ _ h => h) (Or.inl ⟨by rfl, ?_⟩) hHeld ?_ ?_
     rotate_left
     ·rintro w' ⟨s0, s1, s2, s3, s4, s5, s6, s7, s8, s9, s10⟩
      go_simp
      with_reducible rfl
     rotate_left
     ·exact zp
     refine take_ (i := 4) (N := some 28) (v := ?_) (a' := ?_) #[true, true, true, true, true, false, false, false, false] rfl rfl (take_ofW HT_.out HW_.out (by kernel_rfl)) (fun _ _ _ h => h) (Or.inl ⟨by rfl, ?_⟩) hHeld ?_ ?_
     rotate_left
     ·rintro w' ⟨s0, s1, s2, s3, s4, s5, s6, s7, s8, s9, s10⟩
      go_simp
      with_reducible rfl
     rotate_left
     ·exact zp
     refine pure_ (i := 5) (N := some 29) (v := ?_) (a' := ?_) #[true, true, true, true, true, true, false, false, false] rfl rfl (any_of HT_.out (by kernel_rfl)) (fun _ _ _ h => h) (Or.inl ⟨by rfl, ?_⟩) ?_ ?_
     rotate_left
     ·intro w'
      go_simp
      with_reducible rfl
     rotate_left
     ·exact zp
     refine take_ (i := 6) (N := some 30) (v := ?_) (a' := ?_) #[true, true, true, true, true, true, true, false, false] rfl rfl (take_ofW HT_.out HW_.out (by kernel_rfl)) (fun _ _ _ h => h) (Or.inl ⟨by rfl, ?_⟩) hHeld ?_ ?_
     rotate_left
     ·rintro w' ⟨s0, s1, s2, s3, s4, s5, s6, s7, s8, s9, s10⟩
      go_simp
      with_reducible rfl
     rotate_left
     ·exact zp
     refine one_ (i := 7) (N := some 31) #[true, true, true, true, true, true, true, true, false] rfl rfl (one_of HT_.out (by kernel_rfl)) (by decide) (fun K hK => ?_)
     refine goes_ Try.func48 (by kernel_rfl) rfl #[.agg #[.slice A114_0 ((rd_T47 l0_4 (rd x5_1 0)).f0).length c114_0, .int .i64 ((rd_T47 l0_4 (rd x5_1 0)).f1), .int .i64 ((rd_T47 l0_4 (rd x5_1 0)).f2), .int .i64 ((rd_T47 l0_4 (rd x5_1 0)).f3), .int .i64 ((rd_T47 l0_4 (rd x5_1 0)).f4)]] (by rfl) rfl rfl zM ?_
     with_reducible refine (spec_l05Next.calls _ _ ((rd_T47 l0_4 (rd x5_1 0)).f0) ((rd_T47 l0_4 (rd x5_1 0)).f1) ((rd_T47 l0_4 (rd x5_1 0)).f2) ((rd_T47 l0_4 (rd x5_1 0)).f3) ((rd_T47 l0_4 (rd x5_1 0)).f4) t115 _ ?side1 ?side2 A22.out).mono ?_
     (case side1 => exact zC HR114_0.out)
     (case side2 => exact HC114_0.out)
     rintro e w26 ⟨v116, rfl, ho0, hb⟩
     have HS5_ := (hb.cell (World.block_lt_of_cell? _ _ (hHeld.2.2.2.2.2.1))).trans (hHeld.2.2.2.2.2.1)
     refine ⟨_, rfl, ?_⟩
     have n0_ := Zs0.mk (Kd.R_elder' (zR HO_3.out) (Kd.R_base ho0) hb)
     have n1_ := Zs0.mk (Kd.R_elder' (zR HO_4.out) (Kd.R_base ho0) hb)
     have n2_ := Zs0.mk (Kd.Q_elder' (zQ HO_5.out) (Kd.R_base ho0) hb)
     have n3_ := Zs0.mk (Kd.R_lower (Kd.R_new' (Kd.R_new' (Kd.R_new' ho0 (Kd.R_lt (zR HO_3.out))) (Kd.R_lt (zR HO_4.out))) (Kd.Q_lt (zQ HO_5.out))) (blZ zB))
     have n4_ := Zs0.mk (bkB (zG BK101.out) hb)
     have n5_ := Zs0.mk (blT zB hb)
     revert n0_ n1_ n2_ n3_ n4_ n5_; clear HO_3 HO_4 HO_5 BK101 HB; intro HO_3 HO_4 HO_5 HO117 BK101 HB
     (try clear hb)
     (try clear hb2)
     (try clear hk)
     (try clear hi)
     (try clear ho0)
     refine hK.out _ _ ⟨(bkC BK101.out 0).trans rfl, (bkC BK101.out 1).trans rfl, (bkC BK101.out 2).trans rfl, (bkC BK101.out 3).trans rfl, (bkC BK101.out 4).trans rfl, HS5_, (zx HB.out hw114_0), (zx HB.out hw114_1), (zx HB.out hw114_2), (zx HB.out hw114_3), (zx HB.out hw114_4)⟩ (fun hHeld => ?_)
     clear hK K
     refine norm_ (a' := ?_) ?_ ?_
     rotate_left
     ·show Act.put _ (some 31) _ = _
      simp only [Act.put, List.setIfInBounds_toArray, List.set_cons_zero, List.set_cons_succ, i64_w, i32_w]
      rfl
     refine pure_ (i := 8) (N := some 6) (v := ?_) (a' := ?_) #[true, true, true, true, true, true, true, true, true] rfl rfl (any_of HT_.out (by kernel_rfl)) (fun _ _ _ h => h) (Or.inl ⟨by rfl, ?_⟩) ?_ ?_
     rotate_left
     ·intro w'
      go_simp
      with_reducible rfl
     rotate_left
     ·exact zp
     refine done_ (done_of HT_.out (by kernel_rfl)) ?_
     have n_ := Zs0.mk (Kd.Q_mono (ok' := (fun k_ => some k_ ≠ (v103 : Value).ownBlock ∧ some k_ ≠ (.slice (some ⟨go6, 0, none⟩) x4_1.length co6 : Value).ownBlock ∧ some k_ ≠ (v116 : Value).ownBlock)) HO_5.out (fun k_ hk => ⟨hk.1.1, ⟨hk.1.2, hk.2⟩⟩))
     clear HO_5
     have HO_5 := n_
     clear n_
     have q27 : (1 : Int) ≤ ((x5_1.length : Int) : Int) := zD
     obtain ⟨i027, hi027, _, hsz27, _⟩ := info_parts info3
     have hcut27 := cut_from (P := Try.prog) 22 3 .i64 Try.underlying22 hi027 1 hsz27 (some ad113) x5_1.length co24 1 (by omega) q27
     have hr27 := Kd.Q_drop (k := (1 : Int).toNat) HO_5.out (by omega)
     obtain ⟨A27, hA27⟩ : ∃ A1, A1 = (if co24 = (1 : Int).toNat then (some ad113) else ((some ad113) : Option Addr).map (·.add ((1 : Int).toNat * 1))) := ⟨_, rfl⟩
     obtain ⟨c27, hc27⟩ : ∃ c1, c1 = co24 - (1 : Int).toNat := ⟨_, rfl⟩
     have hy27 : y118.length = x5_1.length - (1 : Int).toNat := (by rw [Ny118.out, List.length_drop])
     rw [← Ny118.out] at hr27
     rw [← hy27, ← hA27, ← hc27] at hcut27
     replace hr27 : Kd.Q (Kd.int .i64) 3 w26 w.heap.size (fun k_ => some k_ ≠ (v103 : Value).ownBlock ∧ some k_ ≠ (.slice (some ⟨go6, 0, none⟩) x4_1.length co6 : Value).ownBlock ∧ some k_ ≠ (v116 : Value).ownBlock) (.slice A27 y118.length c27) y118 := (by rw [hA27, hc27, hy27]; exact hr27)
     have HE27 : Zs0 ((Value.slice A27 y118.length c27).ownBlock = (.slice (some ad113) x5_1.length co24 : Value).ownBlock) := ⟨by rw [hA27]; split <;> (cases ((some ad113) : Option Addr) <;> rfl)⟩
     clear hy27 hi027 hsz27 HO_5 hA27 hc27
     have HO120 := Zs0.mk hr27
     clear hr27
     replace q27 := eq_true q27
     have n_ := Zs0.mk (Kd.R_mono (ok' := fun k_ => ((some k_ ≠ (.slice (some ⟨go6, 0, none⟩) x4_1.length co6 : Value).ownBlock ∧ some k_ ≠ (.slice A27 y118.length c27 : Value).ownBlock) ∧ some k_ ≠ (v116 : Value).ownBlock)) HO_3.out (fun k_ hk => ⟨⟨hk.1.1, (by rw [HE27.out]; exact hk.1.2)⟩, hk.2⟩))
     clear HO_3
     have HO_3 := n_
     clear n_
     have n_ := Zs0.mk (Kd.R_mono (ok' := fun k_ => ((some k_ ≠ (v103 : Value).ownBlock ∧ some k_ ≠ (.slice A27 y118.length c27 : Value).ownBlock) ∧ some k_ ≠ (v116 : Value).ownBlock)) HO_4.out (fun k_ hk => ⟨⟨hk.1.1, (by rw [HE27.out]; exact hk.1.2)⟩, hk.2⟩))
     clear HO_4
     have HO_4 := n_
     clear n_
     have n_ := Zs0.mk (Kd.R_mono (ok' := fun k_ => (((True ∧ some k_ ≠ (v103 : Value).ownBlock) ∧ some k_ ≠ (.slice (some ⟨go6, 0, none⟩) x4_1.length co6 : Value).ownBlock) ∧ some k_ ≠ (.slice A27 y118.length c27 : Value).ownBlock)) HO117.out (fun k_ hk => ⟨⟨⟨trivial, hk.1.1.2⟩, hk.1.2⟩, (by rw [HE27.out]; exact hk.2)⟩))
     clear HO117
     have HO117 := n_
     clear n_
     try go_wp2
     go_loopg [5, 7] k1 (fun kq v5 v7 w' => ∃ (x4_2 : List Int) (x5_2 : List Int) (x7_2 : Int), v7 = .int .i64 x7_2 ∧ Zs0 (spec_Blocks.l1 kq y102 x4_2 x5_2 t115 x7_2 l0_0 a0_1 a0_2 a0_3 l0_4 = some r) ∧ Zs0 (kq ≤ k1) ∧ Zs0 (Kd.R (Kd.int .i64) 3 w' w.heap.size (fun k_ => some k_ ≠ ((.slice (some ⟨go6, 0, none⟩) x4_1.length co6) : Value).ownBlock ∧ some k_ ≠ (v5 : Value).ownBlock ∧ some k_ ≠ (v116 : Value).ownBlock) v103 y102) ∧ Zs0 (Kd.R (Kd.int .i64) 3 w' w.heap.size (fun k_ => some k_ ≠ (v103 : Value).ownBlock ∧ some k_ ≠ (v5 : Value).ownBlock ∧ some k_ ≠ (v116 : Value).ownBlock) (.slice (some ⟨go6, 0, none⟩) x4_1.length co6) x4_2) ∧ Zs0 (Kd.Q (Kd.int .i64) 3 w' w.heap.size (fun k_ => some k_ ≠ (v103 : Value).ownBlock ∧ some k_ ≠ ((.slice (some ⟨go6, 0, none⟩) x4_1.length co6) : Value).ownBlock ∧ some k_ ≠ (v116 : Value).ownBlock) v5 x5_2) ∧ Zs0 (Kd.R (Kd.int .i64) 3 w' w.heap.size (fun k_ => some k_ ≠ (v103 : Value).ownBlock ∧ some k_ ≠ ((.slice (some ⟨go6, 0, none⟩) x4_1.length co6) : Value).ownBlock ∧ some k_ ≠ (v5 : Value).ownBlock) v116 t115) ∧ Zs0 (w'.heap[gb101]? = some (.cells #[(.slice A0_0 l0_0.length c0_0), .int .i64 a0_1, .int .i64 a0_2, .int .i64 a0_3, (.slice (some ad114) l0_4.length c0_4)] 29 (0, 0))) ∧ Zs0 (Below w.heap.size w w'))
     case atStart => exact ⟨(x4_1), (y118), (0), zq, H', ⟨Nat.le_refl _⟩, ⟨by (try simp only [hl4_1]); (with_reducible repeat (first | apply Kd.rA1 | apply Kd.rD1 | apply Kd.rD2)); exact Kd.R_mono HO_3.out (fun _ hk => ⟨hk.1.1, ⟨hk.1.2, hk.2⟩⟩)⟩, ⟨by (try simp only [hl4_1]); (with_reducible repeat (first | apply Kd.rA1 | apply Kd.rD1 | apply Kd.rD2)); exact Kd.R_mono HO_4.out (fun _ hk => ⟨hk.1.1, ⟨hk.1.2, hk.2⟩⟩)⟩, ⟨by (try simp only [hl4_1]); (with_reducible repeat (first | apply Kd.Q_alloc | apply Kd.Q_drewN | apply Kd.Q_drew)); exact HO120.out⟩, ⟨by (try simp only [hl4_1]); (with_reducible repeat (first | apply Kd.rA1 | apply Kd.rD1 | apply Kd.rD2)); exact Kd.R_mono HO117.out (fun _ hk => ⟨hk.1.1.2, ⟨hk.1.2, hk.2⟩⟩)⟩, ⟨by (try simp only [hl4_1]); refine zE ?_; exact BK101.out⟩, ⟨zB⟩⟩
     case round =>
      clear H'
      try clear c1
      try clear p1
      try clear q1
      try clear hx1
      try clear qi1
      try clear c2
      try clear p2
      try clear q2
      try clear c3
      try clear c4
      try clear c5
      try clear c5b0
      try clear c5b1
      try clear p6
      try clear q6
      try clear hx6
      try clear qi6
      try clear hf6
      try clear c11
      try clear p11
      try clear q11
      try clear hx11
      try clear qi11
      try clear c18
      try clear c18b0
      try clear c18b1
      try clear c19
      try clear c19b0
      try clear c19b1
      try clear c20
      try clear c20b0
      try clear c21
      try clear c21b0
      try clear c23
      try clear c23b0
      try clear c23b1
      try clear c27
      try clear q27
      try clear hcz10_0 hcz10_1 hcz10_2 hcz10_3 hcz10_4
      try clear hcz12_0 hcz12_1 hcz12_2 hcz12_3 hcz12_4
      try clear hfz10_0 hfz10_1 hfz10_2 hfz10_3 hfz10_4
      try clear hfz12_0 hfz12_1 hfz12_2 hfz12_3 hfz12_4
      try clear hx113_0
      try clear hx114_0
      try clear hx114_1
      try clear hx114_2
      try clear hx114_3
      try clear hx114_4
      try clear hx6_0
      try clear p113
      try clear p114
      try clear p2
      try clear p6
      try clear q113
      try clear q114
      try clear q27
      try clear q6
      obtain ⟨x4_2, x5_2, x7_2, rfl, HA, HK2, HO_3, HO_4, HO_5, HO_6, BK101, HB⟩ := hrel
      have hl4_2 := (Kd.R_reads' HO_4.out).1
      rw [hl4_2] at HO_4
      (try simp only [hl4_2])
      (try simp only [hl4_2] at BK101)
      (try simp only [hl4_2] at HO_3)
      (try simp only [hl4_2] at HO_5)
      (try simp only [hl4_2] at HO_6)
      cases gk with
      | zero => exact absurd HA.out (by simp [spec_Blocks.l1])
      | succ k2 =>
       have H := HA.out
       clear HA
       simp only [spec_Blocks.l1] at H
       by_cases c28 : x7_2 < (t115.length : Int)
       ·rw [if_pos c28] at H
        have c28b0 : decide (x7_2 < (t115.length : Int)) = true := decide_eq_true c28
        clear c28
        have c29 := ipos H
        rw [if_pos c29] at H
        have c29b0 := decide_eq_true c29
        clear c29
        have c30 := ipos H
        rw [if_pos c30] at H
        have c30b0 := decide_eq_true c30
        clear c30
        have c31 := ipos H
        rw [if_pos c31] at H
        have c31b0 := decide_eq_true c31
        clear c31
        by_cases c32 : (rd x4_2 (rd t115 x7_2)) = 0
        ·rw [if_pos c32] at H
         have c32b0 : ((rd x4_2 (rd t115 x7_2)) == 0) = true := beq_iff_eq.mpr c32
         have c32b1 : ((rd x4_2 (rd t115 x7_2)) != 0) = false := bne_eq_false_iff_eq.mpr c32
         clear c32
         obtain ⟨y124, hy124⟩ : ∃ y_ : List Int, y_ = (x4_2.set ((rd t115 x7_2) : Int).toNat 1) := ⟨_, rfl⟩
         replace H : (if x5_2.length < 17592186044416 then (spec_Blocks.l1 k2 y102 y124 (x5_2 ++ [rd t115 x7_2]) t115 (wrap64 (x7_2 + 1)) l0_0 a0_1 a0_2 a0_3 l0_4) else (none)) = some r := by first | (rw [hy124]; with_reducible exact H) | (have H2_ := (Option.bind_some _ _).symm.trans H; rw [hy124]; with_reducible exact H2_) | (have H2_ := (Option.bind_some _ _).symm.trans H; with_reducible exact H2_) | with_reducible exact H | (rw [hy124]; exact H) | exact H
         have Ny124 := Zs0.mk hy124
         clear hy124
         have c34 := ipos H
         rw [if_pos c34] at H
         have LMc34 := Zs0.mk c34
         clear c34
         obtain ⟨y126, hy126⟩ : ∃ y_ : List Int, y_ = (x5_2 ++ [rd t115 x7_2]) := ⟨_, rfl⟩
         replace H : (spec_Blocks.l1 k2 y102 y124 y126 t115 (wrap64 (x7_2 + 1)) l0_0 a0_1 a0_2 a0_3 l0_4) = some r := by first | (rw [hy126]; with_reducible exact H) | (have H2_ := (Option.bind_some _ _).symm.trans H; rw [hy126]; with_reducible exact H2_) | (have H2_ := (Option.bind_some _ _).symm.trans H; with_reducible exact H2_) | with_reducible exact H | (rw [hy126]; exact H) | exact H
         have Ny126 := Zs0.mk hy126
         clear hy126
         have H' := Zs0.mk H
         clear H
         obtain ⟨Ao35, co35, eo35⟩ := Kd.R_slice HO_6.out
         subst eo35
         have p121 : 0 ≤ (x7_2 : Int) := zD
         have q121 : x7_2 < (t115.length : Int) := zD
         obtain ⟨ad121, e121, hx121_0⟩ := Kd.at_int (Kd.R_reads' HO_6.out).2.2 x7_2 p121 q121
         cases e121
         replace p121 := eq_true p121
         replace q121 := eq_true q121
         have p122 : 0 ≤ ((rd t115 x7_2) : Int) := zD
         have q122 : (rd t115 x7_2) < (x4_2.length : Int) := zD
         obtain ⟨ad122, e122, hx122_0⟩ := Kd.at_int (Kd.R_reads' HO_4.out).2.2 (rd t115 x7_2) p122 q122
         obtain rfl : (⟨go6, 0, none⟩ : Addr) = ad122 := (by injection e122)
         (first | simp only [add_plain] at hx122_0 | simp only [add_at] at hx122_0 | simp only [Addr.add, Nat.zero_add] at hx122_0 | skip)
         replace p122 := eq_true p122
         replace q122 := eq_true q122
         have p123 : 0 ≤ (x7_2 : Int) := zD
         have q123 : x7_2 < (t115.length : Int) := zD
         obtain ⟨ad123, e123, hx123_0⟩ := Kd.at_int (Kd.R_reads' HO_6.out).2.2 x7_2 p123 q123
         obtain rfl : ad121 = ad123 := (by injection e123)
         replace p123 := eq_true p123
         replace q123 := eq_true q123
         have p33 : 0 ≤ ((rd t115 x7_2) : Int) := zD
         have q33 : ((rd t115 x7_2) : Int) < ((x4_2.length : Int) : Int) := zD
         obtain ⟨hx33_0, hf33_0⟩ := Kd.R_celln 0 HO_4.out ((rd t115 x7_2) : Int) p33 q33
         replace p33 := eq_true p33
         replace q33 := eq_true q33
         have HP36 := Kd.R_putg HO_4.out ((rd t115 x7_2) : Int) 1
         go_wp2_with (first | ((with_reducible refine gate_store (t := 3) (p := 53) rfl ?_); refine store_event (t := 3) (p := 53) (v := ?vo_w37) (w1 := (wr.setCell ⟨go6, ((rd t115 x7_2) : Int).toNat, none⟩ (.int .i64 1))) ?hg ?ho ?hn ?hr ?_; (case ho => rfl); (case hg => rfl); (case hn => rfl); (case hr => first | (go_simp; done) | (go_simp; rfl)); intro w37 hw; have hg : wr.grownBy w37 (some go6) := (by rw [hw]; exact HP36.2); have hp_ : Kd.R (Kd.int .i64) 3 w37 w.heap.size (fun k_ => some k_ ≠ (v103 : Value).ownBlock ∧ some k_ ≠ (u5 : Value).ownBlock ∧ some k_ ≠ (.slice (some ad121) t115.length co35 : Value).ownBlock) (.slice (some ⟨go6, 0, none⟩) x4_2.length co6) y124 := (by rw [hw, Ny124.out]; exact HP36.1); clear HP36; have n0_ := Zs0.mk (Kd.R_after (v := (.slice (some ⟨go6, 0, none⟩) x4_2.length co6)) (v1 := (.slice (some ⟨go6, 0, none⟩) x4_2.length co6)) (ok := (fun k_ => some k_ ≠ (u5 : Value).ownBlock ∧ some k_ ≠ (.slice (some ad121) t115.length co35 : Value).ownBlock)) (by (with_reducible repeat (first | apply Kd.rA1 | apply Kd.rD1 | apply Kd.rD2)); exact Kd.R_mono HO_3.out (fun _ hk => ⟨⟨hk.2.1, hk.2.2⟩, hk.1⟩)) hg (.inl rfl)); have n1_ := Zs0.mk (hp_); have n2_ := Zs0.mk (Kd.Q_after (v := (.slice (some ⟨go6, 0, none⟩) x4_2.length co6)) (v1 := (.slice (some ⟨go6, 0, none⟩) x4_2.length co6)) (ok := (fun k_ => some k_ ≠ (v103 : Value).ownBlock ∧ some k_ ≠ (.slice (some ad121) t115.length co35 : Value).ownBlock)) (by (with_reducible repeat (first | apply Kd.Q_alloc | apply Kd.Q_drewN | apply Kd.Q_drew)); exact Kd.Q_mono HO_5.out (fun _ hk => ⟨⟨hk.1, hk.2.2⟩, hk.2.1⟩)) hg (.inl rfl)); have n3_ := Zs0.mk (Kd.R_after (v := (.slice (some ⟨go6, 0, none⟩) x4_2.length co6)) (v1 := (.slice (some ⟨go6, 0, none⟩) x4_2.length co6)) (ok := (fun k_ => some k_ ≠ (v103 : Value).ownBlock ∧ some k_ ≠ (u5 : Value).ownBlock)) (by (with_reducible repeat (first | apply Kd.rA1 | apply Kd.rD1 | apply Kd.rD2)); exact Kd.R_mono HO_6.out (fun _ hk => ⟨⟨hk.1, hk.2.2⟩, hk.2.1⟩)) hg (.inl rfl)); have n4_ := Zs0.mk (blk_grown (zG BK101.out) hg (Kd.R_ne HO_4.out BK101.out (by decide))); have n5_ := Zs0.mk ((by rw [hw]; exact blS (HB.out) GB6.out : Below w.heap.size w w37)); revert n0_ n1_ n2_ n3_ n4_ n5_; clear HO_3 HO_4 HO_5 HO_6 BK101 HB; intro HO_3 HO_4 HO_5 HO_6 BK101 HB; clear hg hw hp_; have p125 : 0 ≤ (x7_2 : Int) := zD; have q125 : x7_2 < (t115.length : Int) := zD; obtain ⟨ad125, e125, hx125_0⟩ := Kd.at_int (Kd.R_reads' HO_6.out).2.2 x7_2 p125 q125; obtain rfl : ad121 = ad125 := (by injection e125); replace p125 := eq_true p125; replace q125 := eq_true q125) | ((with_reducible refine gate_builtin (b := .append) (xs := #[.tmp 54, .tmp 59]) rfl ?_); at_builtin; refine Kd.Q_append (Kd.int .i64) (w0 := w) w.heap.size rfl (.tmp 54) (.tmp 59) 22 3 (.int .i64 0) 8 rfl Try.underlying22 info3 rfl (by decide) (by omega) u5 x5_2 (rd t115 x7_2) [.int .i64 (rd t115 x7_2)] (fun k_ => some k_ ≠ (v103 : Value).ownBlock ∧ some k_ ≠ (.slice (some ⟨go6, 0, none⟩) x4_2.length co6 : Value).ownBlock ∧ some k_ ≠ (.slice (some ad121) t115.length co35 : Value).ownBlock) (fun _ => False) rfl rfl ?aP (fun _ hk => hk.elim) ?aF ?aO ?aB ?aS ?aL ?_; (case aP => exact rfl); (case aB => exact zB); (case aF => exact (fun k_ hk => ⟨Kd.fresh' (Kd.R_lt (zR HO_3.out)) k_ hk, Kd.fresh' (Kd.R_lt (zR HO_4.out)) k_ hk, Kd.fresh' (Kd.R_lt (zR HO_6.out)) k_ hk⟩)); (case aO => exact (by (with_reducible repeat (first | apply Kd.Q_alloc | apply Kd.Q_drewN | apply Kd.Q_drew)); exact Kd.Q_mono HO_5.out (fun _ hk => ⟨hk.1.1, ⟨hk.2, hk.1.2⟩⟩))); (case aS => exact (blZ zB)); (case aL => have := LMc34.out; omega); intro v127 w38 ho hb hg hat; rw [← Ny126.out] at ho; have n0_ := Zs0.mk (Kd.R_after (ok := (fun k_ => some k_ ≠ (.slice (some ⟨go6, 0, none⟩) x4_2.length co6 : Value).ownBlock ∧ some k_ ≠ (.slice (some ad121) t115.length co35 : Value).ownBlock)) (by (with_reducible repeat (first | apply Kd.rA1 | apply Kd.rD1 | apply Kd.rD2)); exact Kd.R_mono HO_3.out (fun _ hk => ⟨⟨hk.2, hk.1.2⟩, hk.1.1⟩)) hg hat); have n1_ := Zs0.mk (Kd.R_after (ok := (fun k_ => some k_ ≠ (v103 : Value).ownBlock ∧ some k_ ≠ (.slice (some ad121) t115.length co35 : Value).ownBlock)) (by (with_reducible repeat (first | apply Kd.rA1 | apply Kd.rD1 | apply Kd.rD2)); exact Kd.R_mono HO_4.out (fun _ hk => ⟨⟨hk.1, hk.2.2⟩, hk.2.1⟩)) hg hat); have n2_ := Zs0.mk (Kd.R_after (ok := (fun k_ => some k_ ≠ (v103 : Value).ownBlock ∧ some k_ ≠ (.slice (some ⟨go6, 0, none⟩) x4_2.length co6 : Value).ownBlock)) (by (with_reducible repeat (first | apply Kd.rA1 | apply Kd.rD1 | apply Kd.rD2)); exact Kd.R_mono HO_6.out (fun _ hk => ⟨⟨hk.1.1, hk.2⟩, hk.1.2⟩)) hg hat); have n3_ := Zs0.mk (blk_grown (zG BK101.out) hg (Kd.Q_ne HO_5.out BK101.out (by decide))); have n4_ := Zs0.mk (hb); have n5_ := Zs0.mk (ho); revert n0_ n1_ n2_ n3_ n4_ n5_; clear HO_3 HO_4 HO_6 BK101 HB HO_5; intro HO_3 HO_4 HO_6 BK101 HB HO128; clear ho hb hg hat))
         (try simp only [← hl4_2])
         go_roundg k2
         case measure => have := HK1.out; have := HK2.out; omega
         case rel => exact ⟨(y124), (y126), (wrap64 (x7_2 + 1)), zq, H', ⟨by have := HK1.out; have := HK2.out; omega⟩, ⟨by (try simp only [hl4_1]); (try simp only [hl4_2]); (with_reducible repeat (first | apply Kd.rA1 | apply Kd.rD1 | apply Kd.rD2)); exact Kd.R_mono HO_3.out (fun _ hk => ⟨hk.1.1, ⟨hk.2, hk.1.2⟩⟩)⟩, ⟨by (try simp only [hl4_1]); (try simp only [hl4_2]); (with_reducible repeat (first | apply Kd.rA1 | apply Kd.rD1 | apply Kd.rD2)); exact Kd.R_mono HO_4.out (fun _ hk => ⟨hk.1.1, ⟨hk.2, hk.1.2⟩⟩)⟩, ⟨by (try simp only [hl4_1]); (try simp only [hl4_2]); (with_reducible repeat (first | apply Kd.Q_alloc | apply Kd.Q_drewN | apply Kd.Q_drew)); exact HO128.out⟩, ⟨by (try simp only [hl4_1]); (try simp only [hl4_2]); (with_reducible repeat (first | apply Kd.rA1 | apply Kd.rD1 | apply Kd.rD2)); exact Kd.R_mono HO_6.out (fun _ hk => ⟨hk.1.1, ⟨hk.1.2, hk.2⟩⟩)⟩, ⟨by (try simp only [hl4_1]); (try simp only [hl4_2]); refine zE ?_; exact BK101.out⟩, ⟨zB⟩⟩
        ·rw [if_neg c32] at H
         have c32b0 : ((rd x4_2 (rd t115 x7_2)) == 0) = false := beq_eq_false_iff_ne.mpr c32
         have c32b1 : ((rd x4_2 (rd t115 x7_2)) != 0) = true := bne_iff_ne.mpr c32
         have H' := Zs0.mk H
         clear H
         obtain ⟨Ao39, co39, eo39⟩ := Kd.R_slice HO_6.out
         subst eo39
         have p121 : 0 ≤ (x7_2 : Int) := zD
         have q121 : x7_2 < (t115.length : Int) := zD
         obtain ⟨ad121, e121, hx121_0⟩ := Kd.at_int (Kd.R_reads' HO_6.out).2.2 x7_2 p121 q121
         cases e121
         replace p121 := eq_true p121
         replace q121 := eq_true q121
         have p122 : 0 ≤ ((rd t115 x7_2) : Int) := zD
         have q122 : (rd t115 x7_2) < (x4_2.length : Int) := zD
         obtain ⟨ad122, e122, hx122_0⟩ := Kd.at_int (Kd.R_reads' HO_4.out).2.2 (rd t115 x7_2) p122 q122
         obtain rfl : (⟨go6, 0, none⟩ : Addr) = ad122 := (by injection e122)
         (first | simp only [add_plain] at hx122_0 | simp only [add_at] at hx122_0 | simp only [Addr.add, Nat.zero_add] at hx122_0 | skip)
         replace p122 := eq_true p122
         replace q122 := eq_true q122
         go_wp2
         (try simp only [← hl4_2])
         go_roundg k2
         case measure => have := HK1.out; have := HK2.out; omega
         case rel => exact ⟨(x4_2), (x5_2), (wrap64 (x7_2 + 1)), zq, H', ⟨by have := HK1.out; have := HK2.out; omega⟩, ⟨by (try simp only [hl4_1]); (try simp only [hl4_2]); (with_reducible repeat (first | apply Kd.rA1 | apply Kd.rD1 | apply Kd.rD2)); exact HO_3.out⟩, ⟨by (try simp only [hl4_1]); (try simp only [hl4_2]); (with_reducible repeat (first | apply Kd.rA1 | apply Kd.rD1 | apply Kd.rD2)); exact HO_4.out⟩, ⟨by (try simp only [hl4_1]); (try simp only [hl4_2]); (with_reducible repeat (first | apply Kd.Q_alloc | apply Kd.Q_drewN | apply Kd.Q_drew)); exact HO_5.out⟩, ⟨by (try simp only [hl4_1]); (try simp only [hl4_2]); (with_reducible repeat (first | apply Kd.rA1 | apply Kd.rD1 | apply Kd.rD2)); exact HO_6.out⟩, ⟨by (try simp only [hl4_1]); (try simp only [hl4_2]); refine zE ?_; exact BK101.out⟩, ⟨zB⟩⟩
       ·rw [if_neg c28] at H
        have c28b0 : decide (x7_2 < (t115.length : Int)) = false := decide_eq_false c28
        clear c28
        have H' := Zs0.mk H
        clear H
        obtain ⟨Ao40, co40, eo40⟩ := Kd.R_slice HO_6.out
        subst eo40
        go_wp2
        (try simp only [← hl4_1, ← hl4_2])
        go_roundg k2
        case measure => have := HK1.out; have := HK2.out; omega
        case rel => exact ⟨(x4_2), (x5_2), H', ⟨by have := HK1.out; have := HK2.out; omega⟩, ⟨by (try simp only [hl4_1]); (try simp only [hl4_2]); (with_reducible repeat (first | apply Kd.rA1 | apply Kd.rD1 | apply Kd.rD2)); exact Kd.R_mono HO_3.out (fun _ hk => ⟨hk.1, hk.2.1⟩)⟩, ⟨by (try simp only [hl4_1]); (try simp only [hl4_2]); (with_reducible repeat (first | apply Kd.rA1 | apply Kd.rD1 | apply Kd.rD2)); exact Kd.R_mono HO_4.out (fun _ hk => ⟨hk.1, hk.2.1⟩)⟩, ⟨by (try simp only [hl4_1]); (try simp only [hl4_2]); (with_reducible repeat (first | apply Kd.Q_alloc | apply Kd.Q_drewN | apply Kd.Q_drew)); exact Kd.Q_mono HO_5.out (fun _ hk => ⟨hk.1, hk.2.1⟩)⟩, ⟨by (try simp only [hl4_1]); (try simp only [hl4_2]); refine zE ?_; exact BK101.out⟩, ⟨zB⟩⟩
    ·rw [if_neg c18] at H
     have c18b0 : decide (0 < (x5_1.length : Int)) = false := decide_eq_false c18
     have c18b1 : decide (0 < x5_1.length) = false := decide_eq_false (by omega)
     clear c18
     have H' := Zs0.mk H
     clear H
     obtain ⟨Ao41, co41, eo41, _⟩ := Kd.Q_slice HO_5.out
     subst eo41
     go_wp2
     go_loopg [3, 8] k1 (fun kq v3 v8 w' => ∃ (x3_2 : List Int) (x8_2 : Int), v8 = .int .i64 x8_2 ∧ Zs0 (spec_Blocks.l2 kq x3_2 x4_1 x8_2 = some r) ∧ Zs0 (kq ≤ k1) ∧ Zs0 (Kd.R (Kd.int .i64) 3 w' w.heap.size (fun k_ => some k_ ≠ ((.slice (some ⟨go6, 0, none⟩) x4_1.length co6) : Value).ownBlock) v3 x3_2) ∧ Zs0 (Kd.R (Kd.int .i64) 3 w' w.heap.size (fun k_ => some k_ ≠ (v3 : Value).ownBlock) (.slice (some ⟨go6, 0, none⟩) x4_1.length co6) x4_1) ∧ Zs0 (w'.heap[gb101]? = some (.cells #[(.slice A0_0 l0_0.length c0_0), .int .i64 a0_1, .int .i64 a0_2, .int .i64 a0_3, (.slice A0_4 l0_4.length c0_4)] 29 (0, 0))) ∧ Zs0 (Below w.heap.size w w'))
     case atStart => exact ⟨(y102), (0), zq, H', ⟨Nat.le_refl _⟩, ⟨by (try simp only [hl4_1]); (with_reducible repeat (first | apply Kd.rA1 | apply Kd.rD1 | apply Kd.rD2)); exact Kd.R_mono HO_3.out (fun _ hk => hk.1)⟩, ⟨by (try simp only [hl4_1]); (with_reducible repeat (first | apply Kd.rA1 | apply Kd.rD1 | apply Kd.rD2)); exact Kd.R_mono HO_4.out (fun _ hk => hk.1)⟩, ⟨by (try simp only [hl4_1]); refine zE ?_; exact BK101.out⟩, ⟨zB⟩⟩
     case round =>
      clear H'
      try clear c1
      try clear p1
      try clear q1
      try clear hx1
      try clear qi1
      try clear c2
      try clear p2
      try clear q2
      try clear c3
      try clear p3
      try clear q3
      try clear hx3
      try clear hf3
      try clear c4
      try clear c5
      try clear c5b0
      try clear c5b1
      try clear p6
      try clear q6
      try clear hx6
      try clear qi6
      try clear hf6
      try clear c11
      try clear p11
      try clear q11
      try clear hx11
      try clear qi11
      try clear p12
      try clear q12
      try clear hx12
      try clear c18
      try clear c18b0
      try clear c18b1
      try clear c19
      try clear c19b0
      try clear c19b1
      try clear c20
      try clear c20b0
      try clear c21
      try clear c21b0
      try clear c23
      try clear c23b0
      try clear c23b1
      try clear c27
      try clear q27
      try clear c28
      try clear c28b0
      try clear c29
      try clear c29b0
      try clear c30
      try clear c30b0
      try clear c31
      try clear c31b0
      try clear c32
      try clear c32b0
      try clear c32b1
      try clear p33
      try clear q33
      try clear hx33
      try clear hf33
      try clear c34
      try clear hcz10_0 hcz10_1 hcz10_2 hcz10_3 hcz10_4
      try clear hcz12_0 hcz12_1 hcz12_2 hcz12_3 hcz12_4
      try clear hfz10_0 hfz10_1 hfz10_2 hfz10_3 hfz10_4
      try clear hfz12_0 hfz12_1 hfz12_2 hfz12_3 hfz12_4
      try clear hx113_0
      try clear hx114_0
      try clear hx114_1
      try clear hx114_2
      try clear hx114_3
      try clear hx114_4
      try clear hx121_0
      try clear hx122_0
      try clear hx123_0
      try clear hx125_0
      try clear hx33_0
      try clear hx6_0
      try clear p1
      try clear p11
      try clear p113
      try clear p114
      try clear p121
      try clear p122
      try clear p123
      try clear p125
      try clear p2
      try clear p33
      try clear p6
      try clear q1
      try clear q11
      try clear q113
      try clear q114
      try clear q121
      try clear q122
      try clear q123
      try clear q125
      try clear q2
      try clear q27
      try clear q33
      try clear q6
      obtain ⟨x3_2, x8_2, rfl, HA, HK2, HO_3, HO_4, BK101, HB⟩ := hrel
      cases gk with
      | zero => exact absurd HA.out (by simp [spec_Blocks.l2])
      | succ k2 =>
       have H := HA.out
       clear HA
       simp only [spec_Blocks.l2] at H
       by_cases c42 : x8_2 < (x4_1.length : Int)
       ·rw [if_pos c42] at H
        have c42b0 : decide (x8_2 < (x4_1.length : Int)) = true := decide_eq_true c42
        clear c42
        have c43 := ipos H
        rw [if_pos c43] at H
        have c43b0 := decide_eq_true c43
        clear c43
        by_cases c44 : (rd x4_1 x8_2) = 1
        ·rw [if_pos c44] at H
         have c44b0 : ((rd x4_1 x8_2) == 1) = true := beq_iff_eq.mpr c44
         have c44b1 : ((rd x4_1 x8_2) != 1) = false := bne_eq_false_iff_eq.mpr c44
         clear c44
         have c45 := ipos H
         rw [if_pos c45] at H
         have LMc45 := Zs0.mk c45
         clear c45
         obtain ⟨y130, hy130⟩ : ∃ y_ : List Int, y_ = (x3_2 ++ [x8_2]) := ⟨_, rfl⟩
         replace H : (spec_Blocks.l2 k2 y130 x4_1 (wrap64 (x8_2 + 1))) = some r := by first | (rw [hy130]; with_reducible exact H) | (have H2_ := (Option.bind_some _ _).symm.trans H; rw [hy130]; with_reducible exact H2_) | (have H2_ := (Option.bind_some _ _).symm.trans H; with_reducible exact H2_) | with_reducible exact H | (rw [hy130]; exact H) | exact H
         have Ny130 := Zs0.mk hy130
         clear hy130
         have H' := Zs0.mk H
         clear H
         have p129 : 0 ≤ (x8_2 : Int) := zD
         have q129 : x8_2 < (x4_1.length : Int) := zD
         obtain ⟨ad129, e129, hx129_0⟩ := Kd.at_int (Kd.R_reads' HO_4.out).2.2 x8_2 p129 q129
         obtain rfl : (⟨go6, 0, none⟩ : Addr) = ad129 := (by injection e129)
         (first | simp only [add_plain] at hx129_0 | simp only [add_at] at hx129_0 | simp only [Addr.add, Nat.zero_add] at hx129_0 | skip)
         replace p129 := eq_true p129
         replace q129 := eq_true q129
         go_wp2_with (first | ((with_reducible refine gate_builtin (b := .append) (xs := #[.tmp 72, .tmp 74]) rfl ?_); at_builtin; refine Kd.R_append (Kd.int .i64) (w0 := w) w.heap.size rfl (.tmp 72) (.tmp 74) 22 3 (.int .i64 0) 8 rfl Try.underlying22 info3 rfl (by decide) (by omega) u3 x3_2 x8_2 [.int .i64 x8_2] (fun k_ => some k_ ≠ (.slice (some ⟨go6, 0, none⟩) x4_1.length co6 : Value).ownBlock) (fun _ => False) rfl rfl ?aP (fun _ hk => hk.elim) ?aF ?aO ?aB ?aS ?aL ?_; (case aP => exact rfl); (case aB => exact zB); (case aF => exact (fun k_ hk => Kd.fresh' (Kd.R_lt (zR HO_4.out)) k_ hk)); (case aO => exact (zR HO_3.out)); (case aS => exact (blZ zB)); (case aL => have := LMc45.out; omega); intro v131 w46 ho hb hg hat; rw [← Ny130.out] at ho; have n0_ := Zs0.mk (Kd.R_after (ok := (fun _ => True)) (by (with_reducible repeat (first | apply Kd.rA1 | apply Kd.rD1 | apply Kd.rD2)); exact Kd.R_mono HO_4.out (fun _ hk => ⟨trivial, hk⟩)) hg hat); have n1_ := Zs0.mk (blk_grown (zG BK101.out) hg (Kd.R_ne HO_3.out BK101.out (by decide))); have n2_ := Zs0.mk (hb); have n3_ := Zs0.mk (ho); revert n0_ n1_ n2_ n3_; clear HO_4 BK101 HB HO_3; intro HO_4 BK101 HB HO132; clear ho hb hg hat))
         go_roundg k2
         case measure => have := HK1.out; have := HK2.out; omega
         case rel => exact ⟨(y130), (wrap64 (x8_2 + 1)), zq, H', ⟨by have := HK1.out; have := HK2.out; omega⟩, ⟨by (try simp only [hl4_1]); (with_reducible repeat (first | apply Kd.rA1 | apply Kd.rD1 | apply Kd.rD2)); exact HO132.out⟩, ⟨by (try simp only [hl4_1]); (with_reducible repeat (first | apply Kd.rA1 | apply Kd.rD1 | apply Kd.rD2)); exact Kd.R_mono HO_4.out (fun _ hk => hk.2)⟩, ⟨by (try simp only [hl4_1]); refine zE ?_; exact BK101.out⟩, ⟨zB⟩⟩
        ·rw [if_neg c44] at H
         have c44b0 : ((rd x4_1 x8_2) == 1) = false := beq_eq_false_iff_ne.mpr c44
         have c44b1 : ((rd x4_1 x8_2) != 1) = true := bne_iff_ne.mpr c44
         have H' := Zs0.mk H
         clear H
         have p129 : 0 ≤ (x8_2 : Int) := zD
         have q129 : x8_2 < (x4_1.length : Int) := zD
         obtain ⟨ad129, e129, hx129_0⟩ := Kd.at_int (Kd.R_reads' HO_4.out).2.2 x8_2 p129 q129
         obtain rfl : (⟨go6, 0, none⟩ : Addr) = ad129 := (by injection e129)
         (first | simp only [add_plain] at hx129_0 | simp only [add_at] at hx129_0 | simp only [Addr.add, Nat.zero_add] at hx129_0 | skip)
         replace p129 := eq_true p129
         replace q129 := eq_true q129
         go_wp2
         go_roundg k2
         case measure => have := HK1.out; have := HK2.out; omega
         case rel => exact ⟨(x3_2), (wrap64 (x8_2 + 1)), zq, H', ⟨by have := HK1.out; have := HK2.out; omega⟩, ⟨by (try simp only [hl4_1]); (with_reducible repeat (first | apply Kd.rA1 | apply Kd.rD1 | apply Kd.rD2)); exact HO_3.out⟩, ⟨by (try simp only [hl4_1]); (with_reducible repeat (first | apply Kd.rA1 | apply Kd.rD1 | apply Kd.rD2)); exact HO_4.out⟩, ⟨by (try simp only [hl4_1]); refine zE ?_; exact BK101.out⟩, ⟨zB⟩⟩
       ·rw [if_neg c42] at H
        have c42b0 : decide (x8_2 < (x4_1.length : Int)) = false := decide_eq_false c42
        clear c42
        obtain rfl := Option.some.inj H
        go_wp2
        go_ret
        exact ⟨_, zr, by (with_reducible repeat (first | apply Kd.rA1 | apply Kd.rD1 | apply Kd.rD2)); exact Kd.R_mono HO_3.out (fun _ hk => trivial), zB⟩
 ·replace c3 := Bool.eq_false_iff.mpr c3
  subst c3
  have H1 : (some y102) = some r := by rw [if_neg (show ¬ (false = true) by decide)] at H; exact H
  clear H
  have H := H1
  clear H1
  obtain rfl := Option.some.inj H
  go_enter Try.func21, Try.ntmps21
  go_wp2_with (first | ((with_reducible refine gtD (N := 1) rfl ?_); refine bxE ?hg (N := 1) ?hd (cs := #[.slice A0_0 l0_0.length c0_0, .int .i64 a0_1, .int .i64 a0_2, .int .i64 a0_3, .slice A0_4 l0_4.length c0_4]) (t := 29) ?hr ?_; (case hd => rfl); (case hg => rfl); (case hr => first | (go_simp; done) | (go_simp; rfl)); intro gb101 hg w47 hbox hb; have n0_ := Zs0.mk (blT zB hb); have n1_ := Zs0.mk (hbox); have n2_ := Zs0.mk (zs hg : w.heap.size ≤ gb101); have n3_ := Zs0.mk (zs hg : w.heap.size ≤ gb101); revert n0_ n1_ n2_ n3_; clear HB; intro HB BK101 GW101 GE101; clear hb hbox hg) | ((with_reducible refine gtD (N := 9) rfl ?_); refine Kd.R_lit (Kd.int .i64) _ 3 ?hg (N := 9) ?hd (xs := ([] : List Int)) (inner := []) (ok := fun _ => True) (okp := fun _ => True) ?hr ?hp (fun _ hk => hk) trivial (Below.refl _ _) (Nat.le_refl _) (by simp) ?_; (case hd => rfl); (case hg => rfl); (case hr => first | (go_simp; done) | (go_simp; rfl)); (case hp => exact (Reps.none _ _)); intro v103 w48 ho49 hb hg_ hnew_; clear hg_ hnew_; (first | rw [← Ny102.out] at ho49 | (simp only [Int.reduceToNat] at ho49; rw [← Ny102.out] at ho49)); have n0_ := Zs0.mk (Kd.R_lower ho49 (blZ zB)); have n1_ := Zs0.mk (bkB (zG BK101.out) hb); have n2_ := Zs0.mk (blT zB hb); revert n0_ n1_ n2_; clear BK101 HB; intro HO104 BK101 HB; clear hb ho49; obtain ⟨hcz50_0, hcz50_1, hcz50_2, hcz50_3, hcz50_4, hfz50_0, hfz50_1, hfz50_2, hfz50_3, hfz50_4⟩ := bx5 BK101.out) | ((with_reducible refine gtC (f := 29) rfl ?_); refine goesL_ (some 11) rfl rfl Try.func29 (by kernel_rfl) rfl #[.agg #[.slice A0_0 l0_0.length c0_0, .int .i64 a0_1, .int .i64 a0_2, .int .i64 a0_3, .slice A0_4 l0_4.length c0_4]] rfl zM ?_; (with_reducible refine (spec_GraphOk.calls k _ _ l0_0 a0_1 a0_2 a0_3 _ _ l0_4 false _ ?side1 ?side2 ?side3 ?side4 A2.out).mono ?_); (case side1 => exact zC HR0_0.out); (case side2 => exact HC0_0.out); (case side3 => exact zC HR0_4.out); (case side4 => exact HC0_4.out); rintro e w51 ⟨rfl, hb⟩; refine ⟨_, rfl, ?_⟩; have n0_ := Zs0.mk (Kd.R_below (zR HO104.out) hb); have n1_ := Zs0.mk (bkB (zG BK101.out) hb); have n2_ := Zs0.mk (blT zB hb); revert n0_ n1_ n2_; clear HO104 BK101 HB; intro HO104 BK101 HB; (try clear hb); (try clear hb2); (try clear hk); (try clear hi)))
  go_ret
  exact ⟨_, zr, by (with_reducible repeat (first | apply Kd.rA1 | apply Kd.rD1 | apply Kd.rD2)); exact HO104.out, zB⟩

end Go.Proofs.Ytcbpbnkoolpibaa.P
