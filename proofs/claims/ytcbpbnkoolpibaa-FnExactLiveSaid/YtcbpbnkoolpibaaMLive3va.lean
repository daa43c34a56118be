/- Functions of the program and of the reference as plain functions, and that the Go code comes to their answers; several texts in one. No conditions beyond what each theorem says. -/
import Derived.Test.YtcbpbnkoolpibaaMLive0a
import Derived.Test.YtcbpbnkoolpibaaMLive2wa
import Derived.Test.YtcbpbnkoolpibaaMLivexGlo
import Derived.Test.YtcbpbnkoolpibaaMLive2va
import Derived.Test.YtcbpbnkoolpibaaMLive1a
namespace Go.Proofs.Ytcbpbnkoolpibaa.P
open Go.RowKit Go.Proofs.YtcbpbnkoolpibaaW.PrintWords Go.Proofs.YtcbpbnkoolpibaaW.PrintLast Go.Proofs.YtcbpbnkoolpibaaW.PrintMore
attribute [local go_sem] max2_int min2_int max_two min_two max_three min_three max_four min_four   -- for this text's walks alone
set_option linter.unusedVariables false
set_option linter.unusedSimpArgs false

/-! ### impl_Live: function 15 -/
mutual
def impl_Live.l0 : Nat → List (List Int) → List (List Bool) → Int → Int → Option ((List (List Int)))
  | 0, _, _, _, _ => none
  | k + 1, x3, x14, x15, x16 => if x16 < x15 then (if 0 ≤ x16 then (if x16 < (x14.length : Int) then (impl_Live.l1 k x3 (([] : List Int)) x14 x15 x16 (rd_L13 x14 x16) ((rd_L13 x14 x16).length : Int) 0) else (none)) else (none)) else (some x3)
def impl_Live.l1 : Nat → List (List Int) → List Int → List (List Bool) → Int → Int → List Bool → Int → Int → Option ((List (List Int)))
  | 0, _, _, _, _, _, _, _, _ => none
  | k + 1, x3, x6, x14, x15, x16, x21, x22, x23 => if x23 < x22 then (if 0 ≤ x23 then (if x23 < (x21.length : Int) then (if rdOf false x21 x23 = true then (if x6.length < 17592186044416 then (impl_Live.l1 k x3 (x6 ++ [x23]) x14 x15 x16 x21 x22 (wrap64 (x23 + 1))) else (none)) else (impl_Live.l1 k x3 x6 x14 x15 x16 x21 x22 (wrap64 (x23 + 1)))) else (none)) else (none)) else (if x3.length < 5864062014805 then (impl_Live.l0 k (x3 ++ [x6]) x14 x15 (wrap64 (x16 + 1))) else (none))
end
def impl_Live.f (k : Nat) (l0_0 : List Int) (a0_1 : Int) (a0_2 : Int) (a0_3 : Int) (l0_4 : List (S47)) : Option ((List (List Int))) := (impl_isGraph.f k l0_0 a0_1 a0_2 a0_3 l0_4).bind fun t102 => (if t102 = true then ((impl_liveOf.f k l0_0 a0_1 a0_2 a0_3 l0_4).bind fun t106 => (impl_Live.l0 k (([] : List (List Int))) t106 (t106.length : Int) 0)) else (some ([] : List (List Int))))
theorem impl_Live.mono_l : ∀ k, (∀ y0 y1 y2 y3, LeO (impl_Live.l0 k y0 y1 y2 y3) (impl_Live.l0 (k + 1) y0 y1 y2 y3)) ∧ (∀ y0 y1 y2 y3 y4 y5 y6 y7, LeO (impl_Live.l1 k y0 y1 y2 y3 y4 y5 y6 y7) (impl_Live.l1 (k + 1) y0 y1 y2 y3 y4 y5 y6 y7))
  | 0 => ⟨fun _ _ _ _ r h => by simp [impl_Live.l0] at h, fun _ _ _ _ _ _ _ _ r h => by simp [impl_Live.l1] at h⟩
  | k + 1 => by
    obtain ⟨ih0, ih1⟩ := impl_Live.mono_l k
    refine ⟨?_, ?_⟩
    · intro y0 y1 y2 y3
      unfold impl_Live.l0
      repeat' first
      | (with_reducible exact ih0 _ _ _ _)
      | (with_reducible exact ih1 _ _ _ _ _ _ _ _)
      | (with_reducible exact impl_isGraph.mono _ _ _ _ _ _)
      | (with_reducible exact impl_liveOf.mono _ _ _ _ _ _)
      | (with_reducible exact LeO.refl _)
      | (with_reducible exact LeO.none _)
      | (with_reducible refine LeO.ite ?_ ?_)
      | (with_reducible refine LeO.bind ?_ (fun _ => ?_))
      | exact ih0 _ _ _ _
      | exact ih1 _ _ _ _ _ _ _ _
      | exact impl_isGraph.mono _ _ _ _ _ _
      | exact impl_liveOf.mono _ _ _ _ _ _
      | exact LeO.none _
      | refine LeO.ite ?_ ?_
      | refine LeO.bind ?_ (fun _ => ?_)
    · intro y0 y1 y2 y3 y4 y5 y6 y7
      unfold impl_Live.l1
      repeat' first
      | (with_reducible exact ih0 _ _ _ _)
      | (with_reducible exact ih1 _ _ _ _ _ _ _ _)
      | (with_reducible exact impl_isGraph.mono _ _ _ _ _ _)
      | (with_reducible exact impl_liveOf.mono _ _ _ _ _ _)
      | (with_reducible exact LeO.refl _)
      | (with_reducible exact LeO.none _)
      | (with_reducible refine LeO.ite ?_ ?_)
      | (with_reducible refine LeO.bind ?_ (fun _ => ?_))
      | exact ih0 _ _ _ _
      | exact ih1 _ _ _ _ _ _ _ _
      | exact impl_isGraph.mono _ _ _ _ _ _
      | exact impl_liveOf.mono _ _ _ _ _ _
      | exact LeO.none _
      | refine LeO.ite ?_ ?_
      | refine LeO.bind ?_ (fun _ => ?_)
theorem impl_Live.mono : ∀ a0 a1 a2 a3 a4 k, LeO (impl_Live.f k a0 a1 a2 a3 a4) (impl_Live.f (k + 1) a0 a1 a2 a3 a4) := by
  intro a0 a1 a2 a3 a4 k
  obtain ⟨ih0, ih1⟩ := impl_Live.mono_l k
  unfold impl_Live.f
  repeat' first
      | (with_reducible exact ih0 _ _ _ _)
      | (with_reducible exact ih1 _ _ _ _ _ _ _ _)
      | (with_reducible exact impl_isGraph.mono _ _ _ _ _ _)
      | (with_reducible exact impl_liveOf.mono _ _ _ _ _ _)
      | (with_reducible exact LeO.refl _)
      | (with_reducible exact LeO.none _)
      | (with_reducible refine LeO.ite ?_ ?_)
      | (with_reducible refine LeO.bind ?_ (fun _ => ?_))
      | exact ih0 _ _ _ _
      | exact ih1 _ _ _ _ _ _ _ _
      | exact impl_isGraph.mono _ _ _ _ _ _
      | exact impl_liveOf.mono _ _ _ _ _ _
      | exact LeO.none _
      | refine LeO.ite ?_ ?_
      | refine LeO.bind ?_ (fun _ => ?_)
set_option maxHeartbeats 8000000 in
set_option maxRecDepth 100000 in
theorem impl_Live.calls (k : Nat) (A0_0 : Option Addr) (c0_0 : Nat) (l0_0 : List Int) (a0_1 : Int) (a0_2 : Int) (a0_3 : Int) (A0_4 : Option Addr) (c0_4 : Nat) (l0_4 : List (S47)) (r : List (List Int)) (w : World) (hr0_0 : Kd.C (Kd.int .i64) w A0_0 l0_0.length l0_0) (hc0_0 : l0_0.length ≤ c0_0) (hr0_4 : Kd.C k47 w A0_4 l0_4.length l0_4) (hc0_4 : l0_4.length ≤ c0_4) (h : impl_Live.f k l0_0 a0_1 a0_2 a0_3 l0_4 = some r) :
  Calls Try.prog 15 #[.agg #[.slice A0_0 l0_0.length c0_0, .int .i64 a0_1, .int .i64 a0_2, .int .i64 a0_3, .slice A0_4 l0_4.length c0_4]] w fun e w' => ∃ v0_ : Value, e = .returned (v0_) ∧ Kd.S (Kd.slice 3 (Kd.int .i64)) 22 w' w.heap.size (fun _ => True) v0_ r ∧ Below w.heap.size w w' := by
 have hu29 := Try.underlying29
 have HR0_0 := Zs0.mk hr0_0
 have HC0_0 := Zs0.mk hc0_0
 clear hr0_0 hc0_0
 have HR0_4 := Zs0.mk hr0_4
 have HC0_4 := Zs0.mk hc0_4
 clear hr0_4 hc0_4
 have HB := Zs0.mk (Below.refl w.heap.size w)
 have H : ((impl_isGraph.f k l0_0 a0_1 a0_2 a0_3 l0_4).bind fun t102 => (if t102 = true then ((impl_liveOf.f k l0_0 a0_1 a0_2 a0_3 l0_4).bind fun t106 => (impl_Live.l0 k (([] : List (List Int))) t106 (t106.length : Int) 0)) else (some ([] : List (List Int))))) = some r := h
 clear h
 replace H := Option.bind_eq_some_iff.mp H
 obtain ⟨t102, A20, H⟩ := H
 replace H : (if t102 = true then ((impl_liveOf.f k l0_0 a0_1 a0_2 a0_3 l0_4).bind fun t106 => (impl_Live.l0 k (([] : List (List Int))) t106 (t106.length : Int) 0)) else (some ([] : List (List Int)))) = some r := H
 have A2 := Zs0.mk A20
 clear A20
 by_cases c3 : t102 = true
 ·subst c3
  have H1 : ((impl_liveOf.f k l0_0 a0_1 a0_2 a0_3 l0_4).bind fun t106 => (impl_Live.l0 k (([] : List (List Int))) t106 (t106.length : Int) 0)) = some r := by rw [if_pos rfl] at H; exact H
  clear H
  have H := H1
  clear H1
  obtain ⟨y103, hy103⟩ : ∃ y_ : List (List Int), y_ = (([] : List (List Int))) := ⟨_, rfl⟩
  replace H : ((impl_liveOf.f k l0_0 a0_1 a0_2 a0_3 l0_4).bind fun t106 => (impl_Live.l0 k y103 t106 (t106.length : Int) 0)) = some r := by first | (rw [hy103]; with_reducible exact H) | (have H2_ := (Option.bind_some _ _).symm.trans H; rw [hy103]; with_reducible exact H2_) | (have H2_ := (Option.bind_some _ _).symm.trans H; with_reducible exact H2_) | with_reducible exact H | (rw [hy103]; exact H) | exact H
  have Ny103 := Zs0.mk hy103
  clear hy103
  replace H := Option.bind_eq_some_iff.mp H
  obtain ⟨t106, A40, H⟩ := H
  replace H : (impl_Live.l0 k y103 t106 (t106.length : Int) 0) = some r := H
  have A4 := Zs0.mk A40
  clear A40
  have H' := Zs0.mk H
  clear H
  go_enter Try.func15, Try.ntmps15
  go_wp2_with (first | ((with_reducible refine gtD (N := 1) rfl ?_); refine bxE ?hg (N := 1) ?hd (cs := #[.slice A0_0 l0_0.length c0_0, .int .i64 a0_1, .int .i64 a0_2, .int .i64 a0_3, .slice A0_4 l0_4.length c0_4]) (t := 29) ?hr ?_; (case hd => rfl); (case hg => rfl); (case hr => first | (go_simp; done) | (go_simp; rfl)); intro gb101 hg w5 hbox hb; have n0_ := Zs0.mk (blT zB hb); have n1_ := Zs0.mk (hbox); have n2_ := Zs0.mk (zs hg : w.heap.size ≤ gb101); have n3_ := Zs0.mk (zs hg : w.heap.size ≤ gb101); revert n0_ n1_ n2_ n3_; clear HB; intro HB BK101 GW101 GE101; clear hb hbox hg; obtain ⟨hcz6_0, hcz6_1, hcz6_2, hcz6_3, hcz6_4, hfz6_0, hfz6_1, hfz6_2, hfz6_3, hfz6_4⟩ := bx5 BK101.out) | ((with_reducible refine gtC (f := 33) rfl ?_); refine goesL_ (some 10) rfl rfl Try.func33 (by kernel_rfl) rfl #[.agg #[.slice A0_0 l0_0.length c0_0, .int .i64 a0_1, .int .i64 a0_2, .int .i64 a0_3, .slice A0_4 l0_4.length c0_4]] rfl zM ?_; (with_reducible refine (impl_isGraph.calls k _ _ l0_0 a0_1 a0_2 a0_3 _ _ l0_4 true _ ?side1 ?side2 ?side3 ?side4 A2.out).mono ?_); (case side1 => exact zC HR0_0.out); (case side2 => exact HC0_0.out); (case side3 => exact zC HR0_4.out); (case side4 => exact HC0_4.out); rintro e w7 ⟨rfl, hb⟩; refine ⟨_, rfl, ?_⟩; have n0_ := Zs0.mk (bkB (zG BK101.out) hb); have n1_ := Zs0.mk (blT zB hb); revert n0_ n1_; clear BK101 HB; intro BK101 HB; (try clear hb); (try clear hb2); (try clear hk); (try clear hi)) | ((with_reducible refine gtD (N := 12) rfl ?_); refine Kd.S_lit (Kd.slice 3 (Kd.int .i64)) _ 22 ?hg (N := 12) ?hd (xs := ([] : List (List Int))) (inner := []) (ok := fun _ => True) (okp := fun _ => True) ?hr ?hp (fun _ hk => hk) trivial (Below.refl _ _) (Nat.le_refl _) (by simp) ?_; (case hd => rfl); (case hg => rfl); (case hr => first | (go_simp; done) | (go_simp; rfl)); (case hp => exact (Reps.none _ _)); intro v104 w8 ho9 hb hg_ hnew_; clear hg_ hnew_; (first | rw [← Ny103.out] at ho9 | (simp only [Int.reduceToNat] at ho9; rw [← Ny103.out] at ho9)); have n0_ := Zs0.mk (Kd.S_lower ho9 (blZ zB)); have n1_ := Zs0.mk (bkB (zG BK101.out) hb); have n2_ := Zs0.mk (blT zB hb); revert n0_ n1_ n2_; clear BK101 HB; intro HO105 BK101 HB; clear hb ho9; obtain ⟨hcz10_0, hcz10_1, hcz10_2, hcz10_3, hcz10_4, hfz10_0, hfz10_1, hfz10_2, hfz10_3, hfz10_4⟩ := bx5 BK101.out) | ((with_reducible refine gtC (f := 42) rfl ?_); refine goesL_ (some 14) rfl rfl Try.func42 (by kernel_rfl) rfl #[.agg #[.slice A0_0 l0_0.length c0_0, .int .i64 a0_1, .int .i64 a0_2, .int .i64 a0_3, .slice A0_4 l0_4.length c0_4]] rfl zM ?_; (with_reducible refine (impl_liveOf.calls k _ _ l0_0 a0_1 a0_2 a0_3 _ _ l0_4 t106 _ ?side1 ?side2 ?side3 ?side4 A4.out).mono ?_); (case side1 => exact zC HR0_0.out); (case side2 => exact HC0_0.out); (case side3 => exact zC HR0_4.out); (case side4 => exact HC0_4.out); rintro e w11 ⟨v107, rfl, ho0, hb⟩; refine ⟨_, rfl, ?_⟩; have n0_ := Zs0.mk (Kd.S_below (zS HO105.out) hb); have n1_ := Zs0.mk (Kd.S_lower ho0 (blZ zB)); have n2_ := Zs0.mk (bkB (zG BK101.out) hb); have n3_ := Zs0.mk (blT zB hb); revert n0_ n1_ n2_ n3_; clear HO105 BK101 HB; intro HO105 HO108 BK101 HB; (try clear hb); (try clear hb2); (try clear hk); (try clear hi); (try clear ho0); obtain ⟨Ao12, co12, eo12⟩ := Kd.S_slice HO108.out; subst eo12))
  go_loopg [3, 16] k (fun kq v3 v16 w' => ∃ (x3_1 : List (List Int)) (x16_1 : Int), v16 = .int .i64 x16_1 ∧ Zs0 (impl_Live.l0 kq x3_1 t106 (t106.length : Int) x16_1 = some r) ∧ Zs0 (kq ≤ k) ∧ Zs0 (Kd.S (Kd.slice 3 (Kd.int .i64)) 22 w' w.heap.size (fun _ => True) v3 x3_1) ∧ Zs0 (Kd.S (Kd.slice 4 Kd.bool) 54 w' w.heap.size (fun _ => True) (.slice Ao12 t106.length co12) t106) ∧ Zs0 (w'.heap[gb101]? = some (.cells #[(.slice A0_0 l0_0.length c0_0), .int .i64 a0_1, .int .i64 a0_2, .int .i64 a0_3, (.slice A0_4 l0_4.length c0_4)] 29 (0, 0))) ∧ Zs0 (Below w.heap.size w w'))
  case atStart => exact ⟨(y103), (0), zq, H', ⟨Nat.le_refl _⟩, ⟨zS HO105.out⟩, ⟨zS HO108.out⟩, ⟨zG BK101.out⟩, ⟨zB⟩⟩
  case round =>
   clear H'
   try clear c1
   try clear p2
   try clear c3
   try clear c4
   try clear hcz10_0 hcz10_1 hcz10_2 hcz10_3 hcz10_4
   try clear hcz6_0 hcz6_1 hcz6_2 hcz6_3 hcz6_4
   try clear hfz10_0 hfz10_1 hfz10_2 hfz10_3 hfz10_4
   try clear hfz6_0 hfz6_1 hfz6_2 hfz6_3 hfz6_4
   obtain ⟨x3_1, x16_1, rfl, HA, HK1, HO_3, HO_14, BK101, HB⟩ := hrel
   cases gk with
   | zero => exact absurd HA.out (by simp [impl_Live.l0])
   | succ k1 =>
    have H := HA.out
    clear HA
    simp only [impl_Live.l0] at H
    by_cases c13 : x16_1 < (t106.length : Int)
    ·rw [if_pos c13] at H
     have c13b0 : decide (x16_1 < (t106.length : Int)) = true := decide_eq_true c13
     clear c13
     have c14 := ipos H
     rw [if_pos c14] at H
     have c14b0 := decide_eq_true c14
     clear c14
     have c15 := ipos H
     rw [if_pos c15] at H
     have c15b0 := decide_eq_true c15
     clear c15
     obtain ⟨y110, hy110⟩ : ∃ y_ : List Int, y_ = (([] : List Int)) := ⟨_, rfl⟩
     replace H : (impl_Live.l1 k1 x3_1 y110 t106 (t106.length : Int) x16_1 (rd_L13 t106 x16_1) ((rd_L13 t106 x16_1).length : Int) 0) = some r := by first | (rw [hy110]; with_reducible exact H) | (have H2_ := (Option.bind_some _ _).symm.trans H; rw [hy110]; with_reducible exact H2_) | (have H2_ := (Option.bind_some _ _).symm.trans H; with_reducible exact H2_) | with_reducible exact H | (rw [hy110]; exact H) | exact H
     have Ny110 := Zs0.mk hy110
     clear hy110
     have H' := Zs0.mk H
     clear H
     have p109 : 0 ≤ (x16_1 : Int) := zD
     have q109 : x16_1 < (t106.length : Int) := zD
     obtain ⟨ad109, A109_0, c109_0, e109, hx109_0, hl109_0, hi109_0⟩ := at_L13 (Kd.S_reads' HO_14.out).2.2 x16_1 p109 q109
     cases e109
     obtain ⟨ce109, hce109, hMe109, hcc109⟩ := Kd.S_get HO_14.out [] x16_1 p109 (by first | exact q109 | exact zD | (have e_ := (Kd.S_reads' HO_14.out).1; omega))
     obtain ⟨ve109_0, rfl, ge109_0⟩ := hMe109
     have hv109_0 := hcc109 0 _ rfl
     rw [Nat.add_zero, show ((Kd.slice 4 Kd.bool)).sz = 1 from rfl, Nat.mul_one] at hv109_0
     replace hv109_0 := Option.some.inj (hv109_0.symm.trans hx109_0)
     rw [hv109_0] at ge109_0
     have HL109_0 := Zs0.mk (show Kd.R Kd.bool 4 _ _ _ _ (rd_L13 t106 x16_1) from ge109_0)
     clear hv109_0 ge109_0
     clear hcc109 hce109
     have HR109_0 := Zs0.mk hi109_0
     have HC109_0 := Zs0.mk hl109_0
     clear hi109_0 hl109_0
     replace p109 := eq_true p109
     replace q109 := eq_true q109
     go_wp2_with (first | ((with_reducible refine gtD (N := 20) rfl ?_); refine Kd.R_lit (Kd.int .i64) _ 3 ?hg (N := 20) ?hd (xs := ([] : List Int)) (inner := []) (ok := fun _ => True) (okp := fun _ => True) ?hr ?hp (fun _ hk => hk) trivial (Below.refl _ _) (Nat.le_refl _) (by simp) ?_; (case hd => rfl); (case hg => rfl); (case hr => first | (go_simp; done) | (go_simp; rfl)); (case hp => exact (Reps.none _ _)); intro v111 w16 ho17 hb hg_ hnew_; clear hg_ hnew_; (first | rw [← Ny110.out] at ho17 | (simp only [Int.reduceToNat] at ho17; rw [← Ny110.out] at ho17)); have n0_ := Zs0.mk (Kd.S_elder' (zS HO_3.out) (Kd.R_base ho17) hb); have n1_ := Zs0.mk (Kd.S_below (zS HO_14.out) hb); have n2_ := Zs0.mk (Kd.R_below (zR HL109_0.out) hb); have n3_ := Zs0.mk (Kd.R_lower ho17 (blZ zB)); have n4_ := Zs0.mk (bkB (zG BK101.out) hb); have n5_ := Zs0.mk (Kd.cB1 (by repeat (first | (with_reducible exact HR109_0.out) | (with_reducible refine Kd.cA1 ?_ _) | (with_reducible refine Kd.cD1 ?_ _) | (with_reducible refine Kd.cD2 ?_) | exact HR109_0.out)) hb); have n6_ := Zs0.mk (blT zB hb); revert n0_ n1_ n2_ n3_ n4_ n5_ n6_; clear HO_3 HO_14 HL109_0 BK101 HR109_0 HB; intro HO_3 HO_14 HL109_0 HO112 BK101 HR109_0 HB; clear hb ho17))
     go_loopg [6, 23] k1 (fun kq v6 v23 w' => ∃ (x6_2 : List Int) (x23_2 : Int), v23 = .int .i64 x23_2 ∧ Zs0 (impl_Live.l1 kq x3_1 x6_2 t106 (t106.length : Int) x16_1 (rd_L13 t106 x16_1) ((rd_L13 t106 x16_1).length : Int) x23_2 = some r) ∧ Zs0 (kq ≤ k1) ∧ Zs0 (Kd.S (Kd.slice 3 (Kd.int .i64)) 22 w' w.heap.size (fun k_ => some k_ ≠ (v6 : Value).ownBlock) u3 x3_1) ∧ Zs0 (Kd.R (Kd.int .i64) 3 w' w.heap.size (fun _ => True) v6 x6_2) ∧ Zs0 (Kd.S (Kd.slice 4 Kd.bool) 54 w' w.heap.size (fun _ => True) (.slice (some ad109) t106.length co12) t106) ∧ Zs0 (w'.heap[gb101]? = some (.cells #[(.slice A0_0 l0_0.length c0_0), .int .i64 a0_1, .int .i64 a0_2, .int .i64 a0_3, (.slice A0_4 l0_4.length c0_4)] 29 (0, 0))) ∧ Zs0 (Below w.heap.size w w') ∧ Zs0 (Kd.R Kd.bool 4 w' w.heap.size (fun _ => True) (.slice A109_0 (rd_L13 t106 x16_1).length c109_0) (rd_L13 t106 x16_1)))
     case atStart => exact ⟨(y110), (0), zq, H', ⟨Nat.le_refl _⟩, ⟨by (with_reducible repeat (first | apply Kd.S_alloc | apply Kd.S_drewN | apply Kd.S_drew)); exact Kd.S_mono HO_3.out (fun _ hk => hk.2)⟩, ⟨zR HO112.out⟩, ⟨zS HO_14.out⟩, ⟨zG BK101.out⟩, ⟨zB⟩, ⟨Kd.R_mono HL109_0.out (fun _ _ => trivial)⟩⟩
     case round =>
      clear H'
      try clear c1
      try clear p1
      try clear q1
      try clear hx1
      try clear p2
      try clear c3
      try clear c4
      try clear c10
      try clear p10
      try clear q10
      try clear hx10
      try clear c13
      try clear c13b0
      try clear c14
      try clear c14b0
      try clear c15
      try clear c15b0
      try clear hcz10_0 hcz10_1 hcz10_2 hcz10_3 hcz10_4
      try clear hcz6_0 hcz6_1 hcz6_2 hcz6_3 hcz6_4
      try clear hfz10_0 hfz10_1 hfz10_2 hfz10_3 hfz10_4
      try clear hfz6_0 hfz6_1 hfz6_2 hfz6_3 hfz6_4
      try clear hx109_0
      try clear p109
      try clear p2
      try clear q109
      obtain ⟨x6_2, x23_2, rfl, HA, HK2, HO_3, HO_6, HO_14, BK101, HB, HLL⟩ := hrel
      cases gk with
      | zero => exact absurd HA.out (by simp [impl_Live.l1])
      | succ k2 =>
       have H := HA.out
       clear HA
       simp only [impl_Live.l1] at H
       by_cases c18 : x23_2 < ((rd_L13 t106 x16_1).length : Int)
       ·rw [if_pos c18] at H
        have c18b0 : decide (x23_2 < ((rd_L13 t106 x16_1).length : Int)) = true := decide_eq_true c18
        clear c18
        have c19 := ipos H
        rw [if_pos c19] at H
        have c19b0 := decide_eq_true c19
        clear c19
        have c20 := ipos H
        rw [if_pos c20] at H
        have c20b0 := decide_eq_true c20
        clear c20
        obtain ⟨bq21, hbq21⟩ : ∃ b_ : Bool, b_ = (rdOf false (rd_L13 t106 x16_1) x23_2) := ⟨_, rfl⟩
        replace H : (if bq21 = true then (if x6_2.length < 17592186044416 then (impl_Live.l1 k2 x3_1 (x6_2 ++ [x23_2]) t106 (t106.length : Int) x16_1 (rd_L13 t106 x16_1) ((rd_L13 t106 x16_1).length : Int) (wrap64 (x23_2 + 1))) else (none)) else (impl_Live.l1 k2 x3_1 x6_2 t106 (t106.length : Int) x16_1 (rd_L13 t106 x16_1) ((rd_L13 t106 x16_1).length : Int) (wrap64 (x23_2 + 1)))) = some r := by rw [← hbq21] at H; exact H
        have Nbq21 := Zs0.mk hbq21
        clear hbq21
        by_cases c22 : bq21 = true
        ·subst c22
         have H1 : (if x6_2.length < 17592186044416 then (impl_Live.l1 k2 x3_1 (x6_2 ++ [x23_2]) t106 (t106.length : Int) x16_1 (rd_L13 t106 x16_1) ((rd_L13 t106 x16_1).length : Int) (wrap64 (x23_2 + 1))) else (none)) = some r := by rw [if_pos rfl] at H; exact H
         clear H
         have H := H1
         clear H1
         have c23 := ipos H
         rw [if_pos c23] at H
         have LMc23 := Zs0.mk c23
         clear c23
         obtain ⟨y114, hy114⟩ : ∃ y_ : List Int, y_ = (x6_2 ++ [x23_2]) := ⟨_, rfl⟩
         replace H : (impl_Live.l1 k2 x3_1 y114 t106 (t106.length : Int) x16_1 (rd_L13 t106 x16_1) ((rd_L13 t106 x16_1).length : Int) (wrap64 (x23_2 + 1))) = some r := by first | (rw [hy114]; with_reducible exact H) | (have H2_ := (Option.bind_some _ _).symm.trans H; rw [hy114]; with_reducible exact H2_) | (have H2_ := (Option.bind_some _ _).symm.trans H; with_reducible exact H2_) | with_reducible exact H | (rw [hy114]; exact H) | exact H
         have Ny114 := Zs0.mk hy114
         clear hy114
         have H' := Zs0.mk H
         clear H
         have p113 : 0 ≤ (x23_2 : Int) := zD
         have q113 : x23_2 < ((rd_L13 t106 x16_1).length : Int) := zD
         obtain ⟨ad113, e113, hx113_0⟩ := Kd.at_bool (Kd.R_reads' HLL.out).2.2 x23_2 p113 q113
         (try rw [← Nbq21.out] at hx113_0)
         cases e113
         replace p113 := eq_true p113
         replace q113 := eq_true q113
         go_wp2_with (first | ((with_reducible refine gate_builtin (b := .append) (xs := #[.tmp 29, .tmp 31]) rfl ?_); at_builtin; refine Kd.R_append (Kd.int .i64) (w0 := w) w.heap.size rfl (.tmp 29) (.tmp 31) 22 3 (.int .i64 0) 8 rfl Try.underlying22 info3 rfl (by decide) (by omega) u6 x6_2 x23_2 [.int .i64 x23_2] (fun _ => True) (fun _ => False) rfl rfl ?aP (fun _ hk => hk.elim) ?aF ?aO ?aB ?aS ?aL ?_; (case aP => exact rfl); (case aB => exact zB); (case aF => exact (fun _ _ => trivial)); (case aO => exact (zR HO_6.out)); (case aS => exact (blZ zB)); (case aL => have := LMc23.out; omega); intro v115 w24 ho hb hg hat; rw [← Ny114.out] at ho; have n0_ := Zs0.mk (Kd.S_after (ok := (fun _ => True)) (by (with_reducible repeat (first | apply Kd.S_alloc | apply Kd.S_drewN | apply Kd.S_drew)); exact Kd.S_mono HO_3.out (fun _ hk => ⟨trivial, hk⟩)) hg hat); have n1_ := Zs0.mk (Kd.S_over' (zS HO_14.out) (Kd.R_typed (zR HO_6.out)) (by decide) hg); have n2_ := Zs0.mk (blk_grown (zG BK101.out) hg (Kd.R_ne HO_6.out BK101.out (by decide))); have n3_ := Zs0.mk (hb); have n4_ := Zs0.mk (ho); have HL2 := Zs0.mk (Kd.R_over' (zR HLL.out) (Kd.R_typed (zR HO_6.out)) (by decide) hg); clear HLL; have HLL := HL2; revert n0_ n1_ n2_ n3_ n4_; clear HL2 HO_3 HO_14 BK101 HB HO_6; intro HO_3 HO_14 BK101 HB HO116; clear ho hb hg hat))
         go_roundg k2
         case measure => have := HK1.out; have := HK2.out; omega
         case rel => exact ⟨(y114), (wrap64 (x23_2 + 1)), zq, H', ⟨by have := HK1.out; have := HK2.out; omega⟩, ⟨by (with_reducible repeat (first | apply Kd.S_alloc | apply Kd.S_drewN | apply Kd.S_drew)); exact Kd.S_mono HO_3.out (fun _ hk => hk.2)⟩, ⟨zR HO116.out⟩, ⟨zS HO_14.out⟩, ⟨zG BK101.out⟩, ⟨zB⟩, HLL⟩
        ·replace c22 := Bool.eq_false_iff.mpr c22
         subst c22
         have H1 : (impl_Live.l1 k2 x3_1 x6_2 t106 (t106.length : Int) x16_1 (rd_L13 t106 x16_1) ((rd_L13 t106 x16_1).length : Int) (wrap64 (x23_2 + 1))) = some r := by rw [if_neg (show ¬ (false = true) by decide)] at H; exact H
         clear H
         have H := H1
         clear H1
         have H' := Zs0.mk H
         clear H
         have p113 : 0 ≤ (x23_2 : Int) := zD
         have q113 : x23_2 < ((rd_L13 t106 x16_1).length : Int) := zD
         obtain ⟨ad113, e113, hx113_0⟩ := Kd.at_bool (Kd.R_reads' HLL.out).2.2 x23_2 p113 q113
         (try rw [← Nbq21.out] at hx113_0)
         cases e113
         replace p113 := eq_true p113
         replace q113 := eq_true q113
         go_wp2
         go_roundg k2
         case measure => have := HK1.out; have := HK2.out; omega
         case rel => exact ⟨(x6_2), (wrap64 (x23_2 + 1)), zq, H', ⟨by have := HK1.out; have := HK2.out; omega⟩, ⟨zS HO_3.out⟩, ⟨zR HO_6.out⟩, ⟨zS HO_14.out⟩, ⟨zG BK101.out⟩, ⟨zB⟩, HLL⟩
       ·rw [if_neg c18] at H
        have c18b0 : decide (x23_2 < ((rd_L13 t106 x16_1).length : Int)) = false := decide_eq_false c18
        clear c18
        have c25 := ipos H
        rw [if_pos c25] at H
        have LMc25 := Zs0.mk c25
        clear c25
        obtain ⟨y117, hy117⟩ : ∃ y_ : List (List Int), y_ = (x3_1 ++ [x6_2]) := ⟨_, rfl⟩
        replace H : (impl_Live.l0 k2 y117 t106 (t106.length : Int) (wrap64 (x16_1 + 1))) = some r := by first | (rw [hy117]; with_reducible exact H) | (have H2_ := (Option.bind_some _ _).symm.trans H; rw [hy117]; with_reducible exact H2_) | (have H2_ := (Option.bind_some _ _).symm.trans H; with_reducible exact H2_) | with_reducible exact H | (rw [hy117]; exact H) | exact H
        have Ny117 := Zs0.mk hy117
        clear hy117
        have H' := Zs0.mk H
        clear H
        obtain ⟨Ao27, co27, eo27⟩ := Kd.R_slice HO_6.out
        subst eo27
        go_wp2_with (first | ((with_reducible refine gate_builtin (b := .append) (xs := #[.tmp 34, .tmp 36]) rfl ?_); at_builtin; refine Kd.S_append (Kd.slice 3 (Kd.int .i64)) (w0 := w) w.heap.size rfl (.tmp 34) (.tmp 36) 35 22 (.slice none 0 0) 24 rfl Try.underlying35 info22 rfl (by decide) (by omega) u3 x3_1 x6_2 [.slice Ao27 x6_2.length co27] (fun _ => True) (fun k_ => some k_ = (.slice Ao27 x6_2.length co27 : Value).ownBlock) rfl rfl ?aP (fun k_ hk_ => ((Kd.R_mono (ok' := fun k_ => ((fun _ => True)) k_ ∧ some k_ ≠ (u3 : Value).ownBlock) (Kd.R_apart' (HO_6.out) (Kd.S_typed HO_3.out) (by decide)) (fun k_ hk => ⟨trivial, hk.2⟩))).1 k_ hk_.symm) ?aF ?aO ?aB ?aS ?aL ?_; (case aP => exact Kd.M_row (Kd.R_mono (Kd.R_tight rfl (Kd.R_mono (ok' := fun k_ => ((fun _ => True)) k_ ∧ some k_ ≠ (u3 : Value).ownBlock) (Kd.R_apart' (HO_6.out) (Kd.S_typed HO_3.out) (by decide)) (fun k_ hk => ⟨trivial, hk.2⟩))) (fun _ h_ => h_))); (case aB => exact zB); (case aF => exact (fun _ _ => trivial)); (case aO => exact (by (with_reducible repeat (first | apply Kd.S_alloc | apply Kd.S_drewN | apply Kd.S_drew)); exact Kd.S_mono HO_3.out (fun k_ hk => ⟨trivial, fun e_ => hk e_⟩))); (case aS => exact (blZ zB)); (case aL => have := LMc25.out; omega); intro v118 w26 ho hb hg hat; rw [← Ny117.out] at ho; have n0_ := Zs0.mk (Kd.S_over' (zS HO_14.out) (Kd.S_typed (zS HO_3.out)) (by decide) hg); have n1_ := Zs0.mk (blk_grown (zG BK101.out) hg (Kd.S_ne HO_3.out BK101.out (by decide))); have n2_ := Zs0.mk (hb); have n3_ := Zs0.mk (ho); revert n0_ n1_ n2_ n3_; clear HO_14 BK101 HB HO_3 HO_6; intro HO_14 BK101 HB HO119; clear ho hb hg hat))
        go_roundg k2
        case measure => have := HK1.out; have := HK2.out; omega
        case rel => exact ⟨(y117), (wrap64 (x16_1 + 1)), zq, H', ⟨by have := HK1.out; have := HK2.out; omega⟩, ⟨zS HO119.out⟩, ⟨zS HO_14.out⟩, ⟨zG BK101.out⟩, ⟨zB⟩⟩
    ·rw [if_neg c13] at H
     have c13b0 : decide (x16_1 < (t106.length : Int)) = false := decide_eq_false c13
     clear c13
     obtain rfl := Option.some.inj H
     go_wp2
     go_ret
     exact ⟨_, zr, by (with_reducible repeat (first | apply Kd.S_alloc | apply Kd.S_drewN | apply Kd.S_drew)); exact HO_3.out, zB⟩
 ·replace c3 := Bool.eq_false_iff.mpr c3
  subst c3
  have H1 : (some ([] : List (List Int))) = some r := by rw [if_neg (show ¬ (false = true) by decide)] at H; exact H
  clear H
  have H := H1
  clear H1
  obtain rfl := Option.some.inj H
  go_enter Try.func15, Try.ntmps15
  go_wp2_with (first | ((with_reducible refine gtD (N := 1) rfl ?_); refine bxE ?hg (N := 1) ?hd (cs := #[.slice A0_0 l0_0.length c0_0, .int .i64 a0_1, .int .i64 a0_2, .int .i64 a0_3, .slice A0_4 l0_4.length c0_4]) (t := 29) ?hr ?_; (case hd => rfl); (case hg => rfl); (case hr => first | (go_simp; done) | (go_simp; rfl)); intro gb101 hg w28 hbox hb; have n0_ := Zs0.mk (blT zB hb); have n1_ := Zs0.mk (hbox); have n2_ := Zs0.mk (zs hg : w.heap.size ≤ gb101); have n3_ := Zs0.mk (zs hg : w.heap.size ≤ gb101); revert n0_ n1_ n2_ n3_; clear HB; intro HB BK101 GW101 GE101; clear hb hbox hg; obtain ⟨hcz29_0, hcz29_1, hcz29_2, hcz29_3, hcz29_4, hfz29_0, hfz29_1, hfz29_2, hfz29_3, hfz29_4⟩ := bx5 BK101.out) | ((with_reducible refine gtC (f := 33) rfl ?_); refine goesL_ (some 10) rfl rfl Try.func33 (by kernel_rfl) rfl #[.agg #[.slice A0_0 l0_0.length c0_0, .int .i64 a0_1, .int .i64 a0_2, .int .i64 a0_3, .slice A0_4 l0_4.length c0_4]] rfl zM ?_; (with_reducible refine (impl_isGraph.calls k _ _ l0_0 a0_1 a0_2 a0_3 _ _ l0_4 false _ ?side1 ?side2 ?side3 ?side4 A2.out).mono ?_); (case side1 => exact zC HR0_0.out); (case side2 => exact HC0_0.out); (case side3 => exact zC HR0_4.out); (case side4 => exact HC0_4.out); rintro e w30 ⟨rfl, hb⟩; refine ⟨_, rfl, ?_⟩; have n0_ := Zs0.mk (bkB (zG BK101.out) hb); have n1_ := Zs0.mk (blT zB hb); revert n0_ n1_; clear BK101 HB; intro BK101 HB; (try clear hb); (try clear hb2); (try clear hk); (try clear hi)))
  go_ret
  exact ⟨_, zr, by first | exact Kd.S_nil _ _ _ _ _ | exact Kd.N_nil _ _ _ _ _ | exact Kd.V_nil _ _ _ _ _ | exact Kd.Q_nil _ _ _ _ _ | exact Kd.R_nil _ _ _ _ _, zB⟩

end Go.Proofs.Ytcbpbnkoolpibaa.P
namespace Go.Proofs.Ytcbpbnkoolpibaa.Gr
open Go.RowKit Go.Proofs.Ytcbpbnkoolpibaa.P Go.Proofs.YtcbpbnkoolpibaaW.PrintWords Go.Proofs.YtcbpbnkoolpibaaW.PrintLast Go.Proofs.YtcbpbnkoolpibaaW.PrintMore Go.Proofs.Ytcbpbnkoolpibaa.Aux
set_option linter.unusedVariables false
set_option linter.unusedSimpArgs false
/-- The slots of a set, below c. -/
def onTo (X : List Bool) : Nat → List Int
  | 0 => []
  | c + 1 => if gb X c = true then onTo X c ++ [(c : Int)] else onTo X c
theorem onTo_len (X : List Bool) : ∀ c, (onTo X c).length ≤ c
  | 0 => Nat.le_refl _
  | c + 1 => by
    have := onTo_len X c
    unfold onTo
    split
    · rw [List.length_append, List.length_singleton]
      omega
    · omega
def onsTo (M : List (List Bool)) : Nat → List (List Int)
  | 0 => []
  | i + 1 => onsTo M i ++ [onTo (row M i) (row M i).length]
theorem onsTo_len (M : List (List Bool)) : ∀ i, (onsTo M i).length = i
  | 0 => rfl
  | i + 1 => by rw [onsTo, List.length_append, onsTo_len M i, List.length_singleton]
theorem onsTo_mem (M : List (List Bool)) {n S : Nat} (hM : Shp n S M) : ∀ i, i ≤ n → ∀ x ∈ onsTo M i, x.length ≤ S
  | 0, _, x, hx => by cases hx
  | i + 1, hi, x, hx => by
    rw [onsTo, List.mem_append] at hx
    rcases hx with hx | hx
    · exact onsTo_mem M hM i (by omega) x hx
    · obtain rfl := List.mem_singleton.1 hx
      have h1 := onTo_len (row M i) (row M i).length
      have h2 : (row M i).length = S := hM.2 i (by omega)
      omega
theorem onsTo_sum (M : List (List Bool)) {n S : Nat} (hM : Shp n S M) : ∀ i, i ≤ n → ((onsTo M i).map List.length).sum ≤ i * S
  | 0, _ => by simp [onsTo]
  | i + 1, hi => by
    have h0 := onsTo_sum M hM i (by omega)
    have h1 := onTo_len (row M i) (row M i).length
    have h2 : (row M i).length = S := hM.2 i (by omega)
    rw [onsTo, List.map_append, List.sum_append, Nat.succ_mul]
    simp
    omega
theorem onI_l1 (x3 : List (List Int)) (h3 : x3.length ≤ 300) (M : List (List Bool)) (n i : Int) (X : List Bool) (hX : X.length ≤ 1000) (R : List (List Int)) (hend : Ev (fun k => impl_Live.l0 k (x3 ++ [onTo X X.length]) M n (wrap64 (i + 1))) R) (d : Nat) :
    ∀ c : Nat, c + d = X.length → Ev (fun k => impl_Live.l1 k x3 (onTo X c) M n i X (X.length : Int) (c : Int)) R := by
  induction d with
  | zero =>
    intro c hc
    obtain rfl : c = X.length := by omega
    exact Ev.step (fun k => by rw [impl_Live.l1, if_neg (by omega), if_pos (by omega)]) hend
  | succ d ih =>
    intro c hc
    have h1 := ih (c + 1) (by omega)
    have hl := onTo_len X c
    have p1 : (c : Int) < (X.length : Int) := by omega
    have p2 : 0 ≤ (c : Int) := by omega
    have p3 : (onTo X c).length < 17592186044416 := by omega
    have hw := Zs0.mk (show wrap64 ((c : Int) + 1) = ((c + 1 : Nat) : Int) by rw [wrap_ok (by omega) (by omega)]; omega)
    cases hg : gb X c with
    | true =>
      rw [onTo, if_pos hg] at h1
      exact Ev.step (fun k => by rw [impl_Live.l1, if_pos p1, if_pos p2, if_pos p1, rdOf_gb, hg, if_pos rfl, if_pos p3, hw.out]) h1
    | false =>
      rw [onTo, if_neg (by rw [hg]; simp)] at h1
      exact Ev.step (fun k => by rw [impl_Live.l1, if_pos p1, if_pos p2, if_pos p1, rdOf_gb, hg, if_neg (by simp), hw.out]) h1
theorem onI_l0 (M : List (List Bool)) {S : Nat} (hM : Shp M.length S M) (hS : S ≤ 1000) (hl : M.length ≤ 300) (d : Nat) : ∀ i : Nat, i + d = M.length → Ev (fun k => impl_Live.l0 k (onsTo M i) M (M.length : Int) (i : Int)) (onsTo M M.length) := by
  induction d with
  | zero =>
    intro i hi
    obtain rfl : i = M.length := by omega
    exact Ev.step (f := fun _ => some _) (fun k => by rw [impl_Live.l0, if_neg (by omega)]) (Ev.now _)
  | succ d ih =>
    intro i hi
    have h1 := ih (i + 1) (by omega)
    have hw := Zs0.mk (show wrap64 ((i : Int) + 1) = ((i + 1 : Nat) : Int) by rw [wrap_ok (by omega) (by omega)]; omega)
    have hr : (row M i).length = S := hM.2 i (by omega)
    rw [onsTo, ← hw.out] at h1
    have h2 := onI_l1 (onsTo M i) (by rw [onsTo_len]; omega) M (M.length : Int) (i : Int) (row M i) (by omega) _ h1 (row M i).length 0 (by omega)
    exact Ev.step (fun k => by rw [impl_Live.l0, if_pos (by omega), if_pos (by omega), if_pos (by omega), rdL_row, Int.toNat_natCast]; rfl) h2
theorem onS_l1 (zs : List Int) (p v s : Int) (bs : List S47) (x3 : List (List Int)) (h3 : x3.length ≤ 300) (M : List (List Bool)) (i : Nat) (hi : i < M.length) (hs : s = ((row M i).length : Int)) (hX : (row M i).length ≤ 1000) (R : List (List Int)) (hend : Ev (fun k => spec_Live.l0 k (x3 ++ [onTo (row M i) (row M i).length]) M (wrap64 ((i : Int) + 1)) zs p v s bs) R) (d : Nat) :
    ∀ c : Nat, c + d = (row M i).length → Ev (fun k => spec_Live.l1 k x3 M (i : Int) (onTo (row M i) c) (c : Int) zs p v s bs) R := by
  induction d with
  | zero =>
    intro c hc
    obtain rfl : c = (row M i).length := by omega
    exact Ev.step (fun k => by rw [spec_Live.l1, if_neg (by omega), if_pos (by omega)]) hend
  | succ d ih =>
    intro c hc
    have h1 := ih (c + 1) (by omega)
    have hl := onTo_len (row M i) c
    have p0 : (c : Int) < s := by omega
    have p1 : (c : Int) < ((row M i).length : Int) := by omega
    have p2 : 0 ≤ (c : Int) := by omega
    have p3 : (onTo (row M i) c).length < 17592186044416 := by omega
    have p4 : 0 ≤ (i : Int) := by omega
    have p5 : (i : Int) < (M.length : Int) := by omega
    have hw := Zs0.mk (show wrap64 ((c : Int) + 1) = ((c + 1 : Nat) : Int) by rw [wrap_ok (by omega) (by omega)]; omega)
    have hr : rd_L13 M (i : Int) = row M i := by rw [rdL_row, Int.toNat_natCast]
    cases hg : gb (row M i) c with
    | true =>
      rw [onTo, if_pos hg] at h1
      exact Ev.step (fun k => by rw [spec_Live.l1, if_pos p0, if_pos p4, if_pos p5, if_pos p2, hr, if_pos p1, rdOf_gb, hg, if_pos rfl, if_pos p3, hw.out]) h1
    | false =>
      rw [onTo, if_neg (by rw [hg]; simp)] at h1
      exact Ev.step (fun k => by rw [spec_Live.l1, if_pos p0, if_pos p4, if_pos p5, if_pos p2, hr, if_pos p1, rdOf_gb, hg, if_neg (by simp), hw.out]) h1
theorem onS_l0 (zs : List Int) (p v s : Int) (bs : List S47) (M : List (List Bool)) {S : Nat} (hM : Shp M.length S M) (hs : s = (S : Int)) (hS : S ≤ 1000) (hl : M.length ≤ 300) (d : Nat) : ∀ i : Nat, i + d = M.length → Ev (fun k => spec_Live.l0 k (onsTo M i) M (i : Int) zs p v s bs) (onsTo M M.length) := by
  induction d with
  | zero =>
    intro i hi
    obtain rfl : i = M.length := by omega
    exact Ev.step (f := fun _ => some _) (fun k => by rw [spec_Live.l0, if_neg (by omega)]) (Ev.now _)
  | succ d ih =>
    intro i hi
    have h1 := ih (i + 1) (by omega)
    have hw := Zs0.mk (show wrap64 ((i : Int) + 1) = ((i + 1 : Nat) : Int) by rw [wrap_ok (by omega) (by omega)]; omega)
    have hr : (row M i).length = S := hM.2 i (by omega)
    rw [onsTo, ← hw.out] at h1
    have h2 := onS_l1 zs p v s bs (onsTo M i) (by rw [onsTo_len]; omega) M i (by omega) (by omega) (by omega) _ h1 (row M i).length 0 (by omega)
    exact Ev.step (fun k => by rw [spec_Live.l0, if_pos (by omega)]; rfl) h2
/-- Both sides tell the same slots. -/
theorem Live_same (zs : List Int) (p v s : Int) (bs : List S67) (h : Small zs bs) :
    ∃ L : List (List Int), L.length ≤ 300 ∧ (∀ x ∈ L, x.length ≤ 1000) ∧ (L.map List.length).sum ≤ 300000 ∧ Ev (fun k => spec_Live.f k zs p v s (bs.map convB)) L ∧ Ev (fun k => impl_Live.f k zs p v s (bs.map convB)) L := by
  have hb : (bs.map convB).length ≤ 1048576 := by rw [List.length_map]; exact h.blocks
  have hS := Ok.GraphOk_ev zs p v s (bs.map convB) hb h.sizes h.stepsI
  have hI := Ok.isGraph_ev zs p v s (bs.map convB) hb h.stepsI
  generalize bs.map convB = B at hS hI hb ⊢
  cases hG : Ok.okG zs p v s B with
  | false =>
    rw [hG] at hS hI
    refine ⟨[], by simp, by simp, by simp, ?_, ?_⟩
    · exact Ev.const rfl (Ev.bind hS (Ev.ite_neg (by simp) (Ev.now _)))
    · exact Ev.bind hI (Ev.ite_neg (by simp) (Ev.now _))
  | true =>
    rw [hG] at hS hI
    obtain ⟨⟨hs0, hs1⟩, ⟨hn0, hn1⟩, _⟩ := okG_blk hG
    obtain ⟨M, hM, g1, g2⟩ := live_same zs p v s B hG
    have hMl : M.length = B.length := hM.1
    have hM2 : Shp M.length s.toNat M := by rw [hMl]; exact hM
    have hsum := onsTo_sum M hM2 M.length (Nat.le_refl _)
    have hmul : M.length * s.toNat ≤ 300 * 1000 := Nat.mul_le_mul (by omega) (by omega)
    refine ⟨onsTo M M.length, by rw [onsTo_len]; omega, fun x hx => by have := onsTo_mem M hM2 M.length (Nat.le_refl _) x hx; omega, by omega, ?_, ?_⟩
    · exact Ev.const rfl (Ev.bind hS (Ev.ite_pos rfl (Ev.bind g2 (onS_l0 zs p v s B M hM2 (by omega) (by omega) (by omega) M.length 0 (by omega)))))
    · exact Ev.bind hI (Ev.ite_pos rfl (Ev.bind g1 (onI_l0 M hM2 (by omega) (by omega) M.length 0 (by omega))))
end Go.Proofs.Ytcbpbnkoolpibaa.Gr
