/- Functions of the program and of the reference as plain functions, and that the Go code comes to their answers; several texts in one. No conditions beyond what each theorem says. -/
import Derived.Test.YtcbpbnkoolpibaaMClean0a
import Derived.Test.YtcbpbnkoolpibaaMClean0c
set_option maxHeartbeats 8000000
set_option maxRecDepth 100000
set_option linter.unusedVariables false
set_option linter.unusedSimpArgs false
namespace Go.Proofs.Ytcbpbnkoolpibaa.P
open RowKit YtcbpbnkoolpibaaW.wA YtcbpbnkoolpibaaW.wB YtcbpbnkoolpibaaW.wC
attribute [local go_sem] max2_int min2_int max_two min_two max_three min_three max_four min_four

def laws_heldBlockS.l0 : Nat → List (S47) → Int → Int → Option (Int)
  | 0, _, _, _ => none
  | k + 1, x0, x1, x5 => if x5 < (x0.length : Int) then (if 0 ≤ x5 then ((laws_heldInstrS.f k ((r47 x0 x5).f0) x1).bind fun t102 => (if t102 < 0 then (none) else (if ((r47 x0 x5).f1) = t102 then (if ((r47 x0 x5).f2) = (wrap64 (t102 + 1)) then (if ((r47 x0 x5).f3) = (wrap64 ((wrap64 (t102 + 1)) + 1)) then (if ((r47 x0 x5).f4) = (wrap64 ((wrap64 ((wrap64 (t102 + 1)) + 1)) + 1)) then (laws_heldBlockS.l0 k x0 (wrap64 ((wrap64 ((wrap64 ((wrap64 (t102 + 1)) + 1)) + 1)) + 1)) (wrap64 (x5 + 1))) else (none)) else (none)) else (none)) else (none)))) else (none)) else (some x1)
def laws_heldBlockS.f (k : Nat) (l0 : List (S47)) (a1 : Int) : Option (Int) := laws_heldBlockS.l0 k l0 a1 0
theorem laws_heldBlockS.mono_l : ∀ k, (∀ y0 y1 y2, LeO (laws_heldBlockS.l0 k y0 y1 y2) (laws_heldBlockS.l0 (k + 1) y0 y1 y2))
  | 0 => fun _ _ _ r h => by simp [laws_heldBlockS.l0] at h
  | k + 1 => by
    have ih0 := laws_heldBlockS.mono_l k
    · intro y0 y1 y2
      unfold laws_heldBlockS.l0
      repeat' (first | (with_reducible first | exact ih0 _ _ _ | exact laws_heldInstrS.mono _ _ _ | exact LeO.refl _ | exact LeO.none _ | refine LeO.ite ?_ ?_ | refine LeO.bind ?_ (fun _ => ?_)) | exact ih0 _ _ _ | exact laws_heldInstrS.mono _ _ _ | exact LeO.none _ | refine LeO.ite ?_ ?_ | refine LeO.bind ?_ (fun _ => ?_))
theorem laws_heldBlockS.mono : ∀ a0 a1 k, LeO (laws_heldBlockS.f k a0 a1) (laws_heldBlockS.f (k + 1) a0 a1) := by
  intro a0 a1 k
  have ih0 := laws_heldBlockS.mono_l k
  unfold laws_heldBlockS.f
  repeat' (first | (with_reducible first | exact ih0 _ _ _ | exact laws_heldInstrS.mono _ _ _ | exact LeO.refl _ | exact LeO.none _ | refine LeO.ite ?_ ?_ | refine LeO.bind ?_ (fun _ => ?_)) | exact ih0 _ _ _ | exact laws_heldInstrS.mono _ _ _ | exact LeO.none _ | refine LeO.ite ?_ ?_ | refine LeO.bind ?_ (fun _ => ?_))
theorem laws_heldBlockS.calls (k : Nat) (A0 : Option Addr) (c0 : Nat) (l0 : List (S47)) (a1 : Int) (r : Int) (w : World) (hr0 : Kd.C k47 w A0 l0.length l0) (hc0 : l0.length ≤ c0) (h : laws_heldBlockS.f k l0 a1 = some r) :
  Calls Try.prog 40 #[.slice A0 l0.length c0, .int .i64 a1] w fun e w' => e = .returned (.int .i64 r) ∧ Below w.heap.size w w' := by
 have HR0 := Zs0.mk hr0
 have HC0 := Zs0.mk hc0
 clear hr0 hc0
 have HB := Zs0.mk (Below.refl w.heap.size w)
 have H : (laws_heldBlockS.l0 k l0 a1 0) = some r := h
 clear h
 have H' := Zs0.mk H
 clear H
 go_enter Try.func40, Try.ntmps40
 go_wp2
 go_loopg [1, 5] k (fun kq v1 v5 w' => ∃ (x1_1 : Int) (x5_1 : Int), v1 = .int .i64 x1_1 ∧ v5 = .int .i64 x5_1 ∧ Zs0 (laws_heldBlockS.l0 kq l0 x1_1 x5_1 = some r) ∧ Zs0 (kq ≤ k) ∧ Zs0 (Below w.heap.size w w'))
 case atStart => exact ⟨(a1), (0), zq, zq, H', ⟨Nat.le_refl _⟩, ⟨zB⟩⟩
 case round =>
  clear H'
  try clear p2
  obtain ⟨x1_1, x5_1, rfl, rfl, HA, HK1, HB⟩ := hrel
  cases gk with
  | zero => exact absurd HA.out (by simp [laws_heldBlockS.l0])
  | succ k1 =>
   have H := HA.out
   clear HA
   simp only [laws_heldBlockS.l0] at H
   by_cases c3 : x5_1 < (l0.length : Int)
   ·rw [if_pos c3] at H
    have c3b0 : decide (x5_1 < (l0.length : Int)) = true := decide_eq_true c3
    clear c3
    have c4 := ipos H
    rw [if_pos c4] at H
    have c4b0 := decide_eq_true c4
    clear c4
    replace H := Option.bind_eq_some_iff.mp H
    obtain ⟨t102, A50, H⟩ := H
    replace H : (if t102 < 0 then (none) else (if ((r47 l0 x5_1).f1) = t102 then (if ((r47 l0 x5_1).f2) = (wrap64 (t102 + 1)) then (if ((r47 l0 x5_1).f3) = (wrap64 ((wrap64 (t102 + 1)) + 1)) then (if ((r47 l0 x5_1).f4) = (wrap64 ((wrap64 ((wrap64 (t102 + 1)) + 1)) + 1)) then (laws_heldBlockS.l0 k1 l0 (wrap64 ((wrap64 ((wrap64 ((wrap64 (t102 + 1)) + 1)) + 1)) + 1)) (wrap64 (x5_1 + 1))) else (none)) else (none)) else (none)) else (none))) = some r := H
    have A5 := Zs0.mk A50
    clear A50
    by_cases c6 : t102 < 0
    ·rw [if_pos c6] at H
     exact absurd H (by simp)
    ·rw [if_neg c6] at H
     have c6b0 : decide (t102 < 0) = false := decide_eq_false c6
     clear c6
     have c7 := ipos H
     rw [if_pos c7] at H
     have c7b0 : (((r47 l0 x5_1).f1) == t102) = true := beq_iff_eq.mpr c7
     have c7b1 : (((r47 l0 x5_1).f1) != t102) = false := bne_eq_false_iff_eq.mpr c7
     clear c7
     have c8 := ipos H
     rw [if_pos c8] at H
     have c8b0 : (((r47 l0 x5_1).f2) == (wrap64 (t102 + 1))) = true := beq_iff_eq.mpr c8
     have c8b1 : (((r47 l0 x5_1).f2) != (wrap64 (t102 + 1))) = false := bne_eq_false_iff_eq.mpr c8
     clear c8
     have c9 := ipos H
     rw [if_pos c9] at H
     have c9b0 : (((r47 l0 x5_1).f3) == (wrap64 ((wrap64 (t102 + 1)) + 1))) = true := beq_iff_eq.mpr c9
     have c9b1 : (((r47 l0 x5_1).f3) != (wrap64 ((wrap64 (t102 + 1)) + 1))) = false := bne_eq_false_iff_eq.mpr c9
     clear c9
     have c10 := ipos H
     rw [if_pos c10] at H
     have c10b0 : (((r47 l0 x5_1).f4) == (wrap64 ((wrap64 ((wrap64 (t102 + 1)) + 1)) + 1))) = true := beq_iff_eq.mpr c10
     have c10b1 : (((r47 l0 x5_1).f4) != (wrap64 ((wrap64 ((wrap64 (t102 + 1)) + 1)) + 1))) = false := bne_eq_false_iff_eq.mpr c10
     clear c10
     have H' := Zs0.mk H
     clear H
     have p101 : 0 ≤ (x5_1 : Int) := zD
     have q101 : x5_1 < (l0.length : Int) := zD
     obtain ⟨ad101, A101_0, c101_0, e101, hx101_0, hx101_1, hx101_2, hx101_3, hx101_4, hl101_0, hi101_0⟩ := at_T47 HR0.out x5_1 p101 q101
     cases e101
     replace hx101_0 := zx HB.out hx101_0
     replace hx101_1 := zx HB.out hx101_1
     replace hx101_2 := zx HB.out hx101_2
     replace hx101_3 := zx HB.out hx101_3
     replace hx101_4 := zx HB.out hx101_4
     have HR101_0 := Zs0.mk hi101_0
     have HC101_0 := Zs0.mk hl101_0
     clear hi101_0 hl101_0
     replace p101 := eq_true p101
     replace q101 := eq_true q101
     go_wp2_with (first | ((with_reducible refine gtC (f := 61) rfl ?_); refine goesL_ (some 18) rfl rfl Try.func61 (by kernel_rfl) rfl #[.slice A101_0 ((r47 l0 x5_1).f0).length c101_0, .int .i64 x1_1] rfl zM ?_; (with_reducible refine (laws_heldInstrS.calls k1 _ _ ((r47 l0 x5_1).f0) x1_1 t102 _ ?side1 ?side2 A5.out).mono ?_); (case side1 => exact zC HR101_0.out); (case side2 => exact HC101_0.out); rintro e w11 ⟨rfl, hb⟩; refine ⟨_, rfl, ?_⟩; have n0_ := Zs0.mk (blT zB hb); revert n0_; clear HB; intro HB; (try clear hb); (try clear hb2); (try clear hk); (try clear hi); have p103 : 0 ≤ (x5_1 : Int) := zD; have q103 : x5_1 < (l0.length : Int) := zD; obtain ⟨ad103, A103_0, c103_0, e103, hx103_0, hx103_1, hx103_2, hx103_3, hx103_4, hl103_0, hi103_0⟩ := at_T47 HR0.out x5_1 p103 q103; obtain rfl : ad101 = ad103 := (by injection e103); replace hx103_0 := zx HB.out hx103_0; replace hx103_1 := zx HB.out hx103_1; replace hx103_2 := zx HB.out hx103_2; replace hx103_3 := zx HB.out hx103_3; replace hx103_4 := zx HB.out hx103_4; have HR103_0 := Zs0.mk hi103_0; have HC103_0 := Zs0.mk hl103_0; clear hi103_0 hl103_0; replace p103 := eq_true p103; replace q103 := eq_true q103; have p104 : 0 ≤ (x5_1 : Int) := zD; have q104 : x5_1 < (l0.length : Int) := zD; obtain ⟨ad104, A104_0, c104_0, e104, hx104_0, hx104_1, hx104_2, hx104_3, hx104_4, hl104_0, hi104_0⟩ := at_T47 HR0.out x5_1 p104 q104; obtain rfl : ad101 = ad104 := (by injection e104); replace hx104_0 := zx HB.out hx104_0; replace hx104_1 := zx HB.out hx104_1; replace hx104_2 := zx HB.out hx104_2; replace hx104_3 := zx HB.out hx104_3; replace hx104_4 := zx HB.out hx104_4; have HR104_0 := Zs0.mk hi104_0; have HC104_0 := Zs0.mk hl104_0; clear hi104_0 hl104_0; replace p104 := eq_true p104; replace q104 := eq_true q104; have ea_ := Option.some.inj (hx103_0.symm.trans hx104_0); injection ea_ with ea_ en_ ec_; subst ea_; subst ec_; clear en_; have p105 : 0 ≤ (x5_1 : Int) := zD; have q105 : x5_1 < (l0.length : Int) := zD; obtain ⟨ad105, A105_0, c105_0, e105, hx105_0, hx105_1, hx105_2, hx105_3, hx105_4, hl105_0, hi105_0⟩ := at_T47 HR0.out x5_1 p105 q105; obtain rfl : ad101 = ad105 := (by injection e105); replace hx105_0 := zx HB.out hx105_0; replace hx105_1 := zx HB.out hx105_1; replace hx105_2 := zx HB.out hx105_2; replace hx105_3 := zx HB.out hx105_3; replace hx105_4 := zx HB.out hx105_4; have HR105_0 := Zs0.mk hi105_0; have HC105_0 := Zs0.mk hl105_0; clear hi105_0 hl105_0; replace p105 := eq_true p105; replace q105 := eq_true q105; have ea_ := Option.some.inj (hx103_0.symm.trans hx105_0); injection ea_ with ea_ en_ ec_; subst ea_; subst ec_; clear en_; have p106 : 0 ≤ (x5_1 : Int) := zD; have q106 : x5_1 < (l0.length : Int) := zD; obtain ⟨ad106, A106_0, c106_0, e106, hx106_0, hx106_1, hx106_2, hx106_3, hx106_4, hl106_0, hi106_0⟩ := at_T47 HR0.out x5_1 p106 q106; obtain rfl : ad101 = ad106 := (by injection e106); replace hx106_0 := zx HB.out hx106_0; replace hx106_1 := zx HB.out hx106_1; replace hx106_2 := zx HB.out hx106_2; replace hx106_3 := zx HB.out hx106_3; replace hx106_4 := zx HB.out hx106_4; have HR106_0 := Zs0.mk hi106_0; have HC106_0 := Zs0.mk hl106_0; clear hi106_0 hl106_0; replace p106 := eq_true p106; replace q106 := eq_true q106; have ea_ := Option.some.inj (hx103_0.symm.trans hx106_0); injection ea_ with ea_ en_ ec_; subst ea_; subst ec_; clear en_))
     go_roundg k1
     case measure => have := HK1.out; omega
     case rel => exact ⟨(wrap64 ((wrap64 ((wrap64 ((wrap64 (t102 + 1)) + 1)) + 1)) + 1)), (wrap64 (x5_1 + 1)), zq, zq, H', ⟨by have := HK1.out; omega⟩, ⟨zB⟩⟩
   ·rw [if_neg c3] at H
    have c3b0 : decide (x5_1 < (l0.length : Int)) = false := decide_eq_false c3
    clear c3
    obtain rfl := Option.some.inj H
    go_wp2
    go_ret
    exact ⟨zr, zB⟩

attribute [local go_sem] max2_int min2_int max_two min_two max_three min_three max_four min_four

def laws_heldGraph.f (k : Nat) (l0_0 : List Int) (a0_1 : Int) (a0_2 : Int) (a0_3 : Int) (l0_4 : List (S47)) (a1 : Int) : Option (Int) := (laws_heldIntS.f k l0_0 a1).bind fun t102 => (if t102 < 0 then (none) else ((laws_heldBlockS.f k l0_4 t102).bind fun t103 => (if t103 < 0 then (none) else (some t103))))
theorem laws_heldGraph.mono : ∀ a0 a1 a2 a3 a4 a5 k, LeO (laws_heldGraph.f k a0 a1 a2 a3 a4 a5) (laws_heldGraph.f (k + 1) a0 a1 a2 a3 a4 a5) := by
  intro a0 a1 a2 a3 a4 a5 k
  unfold laws_heldGraph.f
  repeat' (first | (with_reducible first | exact laws_heldBlockS.mono _ _ _ | exact laws_heldIntS.mono _ _ _ | exact LeO.refl _ | exact LeO.none _ | refine LeO.ite ?_ ?_ | refine LeO.bind ?_ (fun _ => ?_)) | exact laws_heldBlockS.mono _ _ _ | exact laws_heldIntS.mono _ _ _ | exact LeO.none _ | refine LeO.ite ?_ ?_ | refine LeO.bind ?_ (fun _ => ?_))
theorem laws_heldGraph.calls (k : Nat) (A0_0 : Option Addr) (c0_0 : Nat) (l0_0 : List Int) (a0_1 : Int) (a0_2 : Int) (a0_3 : Int) (A0_4 : Option Addr) (c0_4 : Nat) (l0_4 : List (S47)) (a1 : Int) (r : Int) (w : World) (hr0_0 : Kd.C (Kd.int .i64) w A0_0 l0_0.length l0_0) (hc0_0 : l0_0.length ≤ c0_0) (hr0_4 : Kd.C k47 w A0_4 l0_4.length l0_4) (hc0_4 : l0_4.length ≤ c0_4) (h : laws_heldGraph.f k l0_0 a0_1 a0_2 a0_3 l0_4 a1 = some r) :
  Calls Try.prog 13 #[.agg #[.slice A0_0 l0_0.length c0_0, .int .i64 a0_1, .int .i64 a0_2, .int .i64 a0_3, .slice A0_4 l0_4.length c0_4], .int .i64 a1] w fun e w' => e = .returned (.int .i64 r) ∧ Below w.heap.size w w' := by
 have hu29 := Try.underlying29
 have HR0_0 := Zs0.mk hr0_0
 have HC0_0 := Zs0.mk hc0_0
 clear hr0_0 hc0_0
 have HR0_4 := Zs0.mk hr0_4
 have HC0_4 := Zs0.mk hc0_4
 clear hr0_4 hc0_4
 have HB := Zs0.mk (Below.refl w.heap.size w)
 have H : ((laws_heldIntS.f k l0_0 a1).bind fun t102 => (if t102 < 0 then (none) else ((laws_heldBlockS.f k l0_4 t102).bind fun t103 => (if t103 < 0 then (none) else (some t103))))) = some r := h
 clear h
 replace H := Option.bind_eq_some_iff.mp H
 obtain ⟨t102, A30, H⟩ := H
 replace H : (if t102 < 0 then (none) else ((laws_heldBlockS.f k l0_4 t102).bind fun t103 => (if t103 < 0 then (none) else (some t103)))) = some r := H
 have A3 := Zs0.mk A30
 clear A30
 by_cases c4 : t102 < 0
 ·rw [if_pos c4] at H
  exact absurd H (by simp)
 ·rw [if_neg c4] at H
  have c4b0 : decide (t102 < 0) = false := decide_eq_false c4
  clear c4
  replace H := Option.bind_eq_some_iff.mp H
  obtain ⟨t103, A50, H⟩ := H
  replace H : (if t103 < 0 then (none) else (some t103)) = some r := H
  have A5 := Zs0.mk A50
  clear A50
  by_cases c6 : t103 < 0
  ·rw [if_pos c6] at H
   exact absurd H (by simp)
  ·rw [if_neg c6] at H
   have c6b0 : decide (t103 < 0) = false := decide_eq_false c6
   clear c6
   obtain rfl := Option.some.inj H
   go_enter Try.func13, Try.ntmps13
   go_wp2_with (first | ((with_reducible refine gtD (N := 2) rfl ?_); refine bxE ?hg (N := 2) ?hd (cs := #[.slice A0_0 l0_0.length c0_0, .int .i64 a0_1, .int .i64 a0_2, .int .i64 a0_3, .slice A0_4 l0_4.length c0_4]) (t := 29) ?hr ?_; (case hd => rfl); (case hg => rfl); (case hr => first | (go_simp; done) | (go_simp; rfl)); intro gb101 hg w7 hbox hb; have n0_ := Zs0.mk (blT zB hb); have n1_ := Zs0.mk (hbox); have n2_ := Zs0.mk (zs hg : w.heap.size ≤ gb101); have n3_ := Zs0.mk (zs hg : w.heap.size ≤ gb101); revert n0_ n1_ n2_ n3_; clear HB; intro HB BK101 GW101 GE101; clear hb hbox hg; obtain ⟨hcz8_0, hcz8_1, hcz8_2, hcz8_3, hcz8_4, hfz8_0, hfz8_1, hfz8_2, hfz8_3, hfz8_4⟩ := bx5 BK101.out) | ((with_reducible refine gtC (f := 25) rfl ?_); refine goesL_ (some 8) rfl rfl Try.func25 (by kernel_rfl) rfl #[.slice A0_0 l0_0.length c0_0, .int .i64 a1] rfl zM ?_; (with_reducible refine (laws_heldIntS.calls k _ _ l0_0 a1 t102 _ ?side1 ?side2 A3.out).mono ?_); (case side1 => exact zC HR0_0.out); (case side2 => exact HC0_0.out); rintro e w' ⟨rfl, ⟨nd, rfl⟩⟩; refine ⟨_, rfl, ?_⟩) | ((with_reducible refine gtC (f := 40) rfl ?_); refine goesL_ (some 14) rfl rfl Try.func40 (by kernel_rfl) rfl #[.slice A0_4 l0_4.length c0_4, .int .i64 t102] rfl zM ?_; (with_reducible refine (laws_heldBlockS.calls k _ _ l0_4 t102 t103 _ ?side1 ?side2 A5.out).mono ?_); (case side1 => repeat (first | exact (Kd.cB1 HR0_4.out zB) | (with_reducible refine Kd.cA1 ?_ _) | (with_reducible refine Kd.cD1 ?_ _) | (with_reducible refine Kd.cD2 ?_))); (case side2 => exact HC0_4.out); rintro e w9 ⟨rfl, hb⟩; refine ⟨_, rfl, ?_⟩; have n0_ := Zs0.mk (bkB (zG BK101.out) hb); have n1_ := Zs0.mk (blT zB hb); revert n0_ n1_; clear BK101 HB; intro BK101 HB; (try clear hb); (try clear hb2); (try clear hk); (try clear hi)))
   go_ret
   exact ⟨zr, zB⟩

end Go.Proofs.Ytcbpbnkoolpibaa.P
namespace Go.Proofs.Ytcbpbnkoolpibaa.P
end Go.Proofs.Ytcbpbnkoolpibaa.P
