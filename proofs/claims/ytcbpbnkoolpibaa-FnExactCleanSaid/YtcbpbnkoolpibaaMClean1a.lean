/- Functions of the program and of the reference as plain functions, and that the Go code comes to their answers; several texts in one. No conditions beyond what each theorem says. -/
import Derived.Test.YtcbpbnkoolpibaaMClean0a
import Derived.Test.YtcbpbnkoolpibaaMClean0b
import Derived.Test.YtcbpbnkoolpibaaMCleanxF69
set_option maxHeartbeats 8000000
set_option maxRecDepth 100000
set_option linter.unusedVariables false
set_option linter.unusedSimpArgs false
namespace Go.Proofs.Ytcbpbnkoolpibaa.P
open RowKit YtcbpbnkoolpibaaW.wA YtcbpbnkoolpibaaW.wB YtcbpbnkoolpibaaW.wC
attribute [local go_sem] max2_int min2_int max_two min_two max_three min_three max_four min_four

def spec_l04BlockOk.l0 : Nat → Int → List Int → Int → Int → Int → List (S47) → List (S57) → Int → Int → Int → Int → Option (Bool)
  | 0, _, _, _, _, _, _, _, _, _, _, _ => none
  | k + 1, x5, x102000, x102001, x102002, x102003, x102004, x103000, x103001, x103002, x103003, x103004 => if x5 < (x103000.length : Int) then (if 0 ≤ x5 then ((spec_l04InstrOk.f k x102000 x102001 x102002 x102003 x102004 ((r57 x103000 x5).f0) ((r57 x103000 x5).f1) ((r57 x103000 x5).f2) ((r57 x103000 x5).f3) ((r57 x103000 x5).f4) ((r57 x103000 x5).f5) ((r57 x103000 x5).f6)).bind fun t104 => (if t104 = true then (spec_l04BlockOk.l0 k (wrap64 (x5 + 1)) x102000 x102001 x102002 x102003 x102004 x103000 x103001 x103002 x103003 x103004) else (some false))) else (none)) else ((spec_l01In.f x103003 0 (wrap64 ((x102004.length : Int) - 1))).bind fun t105 => ((spec_l01In.f x103002 0 (wrap64 (x102003 - 1))).bind fun t106 => (if x103001 = 0 then (if t105 = true then (if x103002 = 0 then (some (x103004 == 0)) else (some false)) else (some false)) else (if x103001 = 1 then (if t105 = true then (if t106 = true then ((spec_l01In.f x103004 0 (wrap64 ((x102004.length : Int) - 1))).bind fun t107 => (some t107)) else (some false)) else (some false)) else (if x103001 = 2 then (if t106 = true then (if x103003 = 0 then (some (x103004 == 0)) else (some false)) else (some false)) else (some false))))))
def spec_l04BlockOk.f (k : Nat) (l0_0 : List Int) (a0_1 : Int) (a0_2 : Int) (a0_3 : Int) (l0_4 : List (S47)) (l1_0 : List (S57)) (a1_1 : Int) (a1_2 : Int) (a1_3 : Int) (a1_4 : Int) : Option (Bool) := spec_l04BlockOk.l0 k 0 l0_0 a0_1 a0_2 a0_3 l0_4 l1_0 a1_1 a1_2 a1_3 a1_4
theorem spec_l04BlockOk.mono_l : ∀ k, (∀ y0 y1 y2 y3 y4 y5 y6 y7 y8 y9 y10, LeO (spec_l04BlockOk.l0 k y0 y1 y2 y3 y4 y5 y6 y7 y8 y9 y10) (spec_l04BlockOk.l0 (k + 1) y0 y1 y2 y3 y4 y5 y6 y7 y8 y9 y10))
  | 0 => fun _ _ _ _ _ _ _ _ _ _ _ r h => by simp [spec_l04BlockOk.l0] at h
  | k + 1 => by
    have ih0 := spec_l04BlockOk.mono_l k
    · intro y0 y1 y2 y3 y4 y5 y6 y7 y8 y9 y10
      unfold spec_l04BlockOk.l0
      repeat' (first | (with_reducible first | exact ih0 _ _ _ _ _ _ _ _ _ _ _ | exact spec_l04InstrOk.mono _ _ _ _ _ _ _ _ _ _ _ _ _ | exact LeO.refl _ | exact LeO.none _ | refine LeO.ite ?_ ?_ | refine LeO.bind ?_ (fun _ => ?_)) | exact ih0 _ _ _ _ _ _ _ _ _ _ _ | exact spec_l04InstrOk.mono _ _ _ _ _ _ _ _ _ _ _ _ _ | exact LeO.none _ | refine LeO.ite ?_ ?_ | refine LeO.bind ?_ (fun _ => ?_))
theorem spec_l04BlockOk.mono : ∀ a0 a1 a2 a3 a4 a5 a6 a7 a8 a9 k, LeO (spec_l04BlockOk.f k a0 a1 a2 a3 a4 a5 a6 a7 a8 a9) (spec_l04BlockOk.f (k + 1) a0 a1 a2 a3 a4 a5 a6 a7 a8 a9) := by
  intro a0 a1 a2 a3 a4 a5 a6 a7 a8 a9 k
  have ih0 := spec_l04BlockOk.mono_l k
  unfold spec_l04BlockOk.f
  repeat' (first | (with_reducible first | exact ih0 _ _ _ _ _ _ _ _ _ _ _ | exact spec_l04InstrOk.mono _ _ _ _ _ _ _ _ _ _ _ _ _ | exact LeO.refl _ | exact LeO.none _ | refine LeO.ite ?_ ?_ | refine LeO.bind ?_ (fun _ => ?_)) | exact ih0 _ _ _ _ _ _ _ _ _ _ _ | exact spec_l04InstrOk.mono _ _ _ _ _ _ _ _ _ _ _ _ _ | exact LeO.none _ | refine LeO.ite ?_ ?_ | refine LeO.bind ?_ (fun _ => ?_))
def spec_l04BlockOk.T4 : Bool × List (List Nat × List Nat) := (true, [([], []), ([], []), ([1], [1]), ([], []), ([2, 3], [2, 3]), ([4], [4]), ([0, 5], [0, 5]), ([6], [6])])
def spec_l04BlockOk.B4 : List Nat := [0, 0, 2, 0, 14, 30, 63, 127]
theorem spec_l04BlockOk.tab4 : rtab .any (opsOf Try.f50 4) = spec_l04BlockOk.T4 := by kernel_rfl
theorem spec_l04BlockOk.bits4 : waitsOk spec_l04BlockOk.T4.2 spec_l04BlockOk.B4 = true := by kernel_rfl
theorem spec_l04BlockOk.calls (k : Nat) (A0_0 : Option Addr) (c0_0 : Nat) (l0_0 : List Int) (a0_1 : Int) (a0_2 : Int) (a0_3 : Int) (A0_4 : Option Addr) (c0_4 : Nat) (l0_4 : List (S47)) (A1_0 : Option Addr) (c1_0 : Nat) (l1_0 : List (S57)) (a1_1 : Int) (a1_2 : Int) (a1_3 : Int) (a1_4 : Int) (r : Bool) (w : World) (hr0_0 : Kd.C (Kd.int .i64) w A0_0 l0_0.length l0_0) (hc0_0 : l0_0.length ≤ c0_0) (hr0_4 : Kd.C k47 w A0_4 l0_4.length l0_4) (hc0_4 : l0_4.length ≤ c0_4) (hr1_0 : Kd.C k57 w A1_0 l1_0.length l1_0) (hc1_0 : l1_0.length ≤ c1_0) (h : spec_l04BlockOk.f k l0_0 a0_1 a0_2 a0_3 l0_4 l1_0 a1_1 a1_2 a1_3 a1_4 = some r) :
  Calls Try.prog 50 #[.agg #[.slice A0_0 l0_0.length c0_0, .int .i64 a0_1, .int .i64 a0_2, .int .i64 a0_3, .slice A0_4 l0_4.length c0_4], .agg #[.slice A1_0 l1_0.length c1_0, .int .i64 a1_1, .int .i64 a1_2, .int .i64 a1_3, .int .i64 a1_4]] w fun e w' => e = .returned (.bool r) ∧ Below w.heap.size w w' := by
 have hu29 := Try.underlying29
 have hu47 := Try.underlying47
 have hu57 := Try.underlying57
 have HR0_0 := Zs0.mk hr0_0
 have HC0_0 := Zs0.mk hc0_0
 clear hr0_0 hc0_0
 have HR0_4 := Zs0.mk hr0_4
 have HC0_4 := Zs0.mk hc0_4
 clear hr0_4 hc0_4
 have HR1_0 := Zs0.mk hr1_0
 have HC1_0 := Zs0.mk hc1_0
 clear hr1_0 hc1_0
 have HB := Zs0.mk (Below.refl w.heap.size w)
 have H : (spec_l04BlockOk.l0 k 0 l0_0 a0_1 a0_2 a0_3 l0_4 l1_0 a1_1 a1_2 a1_3 a1_4) = some r := h
 clear h
 have H' := Zs0.mk H
 clear H
 go_enter Try.func50, Try.ntmps50
 go_wp2_with (first | ((with_reducible refine gtD (N := 2) rfl ?_); (try (refine gate_guard (by rfl) ?_; dsimp only)); refine bxE ?hg (N := 2) ?hd (cs := #[.slice A0_0 l0_0.length c0_0, .int .i64 a0_1, .int .i64 a0_2, .int .i64 a0_3, .slice A0_4 l0_4.length c0_4]) (t := 29) ?hr ?_; (case hd => rfl); (case hg => rfl); (case hr => first | (go_simp; done) | (go_simp; rfl)); intro gb101 hg w3 hbox hb; have n0_ := Zs0.mk (blT zB hb); have n1_ := Zs0.mk (hbox); have n2_ := Zs0.mk (zs hg : w.heap.size ≤ gb101); have n3_ := Zs0.mk (zs hg : w.heap.size ≤ gb101); revert n0_ n1_ n2_ n3_; clear HB; intro HB BK101 GW101 GE101; clear hb hbox hg) | ((with_reducible refine gtD (N := 3) rfl ?_); (try (refine gate_guard (by rfl) ?_; dsimp only)); refine bxE ?hg (N := 3) ?hd (cs := #[.slice A1_0 l1_0.length c1_0, .int .i64 a1_1, .int .i64 a1_2, .int .i64 a1_3, .int .i64 a1_4]) (t := 47) ?hr ?_; (case hd => rfl); (case hg => rfl); (case hr => first | (go_simp; done) | (go_simp; rfl)); intro gb102 hg w4 hbox hb; have n0_ := Zs0.mk (bkB (zG BK101.out) hb); have n1_ := Zs0.mk (blT zB hb); have n2_ := Zs0.mk (hbox); have n3_ := Zs0.mk (zs hg : w.heap.size ≤ gb102); have n4_ := Zs0.mk (zs hg : w.heap.size ≤ gb102); have n5_ := Zs0.mk ((by rw [hg]; exact Nat.ne_of_lt (blk_lt (zG BK101.out)) : gb101 ≠ gb102)); have n6_ := Zs0.mk ((by rw [hg]; exact Nat.ne_of_gt (blk_lt (zG BK101.out)) : gb102 ≠ gb101)); revert n0_ n1_ n2_ n3_ n4_ n5_ n6_; clear BK101 HB; intro BK101 HB BK102 GW102 GE102 NB101_102 NB102_101; clear hb hbox hg))
 go_loopg [5] k (fun kq v5 w' => ∃ (x5_1 : Int), v5 = .int .i64 x5_1 ∧ Zs0 (spec_l04BlockOk.l0 kq x5_1 l0_0 a0_1 a0_2 a0_3 l0_4 l1_0 a1_1 a1_2 a1_3 a1_4 = some r) ∧ Zs0 (kq ≤ k) ∧ Zs0 (w'.heap[gb101]? = some (.cells #[(.slice A0_0 l0_0.length c0_0), .int .i64 a0_1, .int .i64 a0_2, .int .i64 a0_3, (.slice A0_4 l0_4.length c0_4)] 29 (0, 0))) ∧ Zs0 (w'.heap[gb102]? = some (.cells #[(.slice A1_0 l1_0.length c1_0), .int .i64 a1_1, .int .i64 a1_2, .int .i64 a1_3, .int .i64 a1_4] 47 (0, 0))) ∧ Zs0 (Below w.heap.size w w'))
 case atStart => exact ⟨(0), zq, H', ⟨Nat.le_refl _⟩, ⟨zG BK101.out⟩, ⟨zG BK102.out⟩, ⟨zB⟩⟩
 case round =>
  clear H'
  try clear c1
  try clear p2
  obtain ⟨x5_1, rfl, HA, HK1, BK101, BK102, HB⟩ := hrel
  cases gk with
  | zero => exact absurd HA.out (by simp [spec_l04BlockOk.l0])
  | succ k1 =>
   have H := HA.out
   clear HA
   simp only [spec_l04BlockOk.l0] at H
   by_cases c5 : x5_1 < (l1_0.length : Int)
   ·rw [if_pos c5] at H
    have c5b0 : decide (x5_1 < (l1_0.length : Int)) = true := decide_eq_true c5
    clear c5
    have c6 := ipos H
    rw [if_pos c6] at H
    have c6b0 := decide_eq_true c6
    clear c6
    replace H := Option.bind_eq_some_iff.mp H
    obtain ⟨t104, A70, H⟩ := H
    replace H : (if t104 = true then (spec_l04BlockOk.l0 k1 (wrap64 (x5_1 + 1)) l0_0 a0_1 a0_2 a0_3 l0_4 l1_0 a1_1 a1_2 a1_3 a1_4) else (some false)) = some r := H
    have A7 := Zs0.mk A70
    clear A70
    by_cases c8 : t104 = true
    ·subst c8
     have H1 : (spec_l04BlockOk.l0 k1 (wrap64 (x5_1 + 1)) l0_0 a0_1 a0_2 a0_3 l0_4 l1_0 a1_1 a1_2 a1_3 a1_4) = some r := by rw [if_pos rfl] at H; exact H
     clear H
     have H := H1
     clear H1
     have H' := Zs0.mk H
     clear H
     have hnb9 := NB102_101.out
     have hnc9 := NB101_102.out
     obtain ⟨hcz10_0, hcz10_1, hcz10_2, hcz10_3, hcz10_4, hfz10_0, hfz10_1, hfz10_2, hfz10_3, hfz10_4⟩ := bx5 BK102.out
     try go_wp2
     have n0_ := Zs0.mk (bk1 BK101.out)
     have n1_ := Zs0.mk (bk1 BK102.out)
     have n2_ := Zs0.mk (bl1 HB.out)
     revert n0_ n1_ n2_; clear BK101 BK102 HB; intro BK101 BK102 HB
     have p103 : 0 ≤ (x5_1 : Int) := zD
     have q103 : x5_1 < (l1_0.length : Int) := zD
     obtain ⟨ad103, e103, hx103_0, hx103_1, hx103_2, hx103_3, hx103_4, hx103_5, hx103_6⟩ := at_T57 HR1_0.out x5_1 p103 q103
     have hw103_6 := hx103_6
     have hw103_5 := hx103_5
     have hw103_4 := hx103_4
     have hw103_3 := hx103_3
     have hw103_2 := hx103_2
     have hw103_1 := hx103_1
     have hw103_0 := hx103_0
     cases e103
     replace hx103_0 := zx HB.out hx103_0
     replace hx103_1 := zx HB.out hx103_1
     replace hx103_2 := zx HB.out hx103_2
     replace hx103_3 := zx HB.out hx103_3
     replace hx103_4 := zx HB.out hx103_4
     replace hx103_5 := zx HB.out hx103_5
     replace hx103_6 := zx HB.out hx103_6
     replace p103 := eq_true p103
     replace q103 := eq_true q103
     refine start_ (n := 8) (S := fun w' => w'.cell? ⟨gb101, 0, none⟩ = some (.slice A0_0 l0_0.length c0_0) ∧ w'.cell? ⟨gb101, 1, none⟩ = some (.int .i64 a0_1) ∧ w'.cell? ⟨gb101, 2, none⟩ = some (.int .i64 a0_2) ∧ w'.cell? ⟨gb101, 3, none⟩ = some (.int .i64 a0_3) ∧ w'.cell? ⟨gb101, 4, none⟩ = some (.slice A0_4 l0_4.length c0_4) ∧ w'.cell? ⟨gb102, 0, none⟩ = some (.slice (some ad103) l1_0.length c1_0) ∧ w'.cell? ⟨gb102, 1, none⟩ = some (.int .i64 a1_1) ∧ w'.cell? ⟨gb102, 2, none⟩ = some (.int .i64 a1_2) ∧ w'.cell? ⟨gb102, 3, none⟩ = some (.int .i64 a1_3) ∧ w'.cell? ⟨gb102, 4, none⟩ = some (.int .i64 a1_4) ∧ w'.cell? (ad103.add ((x5_1).toNat * 7)) = some (.int .i64 ((r57 l1_0 x5_1).f0)) ∧ w'.cell? ⟨(ad103.add ((x5_1).toNat * 7)).block, (ad103.add ((x5_1).toNat * 7)).off + 1, none⟩ = some (.int .i64 ((r57 l1_0 x5_1).f1)) ∧ w'.cell? ⟨(ad103.add ((x5_1).toNat * 7)).block, (ad103.add ((x5_1).toNat * 7)).off + 2, none⟩ = some (.int .i64 ((r57 l1_0 x5_1).f2)) ∧ w'.cell? ⟨(ad103.add ((x5_1).toNat * 7)).block, (ad103.add ((x5_1).toNat * 7)).off + 3, none⟩ = some (.int .i64 ((r57 l1_0 x5_1).f3)) ∧ w'.cell? ⟨(ad103.add ((x5_1).toNat * 7)).block, (ad103.add ((x5_1).toNat * 7)).off + 4, none⟩ = some (.int .i64 ((r57 l1_0 x5_1).f4)) ∧ w'.cell? ⟨(ad103.add ((x5_1).toNat * 7)).block, (ad103.add ((x5_1).toNat * 7)).off + 5, none⟩ = some (.int .i64 ((r57 l1_0 x5_1).f5)) ∧ w'.cell? ⟨(ad103.add ((x5_1).toNat * 7)).block, (ad103.add ((x5_1).toNat * 7)).off + 6, none⟩ = some (.string ((r57 l1_0 x5_1).f6))) (ds := []) #[false, false, false, false, false, false, false, false] (by kernel_rfl) rfl rfl ⟨(bkC BK101.out 0).trans rfl, (bkC BK101.out 1).trans rfl, (bkC BK101.out 2).trans rfl, (bkC BK101.out 3).trans rfl, (bkC BK101.out 4).trans rfl, (bkC BK102.out 0).trans rfl, (bkC BK102.out 1).trans rfl, (bkC BK102.out 2).trans rfl, (bkC BK102.out 3).trans rfl, (bkC BK102.out 4).trans rfl, (zx HB.out hw103_0), (zx HB.out hw103_1), (zx HB.out hw103_2), (zx HB.out hw103_3), (zx HB.out hw103_4), (zx HB.out hw103_5), (zx HB.out hw103_6)⟩ (fun hHeld => ?_); refine with_tabW spec_l04BlockOk.tab4 spec_l04BlockOk.bits4 (fun HT_ HW_ => ?_)
     generalize wr.drew = w11 at BK101 BK102 HB hx103_0 hx103_1 hx103_2 hx103_3 hx103_4 hx103_5 hx103_6 hHeld ⊢
     refine pure_ (i := 1) (N := some 16) (v := ?_) (a' := ?_) #[false, true, false, false, false, false, false, false] rfl rfl (any_of HT_.out (by kernel_rfl)) (fun _ _ _ h => h) (Or.inl ⟨by rfl, ?_⟩) ?_ ?_
     rotate_left
     ·intro w'
      go_simp
      with_reducible rfl
     rotate_left
     ·exact zp
     refine pure_ (i := 3) (N := some 18) (v := ?_) (a' := ?_) #[false, true, false, true, false, false, false, false] rfl rfl (any_of HT_.out (by kernel_rfl)) (fun _ _ _ h => h) (Or.inl ⟨by rfl, ?_⟩) ?_ ?_
     rotate_left
     ·intro w'
      go_simp
      with_reducible rfl
     rotate_left
     ·exact zp
     refine take_ (i := 0) (N := some 15) (v := ?_) (a' := ?_) #[true, true, false, true, false, false, false, false] rfl rfl (take_ofW HT_.out HW_.out (by kernel_rfl)) (fun _ _ _ h => h) (Or.inl ⟨by rfl, ?_⟩) hHeld ?_ ?_
     rotate_left
     ·rintro w' ⟨s0, s1, s2, s3, s4, s5, s6, s7, s8, s9, s10, s11, s12, s13, s14, s15, s16⟩
      go_simp
      with_reducible rfl
     rotate_left
     ·exact zp
     refine take_ (i := 2) (N := some 17) (v := ?_) (a' := ?_) #[true, true, true, true, false, false, false, false] rfl rfl (take_ofW HT_.out HW_.out (by kernel_rfl)) (fun _ _ _ h => h) (Or.inl ⟨by rfl, ?_⟩) hHeld ?_ ?_
     rotate_left
     ·rintro w' ⟨s0, s1, s2, s3, s4, s5, s6, s7, s8, s9, s10, s11, s12, s13, s14, s15, s16⟩
      go_simp
      with_reducible rfl
     rotate_left
     ·exact zp
     refine pure_ (i := 4) (N := some 19) (v := ?_) (a' := ?_) #[true, true, true, true, true, false, false, false] rfl rfl (any_of HT_.out (by kernel_rfl)) (fun _ _ _ h => h) (Or.inl ⟨by rfl, ?_⟩) ?_ ?_
     rotate_left
     ·intro w'
      go_simp
      with_reducible rfl
     rotate_left
     ·exact zp
     refine take_ (i := 5) (N := some 20) (v := ?_) (a' := ?_) #[true, true, true, true, true, true, false, false] rfl rfl (take_ofW HT_.out HW_.out (by kernel_rfl)) (fun _ _ _ h => h) (Or.inl ⟨by rfl, ?_⟩) hHeld ?_ ?_
     rotate_left
     ·rintro w' ⟨s0, s1, s2, s3, s4, s5, s6, s7, s8, s9, s10, s11, s12, s13, s14, s15, s16⟩
      go_simp
      with_reducible rfl
     rotate_left
     ·exact zp
     refine one_ (i := 6) (N := some 21) #[true, true, true, true, true, true, true, false] rfl rfl (one_of HT_.out (by kernel_rfl)) (by decide) (fun K hK => ?_)
     refine goes_ Try.func69 (by kernel_rfl) rfl #[.agg #[.slice A0_0 l0_0.length c0_0, .int .i64 a0_1, .int .i64 a0_2, .int .i64 a0_3, .slice A0_4 l0_4.length c0_4], .agg #[.int .i64 ((r57 l1_0 x5_1).f0), .int .i64 ((r57 l1_0 x5_1).f1), .int .i64 ((r57 l1_0 x5_1).f2), .int .i64 ((r57 l1_0 x5_1).f3), .int .i64 ((r57 l1_0 x5_1).f4), .int .i64 ((r57 l1_0 x5_1).f5), .string ((r57 l1_0 x5_1).f6)]] (by rfl) rfl rfl zM ?_
     with_reducible refine (spec_l04InstrOk.calls k1 _ _ l0_0 a0_1 a0_2 a0_3 _ _ l0_4 ((r57 l1_0 x5_1).f0) ((r57 l1_0 x5_1).f1) ((r57 l1_0 x5_1).f2) ((r57 l1_0 x5_1).f3) ((r57 l1_0 x5_1).f4) ((r57 l1_0 x5_1).f5) ((r57 l1_0 x5_1).f6) true _ ?side1 ?side2 ?side3 ?side4 A7.out).mono ?_
     (case side1 => exact zC HR0_0.out)
     (case side2 => exact HC0_0.out)
     (case side3 => exact zC HR0_4.out)
     (case side4 => exact HC0_4.out)
     rintro e w12 ⟨rfl, hb⟩
     refine ⟨_, rfl, ?_⟩
     have n0_ := Zs0.mk (bkB (zG BK101.out) hb)
     have n1_ := Zs0.mk (bkB (zG BK102.out) hb)
     have n2_ := Zs0.mk (blT zB hb)
     revert n0_ n1_ n2_; clear BK101 BK102 HB; intro BK101 BK102 HB
     (try clear hb)
     (try clear hb2)
     (try clear hk)
     (try clear hi)
     refine hK.out _ _ ⟨(bkC BK101.out 0).trans rfl, (bkC BK101.out 1).trans rfl, (bkC BK101.out 2).trans rfl, (bkC BK101.out 3).trans rfl, (bkC BK101.out 4).trans rfl, (bkC BK102.out 0).trans rfl, (bkC BK102.out 1).trans rfl, (bkC BK102.out 2).trans rfl, (bkC BK102.out 3).trans rfl, (bkC BK102.out 4).trans rfl, (zx HB.out hw103_0), (zx HB.out hw103_1), (zx HB.out hw103_2), (zx HB.out hw103_3), (zx HB.out hw103_4), (zx HB.out hw103_5), (zx HB.out hw103_6)⟩ (fun hHeld => ?_)
     clear hK K
     refine norm_ (a' := ?_) ?_ ?_
     rotate_left
     ·show Act.put _ (some 21) _ = _
      simp only [Act.put, List.setIfInBounds_toArray, List.set_cons_zero, List.set_cons_succ, i64_w, i32_w]
      rfl
     refine pure_ (i := 7) (N := some 22) (v := ?_) (a' := ?_) #[true, true, true, true, true, true, true, true] rfl rfl (any_of HT_.out (by kernel_rfl)) (fun _ _ _ h => h) (Or.inl ⟨by rfl, ?_⟩) ?_ ?_
     rotate_left
     ·intro w'
      go_simp
      with_reducible rfl
     rotate_left
     ·exact zp
     refine done_ (done_of HT_.out (by kernel_rfl)) ?_
     try go_wp2
     go_roundg k1
     case measure => have := HK1.out; omega
     case rel => exact ⟨(wrap64 (x5_1 + 1)), zq, H', ⟨by have := HK1.out; omega⟩, ⟨zG BK101.out⟩, ⟨zG BK102.out⟩, ⟨zB⟩⟩
    ·replace c8 := Bool.eq_false_iff.mpr c8
     subst c8
     have H1 : (some false) = some r := by rw [if_neg (show ¬ (false = true) by decide)] at H; exact H
     clear H
     have H := H1
     clear H1
     obtain rfl := Option.some.inj H
     have hnb13 := NB102_101.out
     have hnc13 := NB101_102.out
     obtain ⟨hcz14_0, hcz14_1, hcz14_2, hcz14_3, hcz14_4, hfz14_0, hfz14_1, hfz14_2, hfz14_3, hfz14_4⟩ := bx5 BK102.out
     try go_wp2
     have n0_ := Zs0.mk (bk1 BK101.out)
     have n1_ := Zs0.mk (bk1 BK102.out)
     have n2_ := Zs0.mk (bl1 HB.out)
     revert n0_ n1_ n2_; clear BK101 BK102 HB; intro BK101 BK102 HB
     have p103 : 0 ≤ (x5_1 : Int) := zD
     have q103 : x5_1 < (l1_0.length : Int) := zD
     obtain ⟨ad103, e103, hx103_0, hx103_1, hx103_2, hx103_3, hx103_4, hx103_5, hx103_6⟩ := at_T57 HR1_0.out x5_1 p103 q103
     have hw103_6 := hx103_6
     have hw103_5 := hx103_5
     have hw103_4 := hx103_4
     have hw103_3 := hx103_3
     have hw103_2 := hx103_2
     have hw103_1 := hx103_1
     have hw103_0 := hx103_0
     cases e103
     replace hx103_0 := zx HB.out hx103_0
     replace hx103_1 := zx HB.out hx103_1
     replace hx103_2 := zx HB.out hx103_2
     replace hx103_3 := zx HB.out hx103_3
     replace hx103_4 := zx HB.out hx103_4
     replace hx103_5 := zx HB.out hx103_5
     replace hx103_6 := zx HB.out hx103_6
     replace p103 := eq_true p103
     replace q103 := eq_true q103
     refine start_ (n := 8) (S := fun w' => w'.cell? ⟨gb101, 0, none⟩ = some (.slice A0_0 l0_0.length c0_0) ∧ w'.cell? ⟨gb101, 1, none⟩ = some (.int .i64 a0_1) ∧ w'.cell? ⟨gb101, 2, none⟩ = some (.int .i64 a0_2) ∧ w'.cell? ⟨gb101, 3, none⟩ = some (.int .i64 a0_3) ∧ w'.cell? ⟨gb101, 4, none⟩ = some (.slice A0_4 l0_4.length c0_4) ∧ w'.cell? ⟨gb102, 0, none⟩ = some (.slice (some ad103) l1_0.length c1_0) ∧ w'.cell? ⟨gb102, 1, none⟩ = some (.int .i64 a1_1) ∧ w'.cell? ⟨gb102, 2, none⟩ = some (.int .i64 a1_2) ∧ w'.cell? ⟨gb102, 3, none⟩ = some (.int .i64 a1_3) ∧ w'.cell? ⟨gb102, 4, none⟩ = some (.int .i64 a1_4) ∧ w'.cell? (ad103.add ((x5_1).toNat * 7)) = some (.int .i64 ((r57 l1_0 x5_1).f0)) ∧ w'.cell? ⟨(ad103.add ((x5_1).toNat * 7)).block, (ad103.add ((x5_1).toNat * 7)).off + 1, none⟩ = some (.int .i64 ((r57 l1_0 x5_1).f1)) ∧ w'.cell? ⟨(ad103.add ((x5_1).toNat * 7)).block, (ad103.add ((x5_1).toNat * 7)).off + 2, none⟩ = some (.int .i64 ((r57 l1_0 x5_1).f2)) ∧ w'.cell? ⟨(ad103.add ((x5_1).toNat * 7)).block, (ad103.add ((x5_1).toNat * 7)).off + 3, none⟩ = some (.int .i64 ((r57 l1_0 x5_1).f3)) ∧ w'.cell? ⟨(ad103.add ((x5_1).toNat * 7)).block, (ad103.add ((x5_1).toNat * 7)).off + 4, none⟩ = some (.int .i64 ((r57 l1_0 x5_1).f4)) ∧ w'.cell? ⟨(ad103.add ((x5_1).toNat * 7)).block, (ad103.add ((x5_1).toNat * 7)).off + 5, none⟩ = some (.int .i64 ((r57 l1_0 x5_1).f5)) ∧ w'.cell? ⟨(ad103.add ((x5_1).toNat * 7)).block, (ad103.add ((x5_1).toNat * 7)).off + 6, none⟩ = some (.string ((r57 l1_0 x5_1).f6))) (ds := []) #[false, false, false, false, false, false, false, false] (by kernel_rfl) rfl rfl ⟨(bkC BK101.out 0).trans rfl, (bkC BK101.out 1).trans rfl, (bkC BK101.out 2).trans rfl, (bkC BK101.out 3).trans rfl, (bkC BK101.out 4).trans rfl, (bkC BK102.out 0).trans rfl, (bkC BK102.out 1).trans rfl, (bkC BK102.out 2).trans rfl, (bkC BK102.out 3).trans rfl, (bkC BK102.out 4).trans rfl, (zx HB.out hw103_0), (zx HB.out hw103_1), (zx HB.out hw103_2), (zx HB.out hw103_3), (zx HB.out hw103_4), (zx HB.out hw103_5), (zx HB.out hw103_6)⟩ (fun hHeld => ?_); refine with_tabW spec_l04BlockOk.tab4 spec_l04BlockOk.bits4 (fun HT_ HW_ => ?_)
     generalize wr.drew = w15 at BK101 BK102 HB hx103_0 hx103_1 hx103_2 hx103_3 hx103_4 hx103_5 hx103_6 hHeld ⊢
     refine pure_ (i := 1) (N := some 16) (v := ?_) (a' := ?_) #[false, true, false, false, false, false, false, false] rfl rfl (any_of HT_.out (by kernel_rfl)) (fun _ _ _ h => h) (Or.inl ⟨by rfl, ?_⟩) ?_ ?_
     rotate_left
     ·intro w'
      go_simp
      with_reducible rfl
     rotate_left
     ·exact zp
     refine pure_ (i := 3) (N := some 18) (v := ?_) (a' := ?_) #[false, true, false, true, false, false, false, false] rfl rfl (any_of HT_.out (by kernel_rfl)) (fun _ _ _ h => h) (Or.inl ⟨by rfl, ?_⟩) ?_ ?_
     rotate_left
     ·intro w'
      go_simp
      with_reducible rfl
     rotate_left
     ·exact zp
     refine take_ (i := 0) (N := some 15) (v := ?_) (a' := ?_) #[true, true, false, true, false, false, false, false] rfl rfl (take_ofW HT_.out HW_.out (by kernel_rfl)) (fun _ _ _ h => h) (Or.inl ⟨by rfl, ?_⟩) hHeld ?_ ?_
     rotate_left
     ·rintro w' ⟨s0, s1, s2, s3, s4, s5, s6, s7, s8, s9, s10, s11, s12, s13, s14, s15, s16⟩
      go_simp
      with_reducible rfl
     rotate_left
     ·exact zp
     refine take_ (i := 2) (N := some 17) (v := ?_) (a' := ?_) #[true, true, true, true, false, false, false, false] rfl rfl (take_ofW HT_.out HW_.out (by kernel_rfl)) (fun _ _ _ h => h) (Or.inl ⟨by rfl, ?_⟩) hHeld ?_ ?_
     rotate_left
     ·rintro w' ⟨s0, s1, s2, s3, s4, s5, s6, s7, s8, s9, s10, s11, s12, s13, s14, s15, s16⟩
      go_simp
      with_reducible rfl
     rotate_left
     ·exact zp
     refine pure_ (i := 4) (N := some 19) (v := ?_) (a' := ?_) #[true, true, true, true, true, false, false, false] rfl rfl (any_of HT_.out (by kernel_rfl)) (fun _ _ _ h => h) (Or.inl ⟨by rfl, ?_⟩) ?_ ?_
     rotate_left
     ·intro w'
      go_simp
      with_reducible rfl
     rotate_left
     ·exact zp
     refine take_ (i := 5) (N := some 20) (v := ?_) (a' := ?_) #[true, true, true, true, true, true, false, false] rfl rfl (take_ofW HT_.out HW_.out (by kernel_rfl)) (fun _ _ _ h => h) (Or.inl ⟨by rfl, ?_⟩) hHeld ?_ ?_
     rotate_left
     ·rintro w' ⟨s0, s1, s2, s3, s4, s5, s6, s7, s8, s9, s10, s11, s12, s13, s14, s15, s16⟩
      go_simp
      with_reducible rfl
     rotate_left
     ·exact zp
     refine one_ (i := 6) (N := some 21) #[true, true, true, true, true, true, true, false] rfl rfl (one_of HT_.out (by kernel_rfl)) (by decide) (fun K hK => ?_)
     refine goes_ Try.func69 (by kernel_rfl) rfl #[.agg #[.slice A0_0 l0_0.length c0_0, .int .i64 a0_1, .int .i64 a0_2, .int .i64 a0_3, .slice A0_4 l0_4.length c0_4], .agg #[.int .i64 ((r57 l1_0 x5_1).f0), .int .i64 ((r57 l1_0 x5_1).f1), .int .i64 ((r57 l1_0 x5_1).f2), .int .i64 ((r57 l1_0 x5_1).f3), .int .i64 ((r57 l1_0 x5_1).f4), .int .i64 ((r57 l1_0 x5_1).f5), .string ((r57 l1_0 x5_1).f6)]] (by rfl) rfl rfl zM ?_
     with_reducible refine (spec_l04InstrOk.calls k1 _ _ l0_0 a0_1 a0_2 a0_3 _ _ l0_4 ((r57 l1_0 x5_1).f0) ((r57 l1_0 x5_1).f1) ((r57 l1_0 x5_1).f2) ((r57 l1_0 x5_1).f3) ((r57 l1_0 x5_1).f4) ((r57 l1_0 x5_1).f5) ((r57 l1_0 x5_1).f6) false _ ?side1 ?side2 ?side3 ?side4 A7.out).mono ?_
     (case side1 => exact zC HR0_0.out)
     (case side2 => exact HC0_0.out)
     (case side3 => exact zC HR0_4.out)
     (case side4 => exact HC0_4.out)
     rintro e w16 ⟨rfl, hb⟩
     refine ⟨_, rfl, ?_⟩
     have n0_ := Zs0.mk (bkB (zG BK101.out) hb)
     have n1_ := Zs0.mk (bkB (zG BK102.out) hb)
     have n2_ := Zs0.mk (blT zB hb)
     revert n0_ n1_ n2_; clear BK101 BK102 HB; intro BK101 BK102 HB
     (try clear hb)
     (try clear hb2)
     (try clear hk)
     (try clear hi)
     refine hK.out _ _ ⟨(bkC BK101.out 0).trans rfl, (bkC BK101.out 1).trans rfl, (bkC BK101.out 2).trans rfl, (bkC BK101.out 3).trans rfl, (bkC BK101.out 4).trans rfl, (bkC BK102.out 0).trans rfl, (bkC BK102.out 1).trans rfl, (bkC BK102.out 2).trans rfl, (bkC BK102.out 3).trans rfl, (bkC BK102.out 4).trans rfl, (zx HB.out hw103_0), (zx HB.out hw103_1), (zx HB.out hw103_2), (zx HB.out hw103_3), (zx HB.out hw103_4), (zx HB.out hw103_5), (zx HB.out hw103_6)⟩ (fun hHeld => ?_)
     clear hK K
     refine norm_ (a' := ?_) ?_ ?_
     rotate_left
     ·show Act.put _ (some 21) _ = _
      simp only [Act.put, List.setIfInBounds_toArray, List.set_cons_zero, List.set_cons_succ, i64_w, i32_w]
      rfl
     refine pure_ (i := 7) (N := some 22) (v := ?_) (a' := ?_) #[true, true, true, true, true, true, true, true] rfl rfl (any_of HT_.out (by kernel_rfl)) (fun _ _ _ h => h) (Or.inl ⟨by rfl, ?_⟩) ?_ ?_
     rotate_left
     ·intro w'
      go_simp
      with_reducible rfl
     rotate_left
     ·exact zp
     refine done_ (done_of HT_.out (by kernel_rfl)) ?_
     try go_wp2
     go_ret
     exact ⟨zr, zB⟩
   ·rw [if_neg c5] at H
    have c5b0 : decide (x5_1 < (l1_0.length : Int)) = false := decide_eq_false c5
    clear c5
    replace H := Option.bind_eq_some_iff.mp H
    obtain ⟨t105, A170, H⟩ := H
    replace H : ((spec_l01In.f a1_2 0 (wrap64 (a0_3 - 1))).bind fun t106 => (if a1_1 = 0 then (if t105 = true then (if a1_2 = 0 then (some (a1_4 == 0)) else (some false)) else (some false)) else (if a1_1 = 1 then (if t105 = true then (if t106 = true then ((spec_l01In.f a1_4 0 (wrap64 ((l0_4.length : Int) - 1))).bind fun t107 => (some t107)) else (some false)) else (some false)) else (if a1_1 = 2 then (if t106 = true then (if a1_3 = 0 then (some (a1_4 == 0)) else (some false)) else (some false)) else (some false))))) = some r := H
    have A17 := Zs0.mk A170
    clear A170
    replace H := Option.bind_eq_some_iff.mp H
    obtain ⟨t106, A180, H⟩ := H
    replace H : (if a1_1 = 0 then (if t105 = true then (if a1_2 = 0 then (some (a1_4 == 0)) else (some false)) else (some false)) else (if a1_1 = 1 then (if t105 = true then (if t106 = true then ((spec_l01In.f a1_4 0 (wrap64 ((l0_4.length : Int) - 1))).bind fun t107 => (some t107)) else (some false)) else (some false)) else (if a1_1 = 2 then (if t106 = true then (if a1_3 = 0 then (some (a1_4 == 0)) else (some false)) else (some false)) else (some false)))) = some r := H
    have A18 := Zs0.mk A180
    clear A180
    by_cases c19 : a1_1 = 0
    ·rw [if_pos c19] at H
     have c19b0 : (a1_1 == 0) = true := beq_iff_eq.mpr c19
     have c19b1 : (a1_1 != 0) = false := bne_eq_false_iff_eq.mpr c19
     clear c19
     by_cases c20 : t105 = true
     ·subst c20
      have H1 : (if a1_2 = 0 then (some (a1_4 == 0)) else (some false)) = some r := by rw [if_pos rfl] at H; exact H
      clear H
      have H := H1
      clear H1
      by_cases c21 : a1_2 = 0
      ·rw [if_pos c21] at H
       have c21b0 : (a1_2 == 0) = true := beq_iff_eq.mpr c21
       have c21b1 : (a1_2 != 0) = false := bne_eq_false_iff_eq.mpr c21
       clear c21
       obtain rfl := Option.some.inj H
       have hnb22 := NB102_101.out
       have hnc22 := NB101_102.out
       obtain ⟨hcz23_0, hcz23_1, hcz23_2, hcz23_3, hcz23_4, hfz23_0, hfz23_1, hfz23_2, hfz23_3, hfz23_4⟩ := bx5 BK102.out
       obtain ⟨hcz24_0, hcz24_1, hcz24_2, hcz24_3, hcz24_4, hfz24_0, hfz24_1, hfz24_2, hfz24_3, hfz24_4⟩ := bx5 BK101.out
       go_wp2_with (first | ((with_reducible refine gtC (f := 44) rfl ?_); refine goesL_ (some 29) rfl rfl Try.func44 (by kernel_rfl) rfl #[.int .i64 a1_3, .int .i64 0, .int .i64 (wrap64 ((l0_4.length : Int) - 1))] rfl zM ?_; (with_reducible refine (spec_l01In.calls a1_3 0 (wrap64 ((l0_4.length : Int) - 1)) true _ A17.out).mono ?_); rintro e w' ⟨rfl, ⟨nd, rfl⟩⟩; refine ⟨_, rfl, ?_⟩) | ((with_reducible refine gtC (f := 44) rfl ?_); refine goesL_ (some 35) rfl rfl Try.func44 (by kernel_rfl) rfl #[.int .i64 a1_2, .int .i64 0, .int .i64 (wrap64 (a0_3 - 1))] rfl zM ?_; (with_reducible refine (spec_l01In.calls a1_2 0 (wrap64 (a0_3 - 1)) t106 _ A18.out).mono ?_); rintro e w' ⟨rfl, ⟨nd, rfl⟩⟩; refine ⟨_, rfl, ?_⟩))
       go_ret
       exact ⟨zr, zB⟩
      ·rw [if_neg c21] at H
       have c21b0 : (a1_2 == 0) = false := beq_eq_false_iff_ne.mpr c21
       have c21b1 : (a1_2 != 0) = true := bne_iff_ne.mpr c21
       obtain rfl := Option.some.inj H
       have hnb25 := NB102_101.out
       have hnc25 := NB101_102.out
       obtain ⟨hcz26_0, hcz26_1, hcz26_2, hcz26_3, hcz26_4, hfz26_0, hfz26_1, hfz26_2, hfz26_3, hfz26_4⟩ := bx5 BK102.out
       obtain ⟨hcz27_0, hcz27_1, hcz27_2, hcz27_3, hcz27_4, hfz27_0, hfz27_1, hfz27_2, hfz27_3, hfz27_4⟩ := bx5 BK101.out
       go_wp2_with (first | ((with_reducible refine gtC (f := 44) rfl ?_); refine goesL_ (some 29) rfl rfl Try.func44 (by kernel_rfl) rfl #[.int .i64 a1_3, .int .i64 0, .int .i64 (wrap64 ((l0_4.length : Int) - 1))] rfl zM ?_; (with_reducible refine (spec_l01In.calls a1_3 0 (wrap64 ((l0_4.length : Int) - 1)) true _ A17.out).mono ?_); rintro e w' ⟨rfl, ⟨nd, rfl⟩⟩; refine ⟨_, rfl, ?_⟩) | ((with_reducible refine gtC (f := 44) rfl ?_); refine goesL_ (some 35) rfl rfl Try.func44 (by kernel_rfl) rfl #[.int .i64 a1_2, .int .i64 0, .int .i64 (wrap64 (a0_3 - 1))] rfl zM ?_; (with_reducible refine (spec_l01In.calls a1_2 0 (wrap64 (a0_3 - 1)) t106 _ A18.out).mono ?_); rintro e w' ⟨rfl, ⟨nd, rfl⟩⟩; refine ⟨_, rfl, ?_⟩))
       go_ret
       exact ⟨zr, zB⟩
     ·replace c20 := Bool.eq_false_iff.mpr c20
      subst c20
      have H1 : (some false) = some r := by rw [if_neg (show ¬ (false = true) by decide)] at H; exact H
      clear H
      have H := H1
      clear H1
      obtain rfl := Option.some.inj H
      have hnb28 := NB102_101.out
      have hnc28 := NB101_102.out
      obtain ⟨hcz29_0, hcz29_1, hcz29_2, hcz29_3, hcz29_4, hfz29_0, hfz29_1, hfz29_2, hfz29_3, hfz29_4⟩ := bx5 BK102.out
      obtain ⟨hcz30_0, hcz30_1, hcz30_2, hcz30_3, hcz30_4, hfz30_0, hfz30_1, hfz30_2, hfz30_3, hfz30_4⟩ := bx5 BK101.out
      go_wp2_with (first | ((with_reducible refine gtC (f := 44) rfl ?_); refine goesL_ (some 29) rfl rfl Try.func44 (by kernel_rfl) rfl #[.int .i64 a1_3, .int .i64 0, .int .i64 (wrap64 ((l0_4.length : Int) - 1))] rfl zM ?_; (with_reducible refine (spec_l01In.calls a1_3 0 (wrap64 ((l0_4.length : Int) - 1)) false _ A17.out).mono ?_); rintro e w' ⟨rfl, ⟨nd, rfl⟩⟩; refine ⟨_, rfl, ?_⟩) | ((with_reducible refine gtC (f := 44) rfl ?_); refine goesL_ (some 35) rfl rfl Try.func44 (by kernel_rfl) rfl #[.int .i64 a1_2, .int .i64 0, .int .i64 (wrap64 (a0_3 - 1))] rfl zM ?_; (with_reducible refine (spec_l01In.calls a1_2 0 (wrap64 (a0_3 - 1)) t106 _ A18.out).mono ?_); rintro e w' ⟨rfl, ⟨nd, rfl⟩⟩; refine ⟨_, rfl, ?_⟩))
      go_ret
      exact ⟨zr, zB⟩
    ·rw [if_neg c19] at H
     have c19b0 : (a1_1 == 0) = false := beq_eq_false_iff_ne.mpr c19
     have c19b1 : (a1_1 != 0) = true := bne_iff_ne.mpr c19
     by_cases c31 : a1_1 = 1
     ·rw [if_pos c31] at H
      have c31b0 : (a1_1 == 1) = true := beq_iff_eq.mpr c31
      have c31b1 : (a1_1 != 1) = false := bne_eq_false_iff_eq.mpr c31
      clear c31
      by_cases c32 : t105 = true
      ·subst c32
       have H1 : (if t106 = true then ((spec_l01In.f a1_4 0 (wrap64 ((l0_4.length : Int) - 1))).bind fun t107 => (some t107)) else (some false)) = some r := by rw [if_pos rfl] at H; exact H
       clear H
       have H := H1
       clear H1
       by_cases c33 : t106 = true
       ·subst c33
        have H1 : ((spec_l01In.f a1_4 0 (wrap64 ((l0_4.length : Int) - 1))).bind fun t107 => (some t107)) = some r := by rw [if_pos rfl] at H; exact H
        clear H
        have H := H1
        clear H1
        replace H := Option.bind_eq_some_iff.mp H
        obtain ⟨t107, A340, H⟩ := H
        replace H : (some t107) = some r := H
        have A34 := Zs0.mk A340
        clear A340
        obtain rfl := Option.some.inj H
        have hnb35 := NB102_101.out
        have hnc35 := NB101_102.out
        obtain ⟨hcz36_0, hcz36_1, hcz36_2, hcz36_3, hcz36_4, hfz36_0, hfz36_1, hfz36_2, hfz36_3, hfz36_4⟩ := bx5 BK102.out
        obtain ⟨hcz37_0, hcz37_1, hcz37_2, hcz37_3, hcz37_4, hfz37_0, hfz37_1, hfz37_2, hfz37_3, hfz37_4⟩ := bx5 BK101.out
        go_wp2_with (first | ((with_reducible refine gtC (f := 44) rfl ?_); refine goesL_ (some 29) rfl rfl Try.func44 (by kernel_rfl) rfl #[.int .i64 a1_3, .int .i64 0, .int .i64 (wrap64 ((l0_4.length : Int) - 1))] rfl zM ?_; (with_reducible refine (spec_l01In.calls a1_3 0 (wrap64 ((l0_4.length : Int) - 1)) true _ A17.out).mono ?_); rintro e w' ⟨rfl, ⟨nd, rfl⟩⟩; refine ⟨_, rfl, ?_⟩) | ((with_reducible refine gtC (f := 44) rfl ?_); refine goesL_ (some 35) rfl rfl Try.func44 (by kernel_rfl) rfl #[.int .i64 a1_2, .int .i64 0, .int .i64 (wrap64 (a0_3 - 1))] rfl zM ?_; (with_reducible refine (spec_l01In.calls a1_2 0 (wrap64 (a0_3 - 1)) true _ A18.out).mono ?_); rintro e w' ⟨rfl, ⟨nd, rfl⟩⟩; refine ⟨_, rfl, ?_⟩) | (go_at_call 44; (with_reducible refine (spec_l01In.calls a1_4 0 (wrap64 ((l0_4.length : Int) - 1)) t107 _ A34.out).mono ?_); rintro e w' ⟨rfl, ⟨nd, rfl⟩⟩))
        go_ret
        exact ⟨zr, zB⟩
       ·replace c33 := Bool.eq_false_iff.mpr c33
        subst c33
        have H1 : (some false) = some r := by rw [if_neg (show ¬ (false = true) by decide)] at H; exact H
        clear H
        have H := H1
        clear H1
        obtain rfl := Option.some.inj H
        have hnb38 := NB102_101.out
        have hnc38 := NB101_102.out
        obtain ⟨hcz39_0, hcz39_1, hcz39_2, hcz39_3, hcz39_4, hfz39_0, hfz39_1, hfz39_2, hfz39_3, hfz39_4⟩ := bx5 BK102.out
        obtain ⟨hcz40_0, hcz40_1, hcz40_2, hcz40_3, hcz40_4, hfz40_0, hfz40_1, hfz40_2, hfz40_3, hfz40_4⟩ := bx5 BK101.out
        go_wp2_with (first | ((with_reducible refine gtC (f := 44) rfl ?_); refine goesL_ (some 29) rfl rfl Try.func44 (by kernel_rfl) rfl #[.int .i64 a1_3, .int .i64 0, .int .i64 (wrap64 ((l0_4.length : Int) - 1))] rfl zM ?_; (with_reducible refine (spec_l01In.calls a1_3 0 (wrap64 ((l0_4.length : Int) - 1)) true _ A17.out).mono ?_); rintro e w' ⟨rfl, ⟨nd, rfl⟩⟩; refine ⟨_, rfl, ?_⟩) | ((with_reducible refine gtC (f := 44) rfl ?_); refine goesL_ (some 35) rfl rfl Try.func44 (by kernel_rfl) rfl #[.int .i64 a1_2, .int .i64 0, .int .i64 (wrap64 (a0_3 - 1))] rfl zM ?_; (with_reducible refine (spec_l01In.calls a1_2 0 (wrap64 (a0_3 - 1)) false _ A18.out).mono ?_); rintro e w' ⟨rfl, ⟨nd, rfl⟩⟩; refine ⟨_, rfl, ?_⟩))
        go_ret
        exact ⟨zr, zB⟩
      ·replace c32 := Bool.eq_false_iff.mpr c32
       subst c32
       have H1 : (some false) = some r := by rw [if_neg (show ¬ (false = true) by decide)] at H; exact H
       clear H
       have H := H1
       clear H1
       obtain rfl := Option.some.inj H
       have hnb41 := NB102_101.out
       have hnc41 := NB101_102.out
       obtain ⟨hcz42_0, hcz42_1, hcz42_2, hcz42_3, hcz42_4, hfz42_0, hfz42_1, hfz42_2, hfz42_3, hfz42_4⟩ := bx5 BK102.out
       obtain ⟨hcz43_0, hcz43_1, hcz43_2, hcz43_3, hcz43_4, hfz43_0, hfz43_1, hfz43_2, hfz43_3, hfz43_4⟩ := bx5 BK101.out
       go_wp2_with (first | ((with_reducible refine gtC (f := 44) rfl ?_); refine goesL_ (some 29) rfl rfl Try.func44 (by kernel_rfl) rfl #[.int .i64 a1_3, .int .i64 0, .int .i64 (wrap64 ((l0_4.length : Int) - 1))] rfl zM ?_; (with_reducible refine (spec_l01In.calls a1_3 0 (wrap64 ((l0_4.length : Int) - 1)) false _ A17.out).mono ?_); rintro e w' ⟨rfl, ⟨nd, rfl⟩⟩; refine ⟨_, rfl, ?_⟩) | ((with_reducible refine gtC (f := 44) rfl ?_); refine goesL_ (some 35) rfl rfl Try.func44 (by kernel_rfl) rfl #[.int .i64 a1_2, .int .i64 0, .int .i64 (wrap64 (a0_3 - 1))] rfl zM ?_; (with_reducible refine (spec_l01In.calls a1_2 0 (wrap64 (a0_3 - 1)) t106 _ A18.out).mono ?_); rintro e w' ⟨rfl, ⟨nd, rfl⟩⟩; refine ⟨_, rfl, ?_⟩))
       go_ret
       exact ⟨zr, zB⟩
     ·rw [if_neg c31] at H
      have c31b0 : (a1_1 == 1) = false := beq_eq_false_iff_ne.mpr c31
      have c31b1 : (a1_1 != 1) = true := bne_iff_ne.mpr c31
      by_cases c44 : a1_1 = 2
      ·rw [if_pos c44] at H
       have c44b0 : (a1_1 == 2) = true := beq_iff_eq.mpr c44
       have c44b1 : (a1_1 != 2) = false := bne_eq_false_iff_eq.mpr c44
       clear c44
       by_cases c45 : t106 = true
       ·subst c45
        have H1 : (if a1_3 = 0 then (some (a1_4 == 0)) else (some false)) = some r := by rw [if_pos rfl] at H; exact H
        clear H
        have H := H1
        clear H1
        by_cases c46 : a1_3 = 0
        ·rw [if_pos c46] at H
         have c46b0 : (a1_3 == 0) = true := beq_iff_eq.mpr c46
         have c46b1 : (a1_3 != 0) = false := bne_eq_false_iff_eq.mpr c46
         clear c46
         obtain rfl := Option.some.inj H
         have hnb47 := NB102_101.out
         have hnc47 := NB101_102.out
         obtain ⟨hcz48_0, hcz48_1, hcz48_2, hcz48_3, hcz48_4, hfz48_0, hfz48_1, hfz48_2, hfz48_3, hfz48_4⟩ := bx5 BK102.out
         obtain ⟨hcz49_0, hcz49_1, hcz49_2, hcz49_3, hcz49_4, hfz49_0, hfz49_1, hfz49_2, hfz49_3, hfz49_4⟩ := bx5 BK101.out
         go_wp2_with (first | ((with_reducible refine gtC (f := 44) rfl ?_); refine goesL_ (some 29) rfl rfl Try.func44 (by kernel_rfl) rfl #[.int .i64 a1_3, .int .i64 0, .int .i64 (wrap64 ((l0_4.length : Int) - 1))] rfl zM ?_; (with_reducible refine (spec_l01In.calls a1_3 0 (wrap64 ((l0_4.length : Int) - 1)) t105 _ A17.out).mono ?_); rintro e w' ⟨rfl, ⟨nd, rfl⟩⟩; refine ⟨_, rfl, ?_⟩) | ((with_reducible refine gtC (f := 44) rfl ?_); refine goesL_ (some 35) rfl rfl Try.func44 (by kernel_rfl) rfl #[.int .i64 a1_2, .int .i64 0, .int .i64 (wrap64 (a0_3 - 1))] rfl zM ?_; (with_reducible refine (spec_l01In.calls a1_2 0 (wrap64 (a0_3 - 1)) true _ A18.out).mono ?_); rintro e w' ⟨rfl, ⟨nd, rfl⟩⟩; refine ⟨_, rfl, ?_⟩))
         go_ret
         exact ⟨zr, zB⟩
        ·rw [if_neg c46] at H
         have c46b0 : (a1_3 == 0) = false := beq_eq_false_iff_ne.mpr c46
         have c46b1 : (a1_3 != 0) = true := bne_iff_ne.mpr c46
         obtain rfl := Option.some.inj H
         have hnb50 := NB102_101.out
         have hnc50 := NB101_102.out
         obtain ⟨hcz51_0, hcz51_1, hcz51_2, hcz51_3, hcz51_4, hfz51_0, hfz51_1, hfz51_2, hfz51_3, hfz51_4⟩ := bx5 BK102.out
         obtain ⟨hcz52_0, hcz52_1, hcz52_2, hcz52_3, hcz52_4, hfz52_0, hfz52_1, hfz52_2, hfz52_3, hfz52_4⟩ := bx5 BK101.out
         go_wp2_with (first | ((with_reducible refine gtC (f := 44) rfl ?_); refine goesL_ (some 29) rfl rfl Try.func44 (by kernel_rfl) rfl #[.int .i64 a1_3, .int .i64 0, .int .i64 (wrap64 ((l0_4.length : Int) - 1))] rfl zM ?_; (with_reducible refine (spec_l01In.calls a1_3 0 (wrap64 ((l0_4.length : Int) - 1)) t105 _ A17.out).mono ?_); rintro e w' ⟨rfl, ⟨nd, rfl⟩⟩; refine ⟨_, rfl, ?_⟩) | ((with_reducible refine gtC (f := 44) rfl ?_); refine goesL_ (some 35) rfl rfl Try.func44 (by kernel_rfl) rfl #[.int .i64 a1_2, .int .i64 0, .int .i64 (wrap64 (a0_3 - 1))] rfl zM ?_; (with_reducible refine (spec_l01In.calls a1_2 0 (wrap64 (a0_3 - 1)) true _ A18.out).mono ?_); rintro e w' ⟨rfl, ⟨nd, rfl⟩⟩; refine ⟨_, rfl, ?_⟩))
         go_ret
         exact ⟨zr, zB⟩
       ·replace c45 := Bool.eq_false_iff.mpr c45
        subst c45
        have H1 : (some false) = some r := by rw [if_neg (show ¬ (false = true) by decide)] at H; exact H
        clear H
        have H := H1
        clear H1
        obtain rfl := Option.some.inj H
        have hnb53 := NB102_101.out
        have hnc53 := NB101_102.out
        obtain ⟨hcz54_0, hcz54_1, hcz54_2, hcz54_3, hcz54_4, hfz54_0, hfz54_1, hfz54_2, hfz54_3, hfz54_4⟩ := bx5 BK102.out
        obtain ⟨hcz55_0, hcz55_1, hcz55_2, hcz55_3, hcz55_4, hfz55_0, hfz55_1, hfz55_2, hfz55_3, hfz55_4⟩ := bx5 BK101.out
        go_wp2_with (first | ((with_reducible refine gtC (f := 44) rfl ?_); refine goesL_ (some 29) rfl rfl Try.func44 (by kernel_rfl) rfl #[.int .i64 a1_3, .int .i64 0, .int .i64 (wrap64 ((l0_4.length : Int) - 1))] rfl zM ?_; (with_reducible refine (spec_l01In.calls a1_3 0 (wrap64 ((l0_4.length : Int) - 1)) t105 _ A17.out).mono ?_); rintro e w' ⟨rfl, ⟨nd, rfl⟩⟩; refine ⟨_, rfl, ?_⟩) | ((with_reducible refine gtC (f := 44) rfl ?_); refine goesL_ (some 35) rfl rfl Try.func44 (by kernel_rfl) rfl #[.int .i64 a1_2, .int .i64 0, .int .i64 (wrap64 (a0_3 - 1))] rfl zM ?_; (with_reducible refine (spec_l01In.calls a1_2 0 (wrap64 (a0_3 - 1)) false _ A18.out).mono ?_); rintro e w' ⟨rfl, ⟨nd, rfl⟩⟩; refine ⟨_, rfl, ?_⟩))
        go_ret
        exact ⟨zr, zB⟩
      ·rw [if_neg c44] at H
       have c44b0 : (a1_1 == 2) = false := beq_eq_false_iff_ne.mpr c44
       have c44b1 : (a1_1 != 2) = true := bne_iff_ne.mpr c44
       obtain rfl := Option.some.inj H
       have hnb56 := NB102_101.out
       have hnc56 := NB101_102.out
       obtain ⟨hcz57_0, hcz57_1, hcz57_2, hcz57_3, hcz57_4, hfz57_0, hfz57_1, hfz57_2, hfz57_3, hfz57_4⟩ := bx5 BK102.out
       obtain ⟨hcz58_0, hcz58_1, hcz58_2, hcz58_3, hcz58_4, hfz58_0, hfz58_1, hfz58_2, hfz58_3, hfz58_4⟩ := bx5 BK101.out
       go_wp2_with (first | ((with_reducible refine gtC (f := 44) rfl ?_); refine goesL_ (some 29) rfl rfl Try.func44 (by kernel_rfl) rfl #[.int .i64 a1_3, .int .i64 0, .int .i64 (wrap64 ((l0_4.length : Int) - 1))] rfl zM ?_; (with_reducible refine (spec_l01In.calls a1_3 0 (wrap64 ((l0_4.length : Int) - 1)) t105 _ A17.out).mono ?_); rintro e w' ⟨rfl, ⟨nd, rfl⟩⟩; refine ⟨_, rfl, ?_⟩) | ((with_reducible refine gtC (f := 44) rfl ?_); refine goesL_ (some 35) rfl rfl Try.func44 (by kernel_rfl) rfl #[.int .i64 a1_2, .int .i64 0, .int .i64 (wrap64 (a0_3 - 1))] rfl zM ?_; (with_reducible refine (spec_l01In.calls a1_2 0 (wrap64 (a0_3 - 1)) t106 _ A18.out).mono ?_); rintro e w' ⟨rfl, ⟨nd, rfl⟩⟩; refine ⟨_, rfl, ?_⟩))
       go_ret
       exact ⟨zr, zB⟩

attribute [local go_sem] max2_int min2_int max_two min_two max_three min_three max_four min_four

mutual
def spec_GraphOk.l0 : Nat → Int → List Int → Int → Int → Int → List (S47) → Option (Bool)
  | 0, _, _, _, _, _, _ => none
  | k + 1, x3, x102000, x102001, x102002, x102003, x102004 => if x3 < (x102000.length : Int) then (if 0 ≤ x3 then ((spec_l01In.f (rd x102000 x3) 1 16).bind fun t103 => (if t103 = true then (spec_GraphOk.l0 k (wrap64 (x3 + 1)) x102000 x102001 x102002 x102003 x102004) else (some false))) else (none)) else ((spec_l01In.f (x102000.length : Int) 1 4).bind fun t104 => (if t104 = true then ((spec_l01In.f x102002 0 20).bind fun t105 => (if t105 = true then ((spec_l01In.f x102001 0 6).bind fun t106 => (if t106 = true then (if x102001 > x102002 then (spec_GraphOk.j1 k true x102000 x102001 x102002 x102003 x102004) else ((spec_l01In.f x102003 x102002 1000).bind fun t107 => (if t107 = true then ((spec_l01In.f (x102004.length : Int) 1 300).bind fun t108 => (spec_GraphOk.j1 k (!t108) x102000 x102001 x102002 x102003 x102004)) else (spec_GraphOk.j1 k true x102000 x102001 x102002 x102003 x102004)))) else (spec_GraphOk.j1 k true x102000 x102001 x102002 x102003 x102004))) else (spec_GraphOk.j1 k true x102000 x102001 x102002 x102003 x102004))) else (spec_GraphOk.j1 k true x102000 x102001 x102002 x102003 x102004)))
def spec_GraphOk.j1 : Nat → Bool → List Int → Int → Int → Int → List (S47) → Option (Bool)
  | 0, _, _, _, _, _, _ => none
  | k + 1, x58, x102000, x102001, x102002, x102003, x102004 => if x58 = true then (some false) else (spec_GraphOk.l1 k 0 0 x102000 x102001 x102002 x102003 x102004)
def spec_GraphOk.l1 : Nat → Int → Int → List Int → Int → Int → Int → List (S47) → Option (Bool)
  | 0, _, _, _, _, _, _, _ => none
  | k + 1, x4, x5, x102000, x102001, x102002, x102003, x102004 => if x5 < (x102004.length : Int) then (if 0 ≤ x5 then (if (wrap64 (x4 + (((r47 x102004 x5).f0).length : Int))) > 1000 then (some false) else ((spec_l04BlockOk.f k x102000 x102001 x102002 x102003 x102004 ((r47 x102004 x5).f0) ((r47 x102004 x5).f1) ((r47 x102004 x5).f2) ((r47 x102004 x5).f3) ((r47 x102004 x5).f4)).bind fun t111 => (if t111 = true then (spec_GraphOk.l1 k (wrap64 (x4 + (((r47 x102004 x5).f0).length : Int))) (wrap64 (x5 + 1)) x102000 x102001 x102002 x102003 x102004) else (some false)))) else (none)) else (some true)
end
def spec_GraphOk.f (k : Nat) (l0_0 : List Int) (a0_1 : Int) (a0_2 : Int) (a0_3 : Int) (l0_4 : List (S47)) : Option (Bool) := spec_GraphOk.l0 k 0 l0_0 a0_1 a0_2 a0_3 l0_4
theorem spec_GraphOk.mono_l : ∀ k, (∀ y0 y1 y2 y3 y4 y5, LeO (spec_GraphOk.l0 k y0 y1 y2 y3 y4 y5) (spec_GraphOk.l0 (k + 1) y0 y1 y2 y3 y4 y5)) ∧ (∀ y0 y1 y2 y3 y4 y5, LeO (spec_GraphOk.j1 k y0 y1 y2 y3 y4 y5) (spec_GraphOk.j1 (k + 1) y0 y1 y2 y3 y4 y5)) ∧ (∀ y0 y1 y2 y3 y4 y5 y6, LeO (spec_GraphOk.l1 k y0 y1 y2 y3 y4 y5 y6) (spec_GraphOk.l1 (k + 1) y0 y1 y2 y3 y4 y5 y6))
  | 0 => ⟨fun _ _ _ _ _ _ r h => by simp [spec_GraphOk.l0] at h, fun _ _ _ _ _ _ r h => by simp [spec_GraphOk.j1] at h, fun _ _ _ _ _ _ _ r h => by simp [spec_GraphOk.l1] at h⟩
  | k + 1 => by
    obtain ⟨ih0, ih1, ih2⟩ := spec_GraphOk.mono_l k
    refine ⟨?_, ?_, ?_⟩
    · intro y0 y1 y2 y3 y4 y5
      unfold spec_GraphOk.l0
      repeat' (first | (with_reducible first | exact ih0 _ _ _ _ _ _ | exact ih1 _ _ _ _ _ _ | exact ih2 _ _ _ _ _ _ _ | exact spec_l04BlockOk.mono _ _ _ _ _ _ _ _ _ _ _ | exact LeO.refl _ | exact LeO.none _ | refine LeO.ite ?_ ?_ | refine LeO.bind ?_ (fun _ => ?_)) | exact ih0 _ _ _ _ _ _ | exact ih1 _ _ _ _ _ _ | exact ih2 _ _ _ _ _ _ _ | exact spec_l04BlockOk.mono _ _ _ _ _ _ _ _ _ _ _ | exact LeO.none _ | refine LeO.ite ?_ ?_ | refine LeO.bind ?_ (fun _ => ?_))
    · intro y0 y1 y2 y3 y4 y5
      unfold spec_GraphOk.j1
      repeat' (first | (with_reducible first | exact ih0 _ _ _ _ _ _ | exact ih1 _ _ _ _ _ _ | exact ih2 _ _ _ _ _ _ _ | exact spec_l04BlockOk.mono _ _ _ _ _ _ _ _ _ _ _ | exact LeO.refl _ | exact LeO.none _ | refine LeO.ite ?_ ?_ | refine LeO.bind ?_ (fun _ => ?_)) | exact ih0 _ _ _ _ _ _ | exact ih1 _ _ _ _ _ _ | exact ih2 _ _ _ _ _ _ _ | exact spec_l04BlockOk.mono _ _ _ _ _ _ _ _ _ _ _ | exact LeO.none _ | refine LeO.ite ?_ ?_ | refine LeO.bind ?_ (fun _ => ?_))
    · intro y0 y1 y2 y3 y4 y5 y6
      unfold spec_GraphOk.l1
      repeat' (first | (with_reducible first | exact ih0 _ _ _ _ _ _ | exact ih1 _ _ _ _ _ _ | exact ih2 _ _ _ _ _ _ _ | exact spec_l04BlockOk.mono _ _ _ _ _ _ _ _ _ _ _ | exact LeO.refl _ | exact LeO.none _ | refine LeO.ite ?_ ?_ | refine LeO.bind ?_ (fun _ => ?_)) | exact ih0 _ _ _ _ _ _ | exact ih1 _ _ _ _ _ _ | exact ih2 _ _ _ _ _ _ _ | exact spec_l04BlockOk.mono _ _ _ _ _ _ _ _ _ _ _ | exact LeO.none _ | refine LeO.ite ?_ ?_ | refine LeO.bind ?_ (fun _ => ?_))
theorem spec_GraphOk.mono : ∀ a0 a1 a2 a3 a4 k, LeO (spec_GraphOk.f k a0 a1 a2 a3 a4) (spec_GraphOk.f (k + 1) a0 a1 a2 a3 a4) := by
  intro a0 a1 a2 a3 a4 k
  obtain ⟨ih0, ih1, ih2⟩ := spec_GraphOk.mono_l k
  unfold spec_GraphOk.f
  repeat' (first | (with_reducible first | exact ih0 _ _ _ _ _ _ | exact ih1 _ _ _ _ _ _ | exact ih2 _ _ _ _ _ _ _ | exact spec_l04BlockOk.mono _ _ _ _ _ _ _ _ _ _ _ | exact LeO.refl _ | exact LeO.none _ | refine LeO.ite ?_ ?_ | refine LeO.bind ?_ (fun _ => ?_)) | exact ih0 _ _ _ _ _ _ | exact ih1 _ _ _ _ _ _ | exact ih2 _ _ _ _ _ _ _ | exact spec_l04BlockOk.mono _ _ _ _ _ _ _ _ _ _ _ | exact LeO.none _ | refine LeO.ite ?_ ?_ | refine LeO.bind ?_ (fun _ => ?_))
def spec_GraphOk.T13 : Bool × List (List Nat × List Nat) := (true, [([], []), ([0], [0]), ([1], [1]), ([2], [2]), ([2], [2]), ([4, 2], [2, 4]), ([2], [2]), ([5, 6, 2], [2, 5, 6]), ([7, 2], [2, 7]), ([3, 8, 2, 2], [2, 3, 8]), ([9, 2], [2, 9]), ([2, 10], [2, 10])])
def spec_GraphOk.B13 : List Nat := [0, 1, 3, 7, 7, 23, 7, 119, 247, 511, 1023, 2047]
theorem spec_GraphOk.tab13 : rtab .any (opsOf Try.f29 13) = spec_GraphOk.T13 := by kernel_rfl
theorem spec_GraphOk.bits13 : waitsOk spec_GraphOk.T13.2 spec_GraphOk.B13 = true := by kernel_rfl
theorem spec_GraphOk.calls (k : Nat) (A0_0 : Option Addr) (c0_0 : Nat) (l0_0 : List Int) (a0_1 : Int) (a0_2 : Int) (a0_3 : Int) (A0_4 : Option Addr) (c0_4 : Nat) (l0_4 : List (S47)) (r : Bool) (w : World) (hr0_0 : Kd.C (Kd.int .i64) w A0_0 l0_0.length l0_0) (hc0_0 : l0_0.length ≤ c0_0) (hr0_4 : Kd.C k47 w A0_4 l0_4.length l0_4) (hc0_4 : l0_4.length ≤ c0_4) (h : spec_GraphOk.f k l0_0 a0_1 a0_2 a0_3 l0_4 = some r) :
  Calls Try.prog 29 #[.agg #[.slice A0_0 l0_0.length c0_0, .int .i64 a0_1, .int .i64 a0_2, .int .i64 a0_3, .slice A0_4 l0_4.length c0_4]] w fun e w' => e = .returned (.bool r) ∧ Below w.heap.size w w' := by
 have hu29 := Try.underlying29
 have hu47 := Try.underlying47
 have HR0_0 := Zs0.mk hr0_0
 have HC0_0 := Zs0.mk hc0_0
 clear hr0_0 hc0_0
 have HR0_4 := Zs0.mk hr0_4
 have HC0_4 := Zs0.mk hc0_4
 clear hr0_4 hc0_4
 have HB := Zs0.mk (Below.refl w.heap.size w)
 have H : (spec_GraphOk.l0 k 0 l0_0 a0_1 a0_2 a0_3 l0_4) = some r := h
 clear h
 have H' := Zs0.mk H
 clear H
 go_enter Try.func29, Try.ntmps29
 go_wp2_with (first | ((with_reducible refine gtD (N := 1) rfl ?_); (try (refine gate_guard (by rfl) ?_; dsimp only)); refine bxE ?hg (N := 1) ?hd (cs := #[.slice A0_0 l0_0.length c0_0, .int .i64 a0_1, .int .i64 a0_2, .int .i64 a0_3, .slice A0_4 l0_4.length c0_4]) (t := 29) ?hr ?_; (case hd => rfl); (case hg => rfl); (case hr => first | (go_simp; done) | (go_simp; rfl)); intro gb101 hg w2 hbox hb; have n0_ := Zs0.mk (blT zB hb); have n1_ := Zs0.mk (hbox); have n2_ := Zs0.mk (zs hg : w.heap.size ≤ gb101); have n3_ := Zs0.mk (zs hg : w.heap.size ≤ gb101); revert n0_ n1_ n2_ n3_; clear HB; intro HB BK101 GW101 GE101; clear hb hbox hg))
 go_loopg [3] k (fun kq v3 w' => ∃ (x3_1 : Int), v3 = .int .i64 x3_1 ∧ Zs0 (spec_GraphOk.l0 kq x3_1 l0_0 a0_1 a0_2 a0_3 l0_4 = some r) ∧ Zs0 (kq ≤ k) ∧ Zs0 (w'.heap[gb101]? = some (.cells #[(.slice A0_0 l0_0.length c0_0), .int .i64 a0_1, .int .i64 a0_2, .int .i64 a0_3, (.slice A0_4 l0_4.length c0_4)] 29 (0, 0))) ∧ Zs0 (Below w.heap.size w w'))
 case atStart => exact ⟨(0), zq, H', ⟨Nat.le_refl _⟩, ⟨zG BK101.out⟩, ⟨zB⟩⟩
 case round =>
  clear H'
  try clear c2
  try clear p2
  obtain ⟨x3_1, rfl, HA, HK1, BK101, HB⟩ := hrel
  cases gk with
  | zero => exact absurd HA.out (by simp [spec_GraphOk.l0])
  | succ k1 =>
   have H := HA.out
   clear HA
   simp only [spec_GraphOk.l0] at H
   by_cases c3 : x3_1 < (l0_0.length : Int)
   ·rw [if_pos c3] at H
    have c3b0 : decide (x3_1 < (l0_0.length : Int)) = true := decide_eq_true c3
    clear c3
    have c4 := ipos H
    rw [if_pos c4] at H
    have c4b0 := decide_eq_true c4
    clear c4
    replace H := Option.bind_eq_some_iff.mp H
    obtain ⟨t103, A50, H⟩ := H
    replace H : (if t103 = true then (spec_GraphOk.l0 k1 (wrap64 (x3_1 + 1)) l0_0 a0_1 a0_2 a0_3 l0_4) else (some false)) = some r := H
    have A5 := Zs0.mk A50
    clear A50
    by_cases c6 : t103 = true
    ·subst c6
     have H1 : (spec_GraphOk.l0 k1 (wrap64 (x3_1 + 1)) l0_0 a0_1 a0_2 a0_3 l0_4) = some r := by rw [if_pos rfl] at H; exact H
     clear H
     have H := H1
     clear H1
     have H' := Zs0.mk H
     clear H
     obtain ⟨hcz7_0, hcz7_1, hcz7_2, hcz7_3, hcz7_4, hfz7_0, hfz7_1, hfz7_2, hfz7_3, hfz7_4⟩ := bx5 BK101.out
     have p102 : 0 ≤ (x3_1 : Int) := zD
     have q102 : x3_1 < (l0_0.length : Int) := zD
     obtain ⟨ad102, e102, hx102_0⟩ := Kd.at_int HR0_0.out x3_1 p102 q102
     cases e102
     replace hx102_0 := zx HB.out hx102_0
     replace p102 := eq_true p102
     replace q102 := eq_true q102
     go_wp2_with (first | ((with_reducible refine gtC (f := 44) rfl ?_); refine goesL_ (some 18) rfl rfl Try.func44 (by kernel_rfl) rfl #[.int .i64 (rd l0_0 x3_1), .int .i64 1, .int .i64 16] rfl zM ?_; (with_reducible refine (spec_l01In.calls (rd l0_0 x3_1) 1 16 true _ A5.out).mono ?_); rintro e w' ⟨rfl, ⟨nd, rfl⟩⟩; refine ⟨_, rfl, ?_⟩))
     go_roundg k1
     case measure => have := HK1.out; omega
     case rel => exact ⟨(wrap64 (x3_1 + 1)), zq, H', ⟨by have := HK1.out; omega⟩, ⟨zG BK101.out⟩, ⟨zB⟩⟩
    ·replace c6 := Bool.eq_false_iff.mpr c6
     subst c6
     have H1 : (some false) = some r := by rw [if_neg (show ¬ (false = true) by decide)] at H; exact H
     clear H
     have H := H1
     clear H1
     obtain rfl := Option.some.inj H
     obtain ⟨hcz8_0, hcz8_1, hcz8_2, hcz8_3, hcz8_4, hfz8_0, hfz8_1, hfz8_2, hfz8_3, hfz8_4⟩ := bx5 BK101.out
     have p102 : 0 ≤ (x3_1 : Int) := zD
     have q102 : x3_1 < (l0_0.length : Int) := zD
     obtain ⟨ad102, e102, hx102_0⟩ := Kd.at_int HR0_0.out x3_1 p102 q102
     cases e102
     replace hx102_0 := zx HB.out hx102_0
     replace p102 := eq_true p102
     replace q102 := eq_true q102
     go_wp2_with (first | ((with_reducible refine gtC (f := 44) rfl ?_); refine goesL_ (some 18) rfl rfl Try.func44 (by kernel_rfl) rfl #[.int .i64 (rd l0_0 x3_1), .int .i64 1, .int .i64 16] rfl zM ?_; (with_reducible refine (spec_l01In.calls (rd l0_0 x3_1) 1 16 false _ A5.out).mono ?_); rintro e w' ⟨rfl, ⟨nd, rfl⟩⟩; refine ⟨_, rfl, ?_⟩))
     go_ret
     exact ⟨zr, zB⟩
   ·rw [if_neg c3] at H
    have c3b0 : decide (x3_1 < (l0_0.length : Int)) = false := decide_eq_false c3
    clear c3
    have HC9 := Zs0.mk H
    clear H
    obtain ⟨hcz10_0, hcz10_1, hcz10_2, hcz10_3, hcz10_4, hfz10_0, hfz10_1, hfz10_2, hfz10_3, hfz10_4⟩ := bx5 BK101.out
    go_upto_region 6 with (fail)
    go_cut [58] (fun v58 wc => ∃ (kq : Nat) (x58_8 : Bool), v58 = .bool x58_8 ∧ Zs0 (spec_GraphOk.j1 kq x58_8 l0_0 a0_1 a0_2 a0_3 l0_4 = some r) ∧ Zs0 (kq ≤ k1) ∧ Zs0 (wc.heap[gb101]? = some (.cells #[(.slice A0_0 l0_0.length c0_0), .int .i64 a0_1, .int .i64 a0_2, .int .i64 a0_3, (.slice A0_4 l0_4.length c0_4)] 29 (0, 0))) ∧ Zs0 (Below w.heap.size w wc))
    case first =>
     have H := HC9.out
     clear HC9
     replace H := Option.bind_eq_some_iff.mp H
     obtain ⟨t104, A110, H⟩ := H
     replace H : (if t104 = true then ((spec_l01In.f a0_2 0 20).bind fun t105 => (if t105 = true then ((spec_l01In.f a0_1 0 6).bind fun t106 => (if t106 = true then (if a0_1 > a0_2 then (spec_GraphOk.j1 k1 true l0_0 a0_1 a0_2 a0_3 l0_4) else ((spec_l01In.f a0_3 a0_2 1000).bind fun t107 => (if t107 = true then ((spec_l01In.f (l0_4.length : Int) 1 300).bind fun t108 => (spec_GraphOk.j1 k1 (!t108) l0_0 a0_1 a0_2 a0_3 l0_4)) else (spec_GraphOk.j1 k1 true l0_0 a0_1 a0_2 a0_3 l0_4)))) else (spec_GraphOk.j1 k1 true l0_0 a0_1 a0_2 a0_3 l0_4))) else (spec_GraphOk.j1 k1 true l0_0 a0_1 a0_2 a0_3 l0_4))) else (spec_GraphOk.j1 k1 true l0_0 a0_1 a0_2 a0_3 l0_4)) = some r := H
     have A11 := Zs0.mk A110
     clear A110
     by_cases c12 : t104 = true
     ·subst c12
      have H1 : ((spec_l01In.f a0_2 0 20).bind fun t105 => (if t105 = true then ((spec_l01In.f a0_1 0 6).bind fun t106 => (if t106 = true then (if a0_1 > a0_2 then (spec_GraphOk.j1 k1 true l0_0 a0_1 a0_2 a0_3 l0_4) else ((spec_l01In.f a0_3 a0_2 1000).bind fun t107 => (if t107 = true then ((spec_l01In.f (l0_4.length : Int) 1 300).bind fun t108 => (spec_GraphOk.j1 k1 (!t108) l0_0 a0_1 a0_2 a0_3 l0_4)) else (spec_GraphOk.j1 k1 true l0_0 a0_1 a0_2 a0_3 l0_4)))) else (spec_GraphOk.j1 k1 true l0_0 a0_1 a0_2 a0_3 l0_4))) else (spec_GraphOk.j1 k1 true l0_0 a0_1 a0_2 a0_3 l0_4))) = some r := by rw [if_pos rfl] at H; exact H
      clear H
      have H := H1
      clear H1
      replace H := Option.bind_eq_some_iff.mp H
      obtain ⟨t105, A130, H⟩ := H
      replace H : (if t105 = true then ((spec_l01In.f a0_1 0 6).bind fun t106 => (if t106 = true then (if a0_1 > a0_2 then (spec_GraphOk.j1 k1 true l0_0 a0_1 a0_2 a0_3 l0_4) else ((spec_l01In.f a0_3 a0_2 1000).bind fun t107 => (if t107 = true then ((spec_l01In.f (l0_4.length : Int) 1 300).bind fun t108 => (spec_GraphOk.j1 k1 (!t108) l0_0 a0_1 a0_2 a0_3 l0_4)) else (spec_GraphOk.j1 k1 true l0_0 a0_1 a0_2 a0_3 l0_4)))) else (spec_GraphOk.j1 k1 true l0_0 a0_1 a0_2 a0_3 l0_4))) else (spec_GraphOk.j1 k1 true l0_0 a0_1 a0_2 a0_3 l0_4)) = some r := H
      have A13 := Zs0.mk A130
      clear A130
      by_cases c14 : t105 = true
      ·subst c14
       have H1 : ((spec_l01In.f a0_1 0 6).bind fun t106 => (if t106 = true then (if a0_1 > a0_2 then (spec_GraphOk.j1 k1 true l0_0 a0_1 a0_2 a0_3 l0_4) else ((spec_l01In.f a0_3 a0_2 1000).bind fun t107 => (if t107 = true then ((spec_l01In.f (l0_4.length : Int) 1 300).bind fun t108 => (spec_GraphOk.j1 k1 (!t108) l0_0 a0_1 a0_2 a0_3 l0_4)) else (spec_GraphOk.j1 k1 true l0_0 a0_1 a0_2 a0_3 l0_4)))) else (spec_GraphOk.j1 k1 true l0_0 a0_1 a0_2 a0_3 l0_4))) = some r := by rw [if_pos rfl] at H; exact H
       clear H
       have H := H1
       clear H1
       replace H := Option.bind_eq_some_iff.mp H
       obtain ⟨t106, A150, H⟩ := H
       replace H : (if t106 = true then (if a0_1 > a0_2 then (spec_GraphOk.j1 k1 true l0_0 a0_1 a0_2 a0_3 l0_4) else ((spec_l01In.f a0_3 a0_2 1000).bind fun t107 => (if t107 = true then ((spec_l01In.f (l0_4.length : Int) 1 300).bind fun t108 => (spec_GraphOk.j1 k1 (!t108) l0_0 a0_1 a0_2 a0_3 l0_4)) else (spec_GraphOk.j1 k1 true l0_0 a0_1 a0_2 a0_3 l0_4)))) else (spec_GraphOk.j1 k1 true l0_0 a0_1 a0_2 a0_3 l0_4)) = some r := H
       have A15 := Zs0.mk A150
       clear A150
       by_cases c16 : t106 = true
       ·subst c16
        have H1 : (if a0_1 > a0_2 then (spec_GraphOk.j1 k1 true l0_0 a0_1 a0_2 a0_3 l0_4) else ((spec_l01In.f a0_3 a0_2 1000).bind fun t107 => (if t107 = true then ((spec_l01In.f (l0_4.length : Int) 1 300).bind fun t108 => (spec_GraphOk.j1 k1 (!t108) l0_0 a0_1 a0_2 a0_3 l0_4)) else (spec_GraphOk.j1 k1 true l0_0 a0_1 a0_2 a0_3 l0_4)))) = some r := by rw [if_pos rfl] at H; exact H
        clear H
        have H := H1
        clear H1
        by_cases c17 : a0_1 > a0_2
        ·rw [if_pos c17] at H
         have c17b0 : decide (a0_2 < a0_1) = true := decide_eq_true c17
         clear c17
         (first | rw [c17b0] | (simp only [i64_w, i32_w]; rw [c17b0]) | skip)
         have H' := Zs0.mk H
         clear H
         obtain ⟨hcz18_0, hcz18_1, hcz18_2, hcz18_3, hcz18_4, hfz18_0, hfz18_1, hfz18_2, hfz18_3, hfz18_4⟩ := bx5 BK101.out
         go_wp2_with (first | ((with_reducible refine gtC (f := 44) rfl ?_); refine goesL_ (some 23) rfl rfl Try.func44 (by kernel_rfl) rfl #[.int .i64 (l0_0.length : Int), .int .i64 1, .int .i64 4] rfl zM ?_; (with_reducible refine (spec_l01In.calls (l0_0.length : Int) 1 4 true _ A11.out).mono ?_); rintro e w' ⟨rfl, ⟨nd, rfl⟩⟩; refine ⟨_, rfl, ?_⟩) | (go_at_call 44; (with_reducible refine (spec_l01In.calls a0_2 0 20 true _ A13.out).mono ?_); rintro e w' ⟨rfl, ⟨nd, rfl⟩⟩) | (go_at_call 44; (with_reducible refine (spec_l01In.calls a0_1 0 6 true _ A15.out).mono ?_); rintro e w' ⟨rfl, ⟨nd, rfl⟩⟩))
         go_meet
         case rel => exact ⟨_, (true), zq, H', ⟨by have := HK1.out; first | omega | exact Nat.le_refl _⟩, ⟨zG BK101.out⟩, ⟨zB⟩⟩
        ·rw [if_neg c17] at H
         have c17b0 : decide (a0_2 < a0_1) = false := decide_eq_false c17
         clear c17
         (first | rw [c17b0] | (simp only [i64_w, i32_w]; rw [c17b0]) | skip)
         replace H := Option.bind_eq_some_iff.mp H
         obtain ⟨t107, A190, H⟩ := H
         replace H : (if t107 = true then ((spec_l01In.f (l0_4.length : Int) 1 300).bind fun t108 => (spec_GraphOk.j1 k1 (!t108) l0_0 a0_1 a0_2 a0_3 l0_4)) else (spec_GraphOk.j1 k1 true l0_0 a0_1 a0_2 a0_3 l0_4)) = some r := H
         have A19 := Zs0.mk A190
         clear A190
         by_cases c20 : t107 = true
         ·subst c20
          have H1 : ((spec_l01In.f (l0_4.length : Int) 1 300).bind fun t108 => (spec_GraphOk.j1 k1 (!t108) l0_0 a0_1 a0_2 a0_3 l0_4)) = some r := by rw [if_pos rfl] at H; exact H
          clear H
          have H := H1
          clear H1
          replace H := Option.bind_eq_some_iff.mp H
          obtain ⟨t108, A210, H⟩ := H
          replace H : (spec_GraphOk.j1 k1 (!t108) l0_0 a0_1 a0_2 a0_3 l0_4) = some r := H
          have A21 := Zs0.mk A210
          clear A210
          have H' := Zs0.mk H
          clear H
          obtain ⟨hcz22_0, hcz22_1, hcz22_2, hcz22_3, hcz22_4, hfz22_0, hfz22_1, hfz22_2, hfz22_3, hfz22_4⟩ := bx5 BK101.out
          go_wp2_with (first | ((with_reducible refine gtC (f := 44) rfl ?_); refine goesL_ (some 23) rfl rfl Try.func44 (by kernel_rfl) rfl #[.int .i64 (l0_0.length : Int), .int .i64 1, .int .i64 4] rfl zM ?_; (with_reducible refine (spec_l01In.calls (l0_0.length : Int) 1 4 true _ A11.out).mono ?_); rintro e w' ⟨rfl, ⟨nd, rfl⟩⟩; refine ⟨_, rfl, ?_⟩) | (go_at_call 44; (with_reducible refine (spec_l01In.calls a0_2 0 20 true _ A13.out).mono ?_); rintro e w' ⟨rfl, ⟨nd, rfl⟩⟩) | (go_at_call 44; (with_reducible refine (spec_l01In.calls a0_1 0 6 true _ A15.out).mono ?_); rintro e w' ⟨rfl, ⟨nd, rfl⟩⟩) | (go_at_call 44; (with_reducible refine (spec_l01In.calls a0_3 a0_2 1000 true _ A19.out).mono ?_); rintro e w' ⟨rfl, ⟨nd, rfl⟩⟩) | (go_at_call 44; (with_reducible refine (spec_l01In.calls (l0_4.length : Int) 1 300 t108 _ A21.out).mono ?_); rintro e w' ⟨rfl, ⟨nd, rfl⟩⟩))
          go_meet
          case rel => exact ⟨_, (!t108), zq, H', ⟨by have := HK1.out; first | omega | exact Nat.le_refl _⟩, ⟨zG BK101.out⟩, ⟨zB⟩⟩
         ·replace c20 := Bool.eq_false_iff.mpr c20
          subst c20
          have H1 : (spec_GraphOk.j1 k1 true l0_0 a0_1 a0_2 a0_3 l0_4) = some r := by rw [if_neg (show ¬ (false = true) by decide)] at H; exact H
          clear H
          have H := H1
          clear H1
          have H' := Zs0.mk H
          clear H
          obtain ⟨hcz23_0, hcz23_1, hcz23_2, hcz23_3, hcz23_4, hfz23_0, hfz23_1, hfz23_2, hfz23_3, hfz23_4⟩ := bx5 BK101.out
          go_wp2_with (first | ((with_reducible refine gtC (f := 44) rfl ?_); refine goesL_ (some 23) rfl rfl Try.func44 (by kernel_rfl) rfl #[.int .i64 (l0_0.length : Int), .int .i64 1, .int .i64 4] rfl zM ?_; (with_reducible refine (spec_l01In.calls (l0_0.length : Int) 1 4 true _ A11.out).mono ?_); rintro e w' ⟨rfl, ⟨nd, rfl⟩⟩; refine ⟨_, rfl, ?_⟩) | (go_at_call 44; (with_reducible refine (spec_l01In.calls a0_2 0 20 true _ A13.out).mono ?_); rintro e w' ⟨rfl, ⟨nd, rfl⟩⟩) | (go_at_call 44; (with_reducible refine (spec_l01In.calls a0_1 0 6 true _ A15.out).mono ?_); rintro e w' ⟨rfl, ⟨nd, rfl⟩⟩) | (go_at_call 44; (with_reducible refine (spec_l01In.calls a0_3 a0_2 1000 false _ A19.out).mono ?_); rintro e w' ⟨rfl, ⟨nd, rfl⟩⟩))
          go_meet
          case rel => exact ⟨_, (true), zq, H', ⟨by have := HK1.out; first | omega | exact Nat.le_refl _⟩, ⟨zG BK101.out⟩, ⟨zB⟩⟩
       ·replace c16 := Bool.eq_false_iff.mpr c16
        subst c16
        have H1 : (spec_GraphOk.j1 k1 true l0_0 a0_1 a0_2 a0_3 l0_4) = some r := by rw [if_neg (show ¬ (false = true) by decide)] at H; exact H
        clear H
        have H := H1
        clear H1
        have H' := Zs0.mk H
        clear H
        obtain ⟨hcz24_0, hcz24_1, hcz24_2, hcz24_3, hcz24_4, hfz24_0, hfz24_1, hfz24_2, hfz24_3, hfz24_4⟩ := bx5 BK101.out
        go_wp2_with (first | ((with_reducible refine gtC (f := 44) rfl ?_); refine goesL_ (some 23) rfl rfl Try.func44 (by kernel_rfl) rfl #[.int .i64 (l0_0.length : Int), .int .i64 1, .int .i64 4] rfl zM ?_; (with_reducible refine (spec_l01In.calls (l0_0.length : Int) 1 4 true _ A11.out).mono ?_); rintro e w' ⟨rfl, ⟨nd, rfl⟩⟩; refine ⟨_, rfl, ?_⟩) | (go_at_call 44; (with_reducible refine (spec_l01In.calls a0_2 0 20 true _ A13.out).mono ?_); rintro e w' ⟨rfl, ⟨nd, rfl⟩⟩) | (go_at_call 44; (with_reducible refine (spec_l01In.calls a0_1 0 6 false _ A15.out).mono ?_); rintro e w' ⟨rfl, ⟨nd, rfl⟩⟩))
        go_meet
        case rel => exact ⟨_, (true), zq, H', ⟨by have := HK1.out; first | omega | exact Nat.le_refl _⟩, ⟨zG BK101.out⟩, ⟨zB⟩⟩
      ·replace c14 := Bool.eq_false_iff.mpr c14
       subst c14
       have H1 : (spec_GraphOk.j1 k1 true l0_0 a0_1 a0_2 a0_3 l0_4) = some r := by rw [if_neg (show ¬ (false = true) by decide)] at H; exact H
       clear H
       have H := H1
       clear H1
       have H' := Zs0.mk H
       clear H
       obtain ⟨hcz25_0, hcz25_1, hcz25_2, hcz25_3, hcz25_4, hfz25_0, hfz25_1, hfz25_2, hfz25_3, hfz25_4⟩ := bx5 BK101.out
       go_wp2_with (first | ((with_reducible refine gtC (f := 44) rfl ?_); refine goesL_ (some 23) rfl rfl Try.func44 (by kernel_rfl) rfl #[.int .i64 (l0_0.length : Int), .int .i64 1, .int .i64 4] rfl zM ?_; (with_reducible refine (spec_l01In.calls (l0_0.length : Int) 1 4 true _ A11.out).mono ?_); rintro e w' ⟨rfl, ⟨nd, rfl⟩⟩; refine ⟨_, rfl, ?_⟩) | (go_at_call 44; (with_reducible refine (spec_l01In.calls a0_2 0 20 false _ A13.out).mono ?_); rintro e w' ⟨rfl, ⟨nd, rfl⟩⟩))
       go_meet
       case rel => exact ⟨_, (true), zq, H', ⟨by have := HK1.out; first | omega | exact Nat.le_refl _⟩, ⟨zG BK101.out⟩, ⟨zB⟩⟩
     ·replace c12 := Bool.eq_false_iff.mpr c12
      subst c12
      have H1 : (spec_GraphOk.j1 k1 true l0_0 a0_1 a0_2 a0_3 l0_4) = some r := by rw [if_neg (show ¬ (false = true) by decide)] at H; exact H
      clear H
      have H := H1
      clear H1
      have H' := Zs0.mk H
      clear H
      obtain ⟨hcz26_0, hcz26_1, hcz26_2, hcz26_3, hcz26_4, hfz26_0, hfz26_1, hfz26_2, hfz26_3, hfz26_4⟩ := bx5 BK101.out
      go_wp2_with (first | ((with_reducible refine gtC (f := 44) rfl ?_); refine goesL_ (some 23) rfl rfl Try.func44 (by kernel_rfl) rfl #[.int .i64 (l0_0.length : Int), .int .i64 1, .int .i64 4] rfl zM ?_; (with_reducible refine (spec_l01In.calls (l0_0.length : Int) 1 4 false _ A11.out).mono ?_); rintro e w' ⟨rfl, ⟨nd, rfl⟩⟩; refine ⟨_, rfl, ?_⟩))
      go_meet
      case rel => exact ⟨_, (true), zq, H', ⟨by have := HK1.out; first | omega | exact Nat.le_refl _⟩, ⟨zG BK101.out⟩, ⟨zB⟩⟩
    case rest =>
     clear HC9
     try clear c1
     try clear p1
     try clear q1
     try clear hx1
     try clear c2
     try clear p2
     try clear c3
     try clear c3b0
     try clear c4
     try clear c4b0
     try clear c6
     try clear p6
     try clear p10
     try clear q10
     try clear hx10
     try clear c12
     try clear c14
     try clear c16
     try clear c17
     try clear c17b0
     try clear c20
     try clear hcz10_0 hcz10_1 hcz10_2 hcz10_3 hcz10_4
     try clear hcz18_0 hcz18_1 hcz18_2 hcz18_3 hcz18_4
     try clear hcz22_0 hcz22_1 hcz22_2 hcz22_3 hcz22_4
     try clear hcz23_0 hcz23_1 hcz23_2 hcz23_3 hcz23_4
     try clear hcz24_0 hcz24_1 hcz24_2 hcz24_3 hcz24_4
     try clear hcz25_0 hcz25_1 hcz25_2 hcz25_3 hcz25_4
     try clear hcz26_0 hcz26_1 hcz26_2 hcz26_3 hcz26_4
     try clear hcz7_0 hcz7_1 hcz7_2 hcz7_3 hcz7_4
     try clear hcz8_0 hcz8_1 hcz8_2 hcz8_3 hcz8_4
     try clear hfz10_0 hfz10_1 hfz10_2 hfz10_3 hfz10_4
     try clear hfz18_0 hfz18_1 hfz18_2 hfz18_3 hfz18_4
     try clear hfz22_0 hfz22_1 hfz22_2 hfz22_3 hfz22_4
     try clear hfz23_0 hfz23_1 hfz23_2 hfz23_3 hfz23_4
     try clear hfz24_0 hfz24_1 hfz24_2 hfz24_3 hfz24_4
     try clear hfz25_0 hfz25_1 hfz25_2 hfz25_3 hfz25_4
     try clear hfz26_0 hfz26_1 hfz26_2 hfz26_3 hfz26_4
     try clear hfz7_0 hfz7_1 hfz7_2 hfz7_3 hfz7_4
     try clear hfz8_0 hfz8_1 hfz8_2 hfz8_3 hfz8_4
     try clear hx102_0
     try clear p102
     try clear p2
     try clear q102
     obtain ⟨kq, x58_8, rfl, HA, HJ8, BK101, HB⟩ := hcut
     cases kq with
     | zero => exact absurd HA.out (by simp [spec_GraphOk.j1])
     | succ kj8 =>
      have H := HA.out
      clear HA
      simp only [spec_GraphOk.j1] at H
      by_cases c27 : x58_8 = true
      ·subst c27
       have H1 : (some false) = some r := by rw [if_pos rfl] at H; exact H
       clear H
       have H := H1
       clear H1
       obtain rfl := Option.some.inj H
       go_wp2
       go_ret
       exact ⟨zr, zB⟩
      ·replace c27 := Bool.eq_false_iff.mpr c27
       subst c27
       have H1 : (spec_GraphOk.l1 kj8 0 0 l0_0 a0_1 a0_2 a0_3 l0_4) = some r := by rw [if_neg (show ¬ (false = true) by decide)] at H; exact H
       clear H
       have H := H1
       clear H1
       have H' := Zs0.mk H
       clear H
       go_wp2
       go_loopg [4, 5] kj8 (fun kq v4 v5 w' => ∃ (x4_3 : Int) (x5_3 : Int), v4 = .int .i64 x4_3 ∧ v5 = .int .i64 x5_3 ∧ Zs0 (spec_GraphOk.l1 kq x4_3 x5_3 l0_0 a0_1 a0_2 a0_3 l0_4 = some r) ∧ Zs0 (kq ≤ kj8) ∧ Zs0 (w'.heap[gb101]? = some (.cells #[(.slice A0_0 l0_0.length c0_0), .int .i64 a0_1, .int .i64 a0_2, .int .i64 a0_3, (.slice A0_4 l0_4.length c0_4)] 29 (0, 0))) ∧ Zs0 (Below w.heap.size w w'))
       case atStart => exact ⟨(0), (0), zq, zq, H', ⟨Nat.le_refl _⟩, ⟨zG BK101.out⟩, ⟨zB⟩⟩
       case round =>
        clear H'
        try clear c1
        try clear p1
        try clear q1
        try clear hx1
        try clear c2
        try clear p2
        try clear c3
        try clear c3b0
        try clear c4
        try clear c4b0
        try clear c6
        try clear p6
        try clear p10
        try clear q10
        try clear hx10
        try clear c12
        try clear c14
        try clear c16
        try clear c17
        try clear c17b0
        try clear c20
        try clear c27
        try clear hcz10_0 hcz10_1 hcz10_2 hcz10_3 hcz10_4
        try clear hcz18_0 hcz18_1 hcz18_2 hcz18_3 hcz18_4
        try clear hcz22_0 hcz22_1 hcz22_2 hcz22_3 hcz22_4
        try clear hcz23_0 hcz23_1 hcz23_2 hcz23_3 hcz23_4
        try clear hcz24_0 hcz24_1 hcz24_2 hcz24_3 hcz24_4
        try clear hcz25_0 hcz25_1 hcz25_2 hcz25_3 hcz25_4
        try clear hcz26_0 hcz26_1 hcz26_2 hcz26_3 hcz26_4
        try clear hcz7_0 hcz7_1 hcz7_2 hcz7_3 hcz7_4
        try clear hcz8_0 hcz8_1 hcz8_2 hcz8_3 hcz8_4
        try clear hfz10_0 hfz10_1 hfz10_2 hfz10_3 hfz10_4
        try clear hfz18_0 hfz18_1 hfz18_2 hfz18_3 hfz18_4
        try clear hfz22_0 hfz22_1 hfz22_2 hfz22_3 hfz22_4
        try clear hfz23_0 hfz23_1 hfz23_2 hfz23_3 hfz23_4
        try clear hfz24_0 hfz24_1 hfz24_2 hfz24_3 hfz24_4
        try clear hfz25_0 hfz25_1 hfz25_2 hfz25_3 hfz25_4
        try clear hfz26_0 hfz26_1 hfz26_2 hfz26_3 hfz26_4
        try clear hfz7_0 hfz7_1 hfz7_2 hfz7_3 hfz7_4
        try clear hfz8_0 hfz8_1 hfz8_2 hfz8_3 hfz8_4
        try clear hx102_0
        try clear p1
        try clear p10
        try clear p102
        try clear p2
        try clear p6
        try clear q1
        try clear q10
        try clear q102
        obtain ⟨x4_3, x5_3, rfl, rfl, HA, HK3, BK101, HB⟩ := hrel
        cases gk with
        | zero => exact absurd HA.out (by simp [spec_GraphOk.l1])
        | succ k3 =>
         have H := HA.out
         clear HA
         simp only [spec_GraphOk.l1] at H
         by_cases c28 : x5_3 < (l0_4.length : Int)
         ·rw [if_pos c28] at H
          have c28b0 : decide (x5_3 < (l0_4.length : Int)) = true := decide_eq_true c28
          clear c28
          have c29 := ipos H
          rw [if_pos c29] at H
          have c29b0 := decide_eq_true c29
          clear c29
          by_cases c30 : (wrap64 (x4_3 + (((r47 l0_4 x5_3).f0).length : Int))) > 1000
          ·rw [if_pos c30] at H
           have c30b0 : decide (1000 < (wrap64 (x4_3 + (((r47 l0_4 x5_3).f0).length : Int)))) = true := decide_eq_true c30
           clear c30
           obtain rfl := Option.some.inj H
           obtain ⟨hcz31_0, hcz31_1, hcz31_2, hcz31_3, hcz31_4, hfz31_0, hfz31_1, hfz31_2, hfz31_3, hfz31_4⟩ := bx5 BK101.out
           have p109 : 0 ≤ (x5_3 : Int) := zD
           have q109 : x5_3 < (l0_4.length : Int) := zD
           obtain ⟨ad109, A109_0, c109_0, e109, hx109_0, hx109_1, hx109_2, hx109_3, hx109_4, hl109_0, hi109_0⟩ := at_T47 HR0_4.out x5_3 p109 q109
           cases e109
           replace hx109_0 := zx HB.out hx109_0
           replace hx109_1 := zx HB.out hx109_1
           replace hx109_2 := zx HB.out hx109_2
           replace hx109_3 := zx HB.out hx109_3
           replace hx109_4 := zx HB.out hx109_4
           have HR109_0 := Zs0.mk hi109_0
           have HC109_0 := Zs0.mk hl109_0
           clear hi109_0 hl109_0
           replace p109 := eq_true p109
           replace q109 := eq_true q109
           try go_wp2
           have n0_ := Zs0.mk (bk1 BK101.out)
           have n1_ := Zs0.mk (bl1 HB.out)
           revert n0_ n1_; clear BK101 HB; intro BK101 HB
           refine start_ (n := 12) (S := fun w' => True) (ds := []) #[false, false, false, false, false, false, false, false, false, false, false, false] (by kernel_rfl) rfl rfl trivial (fun hHeld => ?_); refine with_tabW spec_GraphOk.tab13 spec_GraphOk.bits13 (fun HT_ HW_ => ?_)
           generalize wr.drew = w32 at BK101 HB hHeld ⊢
           refine pure_ (i := 0) (N := some 75) (v := ?_) (a' := ?_) #[true, false, false, false, false, false, false, false, false, false, false, false] rfl rfl (any_of HT_.out (by kernel_rfl)) (fun _ _ _ h => h) (Or.inl ⟨by rfl, ?_⟩) ?_ ?_
           rotate_left
           ·intro w'
            go_simp
            with_reducible rfl
           rotate_left
           ·exact zp
           refine pure_ (i := 1) (N := some 76) (v := ?_) (a' := ?_) #[true, true, false, false, false, false, false, false, false, false, false, false] rfl rfl (any_of HT_.out (by kernel_rfl)) (fun _ _ _ h => h) (Or.inl ⟨by rfl, ?_⟩) ?_ ?_
           rotate_left
           ·intro w'
            go_simp
            with_reducible rfl
           rotate_left
           ·exact zp
           refine pure_ (i := 2) (N := some 77) (v := ?_) (a' := ?_) #[true, true, true, false, false, false, false, false, false, false, false, false] rfl rfl (any_of HT_.out (by kernel_rfl)) (fun _ _ _ h => h) (Or.inl ⟨by rfl, ?_⟩) ?_ ?_
           rotate_left
           ·intro w'
            go_simp
            with_reducible rfl
           rotate_left
           ·exact zp
           refine pure_ (i := 3) (N := some 78) (v := undef) (a' := ?_) #[true, true, true, true, false, false, false, false, false, false, false, false] rfl rfl (any_of HT_.out (by kernel_rfl)) (fun _ _ _ h => h) (Or.inr ⟨by rfl, rfl⟩) ?_ ?_
           rotate_left
           ·exact zp
           refine pure_ (i := 4) (N := some 79) (v := undef) (a' := ?_) #[true, true, true, true, true, false, false, false, false, false, false, false] rfl rfl (any_of HT_.out (by kernel_rfl)) (fun _ _ _ h => h) (Or.inr ⟨by rfl, rfl⟩) ?_ ?_
           rotate_left
           ·exact zp
           refine pure_ (i := 5) (N := some 80) (v := undef) (a' := ?_) #[true, true, true, true, true, true, false, false, false, false, false, false] rfl rfl (any_of HT_.out (by kernel_rfl)) (fun _ _ _ h => h) (Or.inr ⟨by rfl, rfl⟩) ?_ ?_
           rotate_left
           ·exact zp
           refine pure_ (i := 6) (N := some 81) (v := undef) (a' := ?_) #[true, true, true, true, true, true, true, false, false, false, false, false] rfl rfl (any_of HT_.out (by kernel_rfl)) (fun _ _ _ h => h) (Or.inr ⟨by rfl, rfl⟩) ?_ ?_
           rotate_left
           ·exact zp
           refine pure_ (i := 7) (N := some 82) (v := undef) (a' := ?_) #[true, true, true, true, true, true, true, true, false, false, false, false] rfl rfl (any_of HT_.out (by kernel_rfl)) (fun _ _ _ h => h) (Or.inr ⟨by rfl, rfl⟩) ?_ ?_
           rotate_left
           ·exact zp
           refine pure_ (i := 8) (N := some 83) (v := undef) (a' := ?_) #[true, true, true, true, true, true, true, true, true, false, false, false] rfl rfl (any_of HT_.out (by kernel_rfl)) (fun _ _ _ h => h) (Or.inr ⟨by rfl, rfl⟩) ?_ ?_
           rotate_left
           ·exact zp
           refine pure_ (i := 9) (N := some 84) (v := undef) (a' := ?_) #[true, true, true, true, true, true, true, true, true, true, false, false] rfl rfl (any_of HT_.out (by kernel_rfl)) (fun _ _ _ h => h) (Or.inr ⟨by rfl, rfl⟩) ?_ ?_
           rotate_left
           ·exact zp
           refine pure_ (i := 10) (N := some 85) (v := undef) (a' := ?_) #[true, true, true, true, true, true, true, true, true, true, true, false] rfl rfl (any_of HT_.out (by kernel_rfl)) (fun _ _ _ h => h) (Or.inr ⟨by rfl, rfl⟩) ?_ ?_
           rotate_left
           ·exact zp
           refine pure_ (i := 11) (N := some 86) (v := ?_) (a' := ?_) #[true, true, true, true, true, true, true, true, true, true, true, true] rfl rfl (any_of HT_.out (by kernel_rfl)) (fun _ _ _ h => h) (Or.inl ⟨by rfl, ?_⟩) ?_ ?_
           rotate_left
           ·intro w'
            go_simp
            with_reducible rfl
           rotate_left
           ·exact zp
           refine done_ (done_of HT_.out (by kernel_rfl)) ?_
           try go_wp2
           go_ret
           exact ⟨zr, zB⟩
          ·rw [if_neg c30] at H
           have c30b0 : decide (1000 < (wrap64 (x4_3 + (((r47 l0_4 x5_3).f0).length : Int)))) = false := decide_eq_false c30
           clear c30
           replace H := Option.bind_eq_some_iff.mp H
           obtain ⟨t111, A330, H⟩ := H
           replace H : (if t111 = true then (spec_GraphOk.l1 k3 (wrap64 (x4_3 + (((r47 l0_4 x5_3).f0).length : Int))) (wrap64 (x5_3 + 1)) l0_0 a0_1 a0_2 a0_3 l0_4) else (some false)) = some r := H
           have A33 := Zs0.mk A330
           clear A330
           by_cases c34 : t111 = true
           ·subst c34
            have H1 : (spec_GraphOk.l1 k3 (wrap64 (x4_3 + (((r47 l0_4 x5_3).f0).length : Int))) (wrap64 (x5_3 + 1)) l0_0 a0_1 a0_2 a0_3 l0_4) = some r := by rw [if_pos rfl] at H; exact H
            clear H
            have H := H1
            clear H1
            have H' := Zs0.mk H
            clear H
            obtain ⟨hcz35_0, hcz35_1, hcz35_2, hcz35_3, hcz35_4, hfz35_0, hfz35_1, hfz35_2, hfz35_3, hfz35_4⟩ := bx5 BK101.out
            have p109 : 0 ≤ (x5_3 : Int) := zD
            have q109 : x5_3 < (l0_4.length : Int) := zD
            obtain ⟨ad109, A109_0, c109_0, e109, hx109_0, hx109_1, hx109_2, hx109_3, hx109_4, hl109_0, hi109_0⟩ := at_T47 HR0_4.out x5_3 p109 q109
            cases e109
            replace hx109_0 := zx HB.out hx109_0
            replace hx109_1 := zx HB.out hx109_1
            replace hx109_2 := zx HB.out hx109_2
            replace hx109_3 := zx HB.out hx109_3
            replace hx109_4 := zx HB.out hx109_4
            have HR109_0 := Zs0.mk hi109_0
            have HC109_0 := Zs0.mk hl109_0
            clear hi109_0 hl109_0
            replace p109 := eq_true p109
            replace q109 := eq_true q109
            try go_wp2
            have n0_ := Zs0.mk (bk1 BK101.out)
            have n1_ := Zs0.mk (bl1 HB.out)
            revert n0_ n1_; clear BK101 HB; intro BK101 HB
            have p110 : 0 ≤ (x5_3 : Int) := zD
            have q110 : x5_3 < (l0_4.length : Int) := zD
            obtain ⟨ad110, A110_0, c110_0, e110, hx110_0, hx110_1, hx110_2, hx110_3, hx110_4, hl110_0, hi110_0⟩ := at_T47 HR0_4.out x5_3 p110 q110
            have hw110_4 := hx110_4
            have hw110_3 := hx110_3
            have hw110_2 := hx110_2
            have hw110_1 := hx110_1
            have hw110_0 := hx110_0
            obtain rfl : ad109 = ad110 := (by injection e110)
            replace hx110_0 := zx HB.out hx110_0
            replace hx110_1 := zx HB.out hx110_1
            replace hx110_2 := zx HB.out hx110_2
            replace hx110_3 := zx HB.out hx110_3
            replace hx110_4 := zx HB.out hx110_4
            have HR110_0 := Zs0.mk hi110_0
            have HC110_0 := Zs0.mk hl110_0
            clear hi110_0 hl110_0
            replace p110 := eq_true p110
            replace q110 := eq_true q110
            refine start_ (n := 12) (S := fun w' => w'.cell? ⟨gb101, 0, none⟩ = some (.slice A0_0 l0_0.length c0_0) ∧ w'.cell? ⟨gb101, 1, none⟩ = some (.int .i64 a0_1) ∧ w'.cell? ⟨gb101, 2, none⟩ = some (.int .i64 a0_2) ∧ w'.cell? ⟨gb101, 3, none⟩ = some (.int .i64 a0_3) ∧ w'.cell? ⟨gb101, 4, none⟩ = some (.slice (some ad109) l0_4.length c0_4) ∧ w'.cell? (ad109.add ((x5_3).toNat * 5)) = some (.slice A110_0 ((r47 l0_4 x5_3).f0).length c110_0) ∧ w'.cell? ⟨(ad109.add ((x5_3).toNat * 5)).block, (ad109.add ((x5_3).toNat * 5)).off + 1, none⟩ = some (.int .i64 ((r47 l0_4 x5_3).f1)) ∧ w'.cell? ⟨(ad109.add ((x5_3).toNat * 5)).block, (ad109.add ((x5_3).toNat * 5)).off + 2, none⟩ = some (.int .i64 ((r47 l0_4 x5_3).f2)) ∧ w'.cell? ⟨(ad109.add ((x5_3).toNat * 5)).block, (ad109.add ((x5_3).toNat * 5)).off + 3, none⟩ = some (.int .i64 ((r47 l0_4 x5_3).f3)) ∧ w'.cell? ⟨(ad109.add ((x5_3).toNat * 5)).block, (ad109.add ((x5_3).toNat * 5)).off + 4, none⟩ = some (.int .i64 ((r47 l0_4 x5_3).f4))) (ds := []) #[false, false, false, false, false, false, false, false, false, false, false, false] (by kernel_rfl) rfl rfl ⟨(bkC BK101.out 0).trans rfl, (bkC BK101.out 1).trans rfl, (bkC BK101.out 2).trans rfl, (bkC BK101.out 3).trans rfl, (bkC BK101.out 4).trans rfl, (zx HB.out hw110_0), (zx HB.out hw110_1), (zx HB.out hw110_2), (zx HB.out hw110_3), (zx HB.out hw110_4)⟩ (fun hHeld => ?_); refine with_tabW spec_GraphOk.tab13 spec_GraphOk.bits13 (fun HT_ HW_ => ?_)
            generalize wr.drew = w36 at BK101 HB HR110_0 hx110_0 hx110_1 hx110_2 hx110_3 hx110_4 hHeld ⊢
            refine pure_ (i := 0) (N := some 75) (v := ?_) (a' := ?_) #[true, false, false, false, false, false, false, false, false, false, false, false] rfl rfl (any_of HT_.out (by kernel_rfl)) (fun _ _ _ h => h) (Or.inl ⟨by rfl, ?_⟩) ?_ ?_
            rotate_left
            ·intro w'
             go_simp
             with_reducible rfl
            rotate_left
            ·exact zp
            refine pure_ (i := 1) (N := some 76) (v := ?_) (a' := ?_) #[true, true, false, false, false, false, false, false, false, false, false, false] rfl rfl (any_of HT_.out (by kernel_rfl)) (fun _ _ _ h => h) (Or.inl ⟨by rfl, ?_⟩) ?_ ?_
            rotate_left
            ·intro w'
             go_simp
             with_reducible rfl
            rotate_left
            ·exact zp
            refine pure_ (i := 2) (N := some 77) (v := ?_) (a' := ?_) #[true, true, true, false, false, false, false, false, false, false, false, false] rfl rfl (any_of HT_.out (by kernel_rfl)) (fun _ _ _ h => h) (Or.inl ⟨by rfl, ?_⟩) ?_ ?_
            rotate_left
            ·intro w'
             go_simp
             with_reducible rfl
            rotate_left
            ·exact zp
            refine pure_ (i := 4) (N := some 79) (v := ?_) (a' := ?_) #[true, true, true, false, true, false, false, false, false, false, false, false] rfl rfl (any_of HT_.out (by kernel_rfl)) (fun _ _ _ h => h) (Or.inl ⟨by rfl, ?_⟩) ?_ ?_
            rotate_left
            ·intro w'
             go_simp
             with_reducible rfl
            rotate_left
            ·exact zp
            refine pure_ (i := 6) (N := some 81) (v := ?_) (a' := ?_) #[true, true, true, false, true, false, true, false, false, false, false, false] rfl rfl (any_of HT_.out (by kernel_rfl)) (fun _ _ _ h => h) (Or.inl ⟨by rfl, ?_⟩) ?_ ?_
            rotate_left
            ·intro w'
             go_simp
             with_reducible rfl
            rotate_left
            ·exact zp
            refine take_ (i := 3) (N := some 78) (v := ?_) (a' := ?_) #[true, true, true, true, true, false, true, false, false, false, false, false] rfl rfl (take_ofW HT_.out HW_.out (by kernel_rfl)) (fun _ _ _ h => h) (Or.inl ⟨by rfl, ?_⟩) hHeld ?_ ?_
            rotate_left
            ·rintro w' ⟨s0, s1, s2, s3, s4, s5, s6, s7, s8, s9⟩
             go_simp
             with_reducible rfl
            rotate_left
            ·exact zp
            refine take_ (i := 5) (N := some 80) (v := ?_) (a' := ?_) #[true, true, true, true, true, true, true, false, false, false, false, false] rfl rfl (take_ofW HT_.out HW_.out (by kernel_rfl)) (fun _ _ _ h => h) (Or.inl ⟨by rfl, ?_⟩) hHeld ?_ ?_
            rotate_left
            ·rintro w' ⟨s0, s1, s2, s3, s4, s5, s6, s7, s8, s9⟩
             go_simp
             with_reducible rfl
            rotate_left
            ·exact zp
            refine pure_ (i := 7) (N := some 82) (v := ?_) (a' := ?_) #[true, true, true, true, true, true, true, true, false, false, false, false] rfl rfl (any_of HT_.out (by kernel_rfl)) (fun _ _ _ h => h) (Or.inl ⟨by rfl, ?_⟩) ?_ ?_
            rotate_left
            ·intro w'
             go_simp
             with_reducible rfl
            rotate_left
            ·exact zp
            refine take_ (i := 8) (N := some 83) (v := ?_) (a' := ?_) #[true, true, true, true, true, true, true, true, true, false, false, false] rfl rfl (take_ofW HT_.out HW_.out (by kernel_rfl)) (fun _ _ _ h => h) (Or.inl ⟨by rfl, ?_⟩) hHeld ?_ ?_
            rotate_left
            ·rintro w' ⟨s0, s1, s2, s3, s4, s5, s6, s7, s8, s9⟩
             go_simp
             with_reducible rfl
            rotate_left
            ·exact zp
            refine one_ (i := 9) (N := some 84) #[true, true, true, true, true, true, true, true, true, true, false, false] rfl rfl (one_of HT_.out (by kernel_rfl)) (by decide) (fun K hK => ?_)
            refine goes_ Try.func50 (by kernel_rfl) rfl #[.agg #[.slice A0_0 l0_0.length c0_0, .int .i64 a0_1, .int .i64 a0_2, .int .i64 a0_3, .slice (some ad109) l0_4.length c0_4], .agg #[.slice A110_0 ((r47 l0_4 x5_3).f0).length c110_0, .int .i64 ((r47 l0_4 x5_3).f1), .int .i64 ((r47 l0_4 x5_3).f2), .int .i64 ((r47 l0_4 x5_3).f3), .int .i64 ((r47 l0_4 x5_3).f4)]] (by rfl) rfl rfl zM ?_
            with_reducible refine (spec_l04BlockOk.calls k3 _ _ l0_0 a0_1 a0_2 a0_3 _ _ l0_4 _ _ ((r47 l0_4 x5_3).f0) ((r47 l0_4 x5_3).f1) ((r47 l0_4 x5_3).f2) ((r47 l0_4 x5_3).f3) ((r47 l0_4 x5_3).f4) true _ ?side1 ?side2 ?side3 ?side4 ?side5 ?side6 A33.out).mono ?_
            (case side1 => exact zC HR0_0.out)
            (case side2 => exact HC0_0.out)
            (case side3 => exact zC HR0_4.out)
            (case side4 => exact HC0_4.out)
            (case side5 => exact zC HR110_0.out)
            (case side6 => exact HC110_0.out)
            rintro e w37 ⟨rfl, hb⟩
            refine ⟨_, rfl, ?_⟩
            have n0_ := Zs0.mk (bkB (zG BK101.out) hb)
            have n1_ := Zs0.mk (blT zB hb)
            revert n0_ n1_; clear BK101 HB; intro BK101 HB
            (try clear hb)
            (try clear hb2)
            (try clear hk)
            (try clear hi)
            refine hK.out _ _ ⟨(bkC BK101.out 0).trans rfl, (bkC BK101.out 1).trans rfl, (bkC BK101.out 2).trans rfl, (bkC BK101.out 3).trans rfl, (bkC BK101.out 4).trans rfl, (zx HB.out hw110_0), (zx HB.out hw110_1), (zx HB.out hw110_2), (zx HB.out hw110_3), (zx HB.out hw110_4)⟩ (fun hHeld => ?_)
            clear hK K
            refine norm_ (a' := ?_) ?_ ?_
            rotate_left
            ·show Act.put _ (some 84) _ = _
             simp only [Act.put, List.setIfInBounds_toArray, List.set_cons_zero, List.set_cons_succ, i64_w, i32_w]
             rfl
            refine pure_ (i := 10) (N := some 85) (v := ?_) (a' := ?_) #[true, true, true, true, true, true, true, true, true, true, true, false] rfl rfl (any_of HT_.out (by kernel_rfl)) (fun _ _ _ h => h) (Or.inl ⟨by rfl, ?_⟩) ?_ ?_
            rotate_left
            ·intro w'
             go_simp
             with_reducible rfl
            rotate_left
            ·exact zp
            refine pure_ (i := 11) (N := some 86) (v := ?_) (a' := ?_) #[true, true, true, true, true, true, true, true, true, true, true, true] rfl rfl (any_of HT_.out (by kernel_rfl)) (fun _ _ _ h => h) (Or.inl ⟨by rfl, ?_⟩) ?_ ?_
            rotate_left
            ·intro w'
             go_simp
             with_reducible rfl
            rotate_left
            ·exact zp
            refine done_ (done_of HT_.out (by kernel_rfl)) ?_
            try go_wp2
            go_roundg k3
            case measure => have := HK1.out; have := HJ8.out; have := HK3.out; omega
            case rel => exact ⟨(wrap64 (x4_3 + (((r47 l0_4 x5_3).f0).length : Int))), (wrap64 (x5_3 + 1)), zq, zq, H', ⟨by have := HK1.out; have := HJ8.out; have := HK3.out; omega⟩, ⟨zG BK101.out⟩, ⟨zB⟩⟩
           ·replace c34 := Bool.eq_false_iff.mpr c34
            subst c34
            have H1 : (some false) = some r := by rw [if_neg (show ¬ (false = true) by decide)] at H; exact H
            clear H
            have H := H1
            clear H1
            obtain rfl := Option.some.inj H
            obtain ⟨hcz38_0, hcz38_1, hcz38_2, hcz38_3, hcz38_4, hfz38_0, hfz38_1, hfz38_2, hfz38_3, hfz38_4⟩ := bx5 BK101.out
            have p109 : 0 ≤ (x5_3 : Int) := zD
            have q109 : x5_3 < (l0_4.length : Int) := zD
            obtain ⟨ad109, A109_0, c109_0, e109, hx109_0, hx109_1, hx109_2, hx109_3, hx109_4, hl109_0, hi109_0⟩ := at_T47 HR0_4.out x5_3 p109 q109
            cases e109
            replace hx109_0 := zx HB.out hx109_0
            replace hx109_1 := zx HB.out hx109_1
            replace hx109_2 := zx HB.out hx109_2
            replace hx109_3 := zx HB.out hx109_3
            replace hx109_4 := zx HB.out hx109_4
            have HR109_0 := Zs0.mk hi109_0
            have HC109_0 := Zs0.mk hl109_0
            clear hi109_0 hl109_0
            replace p109 := eq_true p109
            replace q109 := eq_true q109
            try go_wp2
            have n0_ := Zs0.mk (bk1 BK101.out)
            have n1_ := Zs0.mk (bl1 HB.out)
            revert n0_ n1_; clear BK101 HB; intro BK101 HB
            have p110 : 0 ≤ (x5_3 : Int) := zD
            have q110 : x5_3 < (l0_4.length : Int) := zD
            obtain ⟨ad110, A110_0, c110_0, e110, hx110_0, hx110_1, hx110_2, hx110_3, hx110_4, hl110_0, hi110_0⟩ := at_T47 HR0_4.out x5_3 p110 q110
            have hw110_4 := hx110_4
            have hw110_3 := hx110_3
            have hw110_2 := hx110_2
            have hw110_1 := hx110_1
            have hw110_0 := hx110_0
            obtain rfl : ad109 = ad110 := (by injection e110)
            replace hx110_0 := zx HB.out hx110_0
            replace hx110_1 := zx HB.out hx110_1
            replace hx110_2 := zx HB.out hx110_2
            replace hx110_3 := zx HB.out hx110_3
            replace hx110_4 := zx HB.out hx110_4
            have HR110_0 := Zs0.mk hi110_0
            have HC110_0 := Zs0.mk hl110_0
            clear hi110_0 hl110_0
            replace p110 := eq_true p110
            replace q110 := eq_true q110
            refine start_ (n := 12) (S := fun w' => w'.cell? ⟨gb101, 0, none⟩ = some (.slice A0_0 l0_0.length c0_0) ∧ w'.cell? ⟨gb101, 1, none⟩ = some (.int .i64 a0_1) ∧ w'.cell? ⟨gb101, 2, none⟩ = some (.int .i64 a0_2) ∧ w'.cell? ⟨gb101, 3, none⟩ = some (.int .i64 a0_3) ∧ w'.cell? ⟨gb101, 4, none⟩ = some (.slice (some ad109) l0_4.length c0_4) ∧ w'.cell? (ad109.add ((x5_3).toNat * 5)) = some (.slice A110_0 ((r47 l0_4 x5_3).f0).length c110_0) ∧ w'.cell? ⟨(ad109.add ((x5_3).toNat * 5)).block, (ad109.add ((x5_3).toNat * 5)).off + 1, none⟩ = some (.int .i64 ((r47 l0_4 x5_3).f1)) ∧ w'.cell? ⟨(ad109.add ((x5_3).toNat * 5)).block, (ad109.add ((x5_3).toNat * 5)).off + 2, none⟩ = some (.int .i64 ((r47 l0_4 x5_3).f2)) ∧ w'.cell? ⟨(ad109.add ((x5_3).toNat * 5)).block, (ad109.add ((x5_3).toNat * 5)).off + 3, none⟩ = some (.int .i64 ((r47 l0_4 x5_3).f3)) ∧ w'.cell? ⟨(ad109.add ((x5_3).toNat * 5)).block, (ad109.add ((x5_3).toNat * 5)).off + 4, none⟩ = some (.int .i64 ((r47 l0_4 x5_3).f4))) (ds := []) #[false, false, false, false, false, false, false, false, false, false, false, false] (by kernel_rfl) rfl rfl ⟨(bkC BK101.out 0).trans rfl, (bkC BK101.out 1).trans rfl, (bkC BK101.out 2).trans rfl, (bkC BK101.out 3).trans rfl, (bkC BK101.out 4).trans rfl, (zx HB.out hw110_0), (zx HB.out hw110_1), (zx HB.out hw110_2), (zx HB.out hw110_3), (zx HB.out hw110_4)⟩ (fun hHeld => ?_); refine with_tabW spec_GraphOk.tab13 spec_GraphOk.bits13 (fun HT_ HW_ => ?_)
            generalize wr.drew = w39 at BK101 HB HR110_0 hx110_0 hx110_1 hx110_2 hx110_3 hx110_4 hHeld ⊢
            refine pure_ (i := 0) (N := some 75) (v := ?_) (a' := ?_) #[true, false, false, false, false, false, false, false, false, false, false, false] rfl rfl (any_of HT_.out (by kernel_rfl)) (fun _ _ _ h => h) (Or.inl ⟨by rfl, ?_⟩) ?_ ?_
            rotate_left
            ·intro w'
             go_simp
             with_reducible rfl
            rotate_left
            ·exact zp
            refine pure_ (i := 1) (N := some 76) (v := ?_) (a' := ?_) #[true, true, false, false, false, false, false, false, false, false, false, false] rfl rfl (any_of HT_.out (by kernel_rfl)) (fun _ _ _ h => h) (Or.inl ⟨by rfl, ?_⟩) ?_ ?_
            rotate_left
            ·intro w'
             go_simp
             with_reducible rfl
            rotate_left
            ·exact zp
            refine pure_ (i := 2) (N := some 77) (v := ?_) (a' := ?_) #[true, true, true, false, false, false, false, false, false, false, false, false] rfl rfl (any_of HT_.out (by kernel_rfl)) (fun _ _ _ h => h) (Or.inl ⟨by rfl, ?_⟩) ?_ ?_
            rotate_left
            ·intro w'
             go_simp
             with_reducible rfl
            rotate_left
            ·exact zp
            refine pure_ (i := 4) (N := some 79) (v := ?_) (a' := ?_) #[true, true, true, false, true, false, false, false, false, false, false, false] rfl rfl (any_of HT_.out (by kernel_rfl)) (fun _ _ _ h => h) (Or.inl ⟨by rfl, ?_⟩) ?_ ?_
            rotate_left
            ·intro w'
             go_simp
             with_reducible rfl
            rotate_left
            ·exact zp
            refine pure_ (i := 6) (N := some 81) (v := ?_) (a' := ?_) #[true, true, true, false, true, false, true, false, false, false, false, false] rfl rfl (any_of HT_.out (by kernel_rfl)) (fun _ _ _ h => h) (Or.inl ⟨by rfl, ?_⟩) ?_ ?_
            rotate_left
            ·intro w'
             go_simp
             with_reducible rfl
            rotate_left
            ·exact zp
            refine take_ (i := 3) (N := some 78) (v := ?_) (a' := ?_) #[true, true, true, true, true, false, true, false, false, false, false, false] rfl rfl (take_ofW HT_.out HW_.out (by kernel_rfl)) (fun _ _ _ h => h) (Or.inl ⟨by rfl, ?_⟩) hHeld ?_ ?_
            rotate_left
            ·rintro w' ⟨s0, s1, s2, s3, s4, s5, s6, s7, s8, s9⟩
             go_simp
             with_reducible rfl
            rotate_left
            ·exact zp
            refine take_ (i := 5) (N := some 80) (v := ?_) (a' := ?_) #[true, true, true, true, true, true, true, false, false, false, false, false] rfl rfl (take_ofW HT_.out HW_.out (by kernel_rfl)) (fun _ _ _ h => h) (Or.inl ⟨by rfl, ?_⟩) hHeld ?_ ?_
            rotate_left
            ·rintro w' ⟨s0, s1, s2, s3, s4, s5, s6, s7, s8, s9⟩
             go_simp
             with_reducible rfl
            rotate_left
            ·exact zp
            refine pure_ (i := 7) (N := some 82) (v := ?_) (a' := ?_) #[true, true, true, true, true, true, true, true, false, false, false, false] rfl rfl (any_of HT_.out (by kernel_rfl)) (fun _ _ _ h => h) (Or.inl ⟨by rfl, ?_⟩) ?_ ?_
            rotate_left
            ·intro w'
             go_simp
             with_reducible rfl
            rotate_left
            ·exact zp
            refine take_ (i := 8) (N := some 83) (v := ?_) (a' := ?_) #[true, true, true, true, true, true, true, true, true, false, false, false] rfl rfl (take_ofW HT_.out HW_.out (by kernel_rfl)) (fun _ _ _ h => h) (Or.inl ⟨by rfl, ?_⟩) hHeld ?_ ?_
            rotate_left
            ·rintro w' ⟨s0, s1, s2, s3, s4, s5, s6, s7, s8, s9⟩
             go_simp
             with_reducible rfl
            rotate_left
            ·exact zp
            refine one_ (i := 9) (N := some 84) #[true, true, true, true, true, true, true, true, true, true, false, false] rfl rfl (one_of HT_.out (by kernel_rfl)) (by decide) (fun K hK => ?_)
            refine goes_ Try.func50 (by kernel_rfl) rfl #[.agg #[.slice A0_0 l0_0.length c0_0, .int .i64 a0_1, .int .i64 a0_2, .int .i64 a0_3, .slice (some ad109) l0_4.length c0_4], .agg #[.slice A110_0 ((r47 l0_4 x5_3).f0).length c110_0, .int .i64 ((r47 l0_4 x5_3).f1), .int .i64 ((r47 l0_4 x5_3).f2), .int .i64 ((r47 l0_4 x5_3).f3), .int .i64 ((r47 l0_4 x5_3).f4)]] (by rfl) rfl rfl zM ?_
            with_reducible refine (spec_l04BlockOk.calls k3 _ _ l0_0 a0_1 a0_2 a0_3 _ _ l0_4 _ _ ((r47 l0_4 x5_3).f0) ((r47 l0_4 x5_3).f1) ((r47 l0_4 x5_3).f2) ((r47 l0_4 x5_3).f3) ((r47 l0_4 x5_3).f4) false _ ?side1 ?side2 ?side3 ?side4 ?side5 ?side6 A33.out).mono ?_
            (case side1 => exact zC HR0_0.out)
            (case side2 => exact HC0_0.out)
            (case side3 => exact zC HR0_4.out)
            (case side4 => exact HC0_4.out)
            (case side5 => exact zC HR110_0.out)
            (case side6 => exact HC110_0.out)
            rintro e w40 ⟨rfl, hb⟩
            refine ⟨_, rfl, ?_⟩
            have n0_ := Zs0.mk (bkB (zG BK101.out) hb)
            have n1_ := Zs0.mk (blT zB hb)
            revert n0_ n1_; clear BK101 HB; intro BK101 HB
            (try clear hb)
            (try clear hb2)
            (try clear hk)
            (try clear hi)
            refine hK.out _ _ ⟨(bkC BK101.out 0).trans rfl, (bkC BK101.out 1).trans rfl, (bkC BK101.out 2).trans rfl, (bkC BK101.out 3).trans rfl, (bkC BK101.out 4).trans rfl, (zx HB.out hw110_0), (zx HB.out hw110_1), (zx HB.out hw110_2), (zx HB.out hw110_3), (zx HB.out hw110_4)⟩ (fun hHeld => ?_)
            clear hK K
            refine norm_ (a' := ?_) ?_ ?_
            rotate_left
            ·show Act.put _ (some 84) _ = _
             simp only [Act.put, List.setIfInBounds_toArray, List.set_cons_zero, List.set_cons_succ, i64_w, i32_w]
             rfl
            refine pure_ (i := 10) (N := some 85) (v := ?_) (a' := ?_) #[true, true, true, true, true, true, true, true, true, true, true, false] rfl rfl (any_of HT_.out (by kernel_rfl)) (fun _ _ _ h => h) (Or.inl ⟨by rfl, ?_⟩) ?_ ?_
            rotate_left
            ·intro w'
             go_simp
             with_reducible rfl
            rotate_left
            ·exact zp
            refine pure_ (i := 11) (N := some 86) (v := ?_) (a' := ?_) #[true, true, true, true, true, true, true, true, true, true, true, true] rfl rfl (any_of HT_.out (by kernel_rfl)) (fun _ _ _ h => h) (Or.inl ⟨by rfl, ?_⟩) ?_ ?_
            rotate_left
            ·intro w'
             go_simp
             with_reducible rfl
            rotate_left
            ·exact zp
            refine done_ (done_of HT_.out (by kernel_rfl)) ?_
            try go_wp2
            go_ret
            exact ⟨zr, zB⟩
         ·rw [if_neg c28] at H
          have c28b0 : decide (x5_3 < (l0_4.length : Int)) = false := decide_eq_false c28
          clear c28
          obtain rfl := Option.some.inj H
          obtain ⟨hcz41_0, hcz41_1, hcz41_2, hcz41_3, hcz41_4, hfz41_0, hfz41_1, hfz41_2, hfz41_3, hfz41_4⟩ := bx5 BK101.out
          go_wp2
          go_ret
          exact ⟨zr, zB⟩

end Go.Proofs.Ytcbpbnkoolpibaa.P
