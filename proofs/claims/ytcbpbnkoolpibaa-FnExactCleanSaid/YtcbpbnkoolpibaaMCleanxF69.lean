/- Printed by a program over this seat's translation: a Lean function for each Go function, and that the Go code comes to its answers. -/
import Derived.Test.YtcbpbnkoolpibaaMClean0a
import Derived.Test.YtcbpbnkoolpibaaMClean0b
set_option maxHeartbeats 8000000
set_option maxRecDepth 100000
set_option linter.unusedVariables false
set_option linter.unusedSimpArgs false
namespace Go.Proofs.Ytcbpbnkoolpibaa.P
open RowKit YtcbpbnkoolpibaaW.wA YtcbpbnkoolpibaaW.wB YtcbpbnkoolpibaaW.wC
attribute [local go_sem] max2_int min2_int max_two min_two max_three min_three max_four min_four

mutual
def spec_l04InstrOk.j0 : Nat → Bool → Bool → Bool → Bool → List Int → Int → Int → Int → List (S47) → Int → Int → Int → Int → Int → Int → ByteArray → Option (Bool)
  | 0, _, _, _, _, _, _, _, _, _, _, _, _, _, _, _, _ => none
  | k + 1, x5, x6, x7, x8, x102000, x102001, x102002, x102003, x102004, x103000, x103001, x103002, x103003, x103004, x103005, x103006 => if x103000 = 2 then (if x103000 = 4 then (spec_l04InstrOk.j1 k x5 x6 x7 x8 false x102000 x102001 x102002 x102003 x102004 x103000 x103001 x103002 x103003 x103004 x103005 x103006) else (spec_l04InstrOk.j1 k x5 x6 x7 x8 (x103004 != 0) x102000 x102001 x102002 x102003 x102004 x103000 x103001 x103002 x103003 x103004 x103005 x103006)) else (if x103006.toList = ([] : List UInt8) then (if x103000 = 4 then (spec_l04InstrOk.j1 k x5 x6 x7 x8 false x102000 x102001 x102002 x102003 x102004 x103000 x103001 x103002 x103003 x103004 x103005 x103006) else (spec_l04InstrOk.j1 k x5 x6 x7 x8 (x103004 != 0) x102000 x102001 x102002 x102003 x102004 x103000 x103001 x103002 x103003 x103004 x103005 x103006)) else (spec_l04InstrOk.j1 k x5 x6 x7 x8 true x102000 x102001 x102002 x102003 x102004 x103000 x103001 x103002 x103003 x103004 x103005 x103006))
def spec_l04InstrOk.j1 : Nat → Bool → Bool → Bool → Bool → Bool → List Int → Int → Int → Int → List (S47) → Int → Int → Int → Int → Int → Int → ByteArray → Option (Bool)
  | 0, _, _, _, _, _, _, _, _, _, _, _, _, _, _, _, _, _ => none
  | k + 1, x5, x6, x7, x8, x62, x102000, x102001, x102002, x102003, x102004, x103000, x103001, x103002, x103003, x103004, x103005, x103006 => if x62 = true then (some false) else (if x103000 = 0 then (if x5 = true then (if x103002 = 0 then (some (x103003 == 0)) else (some false)) else (some false)) else (if x103000 = 1 then (if x5 = true then (if x6 = true then (if x103003 = 0 then (some (x103005 == 0)) else (some false)) else (some false)) else (some false)) else (if x103000 = 2 then (if x5 = true then (if x6 = true then (if x7 = true then (if x103005 = 0 then ((spec_l01Has.f k (([(⟨#[61, 61]⟩ : ByteArray), (⟨#[60]⟩ : ByteArray), (⟨#[38]⟩ : ByteArray), (⟨#[43]⟩ : ByteArray), (⟨#[45]⟩ : ByteArray), (⟨#[42]⟩ : ByteArray)] : List ByteArray)) x103006).bind fun t111 => (some t111)) else (some false)) else (some false)) else (some false)) else (some false)) else (if x103000 = 3 then (if x5 = true then (some x8) else (some false)) else (if x103000 = 4 then (if x103001 = 0 then (if x8 = true then ((spec_l01In.f x103004 0 (wrap64 (x102003 - 1))).bind fun t112 => (some t112)) else (some false)) else (some false)) else (if x103000 = 5 then (if x5 = true then (if x103002 = 0 then (if x103003 = 0 then (some (x103005 == 0)) else (some false)) else (some false)) else (some false)) else (if x103000 = 6 then (if x103001 = 0 then (if x6 = true then (if x103003 = 0 then (some (x103005 == 0)) else (some false)) else (some false)) else (some false)) else (some false))))))))
end
def spec_l04InstrOk.f (k : Nat) (l0_0 : List Int) (a0_1 : Int) (a0_2 : Int) (a0_3 : Int) (l0_4 : List (S47)) (a1_0 : Int) (a1_1 : Int) (a1_2 : Int) (a1_3 : Int) (a1_4 : Int) (a1_5 : Int) (a1_6 : ByteArray) : Option (Bool) := (spec_l01In.f a1_1 0 (wrap64 (a0_3 - 1))).bind fun t103 => ((spec_l01In.f a1_2 0 (wrap64 (a0_3 - 1))).bind fun t104 => ((spec_l01In.f a1_3 0 (wrap64 (a0_3 - 1))).bind fun t105 => (if t104 = true then (if t105 = true then ((spec_l01In.f a1_5 0 (wrap64 ((l0_0.length : Int) - 1))).bind fun t106 => (spec_l04InstrOk.j0 k t103 t104 t105 t106 l0_0 a0_1 a0_2 a0_3 l0_4 a1_0 a1_1 a1_2 a1_3 a1_4 a1_5 a1_6)) else (spec_l04InstrOk.j0 k t103 t104 t105 false l0_0 a0_1 a0_2 a0_3 l0_4 a1_0 a1_1 a1_2 a1_3 a1_4 a1_5 a1_6)) else (if a1_2 = (-1) then (if t105 = true then ((spec_l01In.f a1_5 0 (wrap64 ((l0_0.length : Int) - 1))).bind fun t107 => (spec_l04InstrOk.j0 k t103 t104 t105 t107 l0_0 a0_1 a0_2 a0_3 l0_4 a1_0 a1_1 a1_2 a1_3 a1_4 a1_5 a1_6)) else (spec_l04InstrOk.j0 k t103 t104 t105 false l0_0 a0_1 a0_2 a0_3 l0_4 a1_0 a1_1 a1_2 a1_3 a1_4 a1_5 a1_6)) else (spec_l04InstrOk.j0 k t103 t104 t105 false l0_0 a0_1 a0_2 a0_3 l0_4 a1_0 a1_1 a1_2 a1_3 a1_4 a1_5 a1_6)))))
theorem spec_l04InstrOk.mono_l : ∀ k, (∀ y0 y1 y2 y3 y4 y5 y6 y7 y8 y9 y10 y11 y12 y13 y14 y15, LeO (spec_l04InstrOk.j0 k y0 y1 y2 y3 y4 y5 y6 y7 y8 y9 y10 y11 y12 y13 y14 y15) (spec_l04InstrOk.j0 (k + 1) y0 y1 y2 y3 y4 y5 y6 y7 y8 y9 y10 y11 y12 y13 y14 y15)) ∧ (∀ y0 y1 y2 y3 y4 y5 y6 y7 y8 y9 y10 y11 y12 y13 y14 y15 y16, LeO (spec_l04InstrOk.j1 k y0 y1 y2 y3 y4 y5 y6 y7 y8 y9 y10 y11 y12 y13 y14 y15 y16) (spec_l04InstrOk.j1 (k + 1) y0 y1 y2 y3 y4 y5 y6 y7 y8 y9 y10 y11 y12 y13 y14 y15 y16))
  | 0 => ⟨fun _ _ _ _ _ _ _ _ _ _ _ _ _ _ _ _ r h => by simp [spec_l04InstrOk.j0] at h, fun _ _ _ _ _ _ _ _ _ _ _ _ _ _ _ _ _ r h => by simp [spec_l04InstrOk.j1] at h⟩
  | k + 1 => by
    obtain ⟨ih0, ih1⟩ := spec_l04InstrOk.mono_l k
    refine ⟨?_, ?_⟩
    · intro y0 y1 y2 y3 y4 y5 y6 y7 y8 y9 y10 y11 y12 y13 y14 y15
      unfold spec_l04InstrOk.j0
      repeat' (first | (with_reducible first | exact ih0 _ _ _ _ _ _ _ _ _ _ _ _ _ _ _ _ | exact ih1 _ _ _ _ _ _ _ _ _ _ _ _ _ _ _ _ _ | exact spec_l01Has.mono _ _ _ | exact LeO.refl _ | exact LeO.none _ | refine LeO.ite ?_ ?_ | refine LeO.bind ?_ (fun _ => ?_)) | exact ih0 _ _ _ _ _ _ _ _ _ _ _ _ _ _ _ _ | exact ih1 _ _ _ _ _ _ _ _ _ _ _ _ _ _ _ _ _ | exact spec_l01Has.mono _ _ _ | exact LeO.none _ | refine LeO.ite ?_ ?_ | refine LeO.bind ?_ (fun _ => ?_))
    · intro y0 y1 y2 y3 y4 y5 y6 y7 y8 y9 y10 y11 y12 y13 y14 y15 y16
      unfold spec_l04InstrOk.j1
      repeat' (first | (with_reducible first | exact ih0 _ _ _ _ _ _ _ _ _ _ _ _ _ _ _ _ | exact ih1 _ _ _ _ _ _ _ _ _ _ _ _ _ _ _ _ _ | exact spec_l01Has.mono _ _ _ | exact LeO.refl _ | exact LeO.none _ | refine LeO.ite ?_ ?_ | refine LeO.bind ?_ (fun _ => ?_)) | exact ih0 _ _ _ _ _ _ _ _ _ _ _ _ _ _ _ _ | exact ih1 _ _ _ _ _ _ _ _ _ _ _ _ _ _ _ _ _ | exact spec_l01Has.mono _ _ _ | exact LeO.none _ | refine LeO.ite ?_ ?_ | refine LeO.bind ?_ (fun _ => ?_))
theorem spec_l04InstrOk.mono : ∀ a0 a1 a2 a3 a4 a5 a6 a7 a8 a9 a10 a11 k, LeO (spec_l04InstrOk.f k a0 a1 a2 a3 a4 a5 a6 a7 a8 a9 a10 a11) (spec_l04InstrOk.f (k + 1) a0 a1 a2 a3 a4 a5 a6 a7 a8 a9 a10 a11) := by
  intro a0 a1 a2 a3 a4 a5 a6 a7 a8 a9 a10 a11 k
  obtain ⟨ih0, ih1⟩ := spec_l04InstrOk.mono_l k
  unfold spec_l04InstrOk.f
  repeat' (first | (with_reducible first | exact ih0 _ _ _ _ _ _ _ _ _ _ _ _ _ _ _ _ | exact ih1 _ _ _ _ _ _ _ _ _ _ _ _ _ _ _ _ _ | exact spec_l01Has.mono _ _ _ | exact LeO.refl _ | exact LeO.none _ | refine LeO.ite ?_ ?_ | refine LeO.bind ?_ (fun _ => ?_)) | exact ih0 _ _ _ _ _ _ _ _ _ _ _ _ _ _ _ _ | exact ih1 _ _ _ _ _ _ _ _ _ _ _ _ _ _ _ _ _ | exact spec_l01Has.mono _ _ _ | exact LeO.none _ | refine LeO.ite ?_ ?_ | refine LeO.bind ?_ (fun _ => ?_))
theorem spec_l04InstrOk.calls (k : Nat) (A0_0 : Option Addr) (c0_0 : Nat) (l0_0 : List Int) (a0_1 : Int) (a0_2 : Int) (a0_3 : Int) (A0_4 : Option Addr) (c0_4 : Nat) (l0_4 : List (S47)) (a1_0 : Int) (a1_1 : Int) (a1_2 : Int) (a1_3 : Int) (a1_4 : Int) (a1_5 : Int) (a1_6 : ByteArray) (r : Bool) (w : World) (hr0_0 : Kd.C (Kd.int .i64) w A0_0 l0_0.length l0_0) (hc0_0 : l0_0.length ≤ c0_0) (hr0_4 : Kd.C k47 w A0_4 l0_4.length l0_4) (hc0_4 : l0_4.length ≤ c0_4) (h : spec_l04InstrOk.f k l0_0 a0_1 a0_2 a0_3 l0_4 a1_0 a1_1 a1_2 a1_3 a1_4 a1_5 a1_6 = some r) :
  Calls Try.prog 69 #[.agg #[.slice A0_0 l0_0.length c0_0, .int .i64 a0_1, .int .i64 a0_2, .int .i64 a0_3, .slice A0_4 l0_4.length c0_4], .agg #[.int .i64 a1_0, .int .i64 a1_1, .int .i64 a1_2, .int .i64 a1_3, .int .i64 a1_4, .int .i64 a1_5, .string a1_6]] w fun e w' => e = .returned (.bool r) ∧ Below w.heap.size w w' := by
 have hu29 := Try.underlying29
 have hu57 := Try.underlying57
 have HR0_0 := Zs0.mk hr0_0
 have HC0_0 := Zs0.mk hc0_0
 clear hr0_0 hc0_0
 have HR0_4 := Zs0.mk hr0_4
 have HC0_4 := Zs0.mk hc0_4
 clear hr0_4 hc0_4
 have HB := Zs0.mk (Below.refl w.heap.size w)
 have H : ((spec_l01In.f a1_1 0 (wrap64 (a0_3 - 1))).bind fun t103 => ((spec_l01In.f a1_2 0 (wrap64 (a0_3 - 1))).bind fun t104 => ((spec_l01In.f a1_3 0 (wrap64 (a0_3 - 1))).bind fun t105 => (if t104 = true then (if t105 = true then ((spec_l01In.f a1_5 0 (wrap64 ((l0_0.length : Int) - 1))).bind fun t106 => (spec_l04InstrOk.j0 k t103 t104 t105 t106 l0_0 a0_1 a0_2 a0_3 l0_4 a1_0 a1_1 a1_2 a1_3 a1_4 a1_5 a1_6)) else (spec_l04InstrOk.j0 k t103 t104 t105 false l0_0 a0_1 a0_2 a0_3 l0_4 a1_0 a1_1 a1_2 a1_3 a1_4 a1_5 a1_6)) else (if a1_2 = (-1) then (if t105 = true then ((spec_l01In.f a1_5 0 (wrap64 ((l0_0.length : Int) - 1))).bind fun t107 => (spec_l04InstrOk.j0 k t103 t104 t105 t107 l0_0 a0_1 a0_2 a0_3 l0_4 a1_0 a1_1 a1_2 a1_3 a1_4 a1_5 a1_6)) else (spec_l04InstrOk.j0 k t103 t104 t105 false l0_0 a0_1 a0_2 a0_3 l0_4 a1_0 a1_1 a1_2 a1_3 a1_4 a1_5 a1_6)) else (spec_l04InstrOk.j0 k t103 t104 t105 false l0_0 a0_1 a0_2 a0_3 l0_4 a1_0 a1_1 a1_2 a1_3 a1_4 a1_5 a1_6)))))) = some r := h
 clear h
 replace H := Option.bind_eq_some_iff.mp H
 obtain ⟨t103, A30, H⟩ := H
 try dsimp only at H
 have A3 := Zs0.mk A30
 clear A30
 replace H := Option.bind_eq_some_iff.mp H
 obtain ⟨t104, A40, H⟩ := H
 try dsimp only at H
 have A4 := Zs0.mk A40
 clear A40
 replace H := Option.bind_eq_some_iff.mp H
 obtain ⟨t105, A50, H⟩ := H
 try dsimp only at H
 have A5 := Zs0.mk A50
 clear A50
 have HC6 := Zs0.mk H
 clear H
 go_enter Try.func69, Try.ntmps69
 go_upto_region 4 with (first | ((with_reducible refine gtD (N := 2) rfl ?_); (try (refine gate_guard (by rfl) ?_; dsimp only)); refine bxE ?hg (N := 2) ?hd (cs := #[.slice A0_0 l0_0.length c0_0, .int .i64 a0_1, .int .i64 a0_2, .int .i64 a0_3, .slice A0_4 l0_4.length c0_4]) (t := 29) ?hr ?_; (case hd => rfl); (case hg => rfl); (case hr => first | (go_simp; done) | (go_simp; rfl)); intro gb101 hg w7 hbox hb; have n0_ := Zs0.mk (blT zB hb); have n1_ := Zs0.mk (hbox); have n2_ := Zs0.mk (zs hg : w.heap.size ≤ gb101); have n3_ := Zs0.mk (zs hg : w.heap.size ≤ gb101); revert n0_ n1_ n2_ n3_; clear HB; intro HB BK101 GW101 GE101; clear hb hbox hg) | ((with_reducible refine gtD (N := 3) rfl ?_); (try (refine gate_guard (by rfl) ?_; dsimp only)); refine bxE ?hg (N := 3) ?hd (cs := #[.int .i64 a1_0, .int .i64 a1_1, .int .i64 a1_2, .int .i64 a1_3, .int .i64 a1_4, .int .i64 a1_5, .string a1_6]) (t := 57) ?hr ?_; (case hd => rfl); (case hg => rfl); (case hr => first | (go_simp; done) | (go_simp; rfl)); intro gb102 hg w8 hbox hb; have n0_ := Zs0.mk (bkB (zG BK101.out) hb); have n1_ := Zs0.mk (blT zB hb); have n2_ := Zs0.mk (hbox); have n3_ := Zs0.mk (zs hg : w.heap.size ≤ gb102); have n4_ := Zs0.mk (zs hg : w.heap.size ≤ gb102); have n5_ := Zs0.mk ((by rw [hg]; exact Nat.ne_of_lt (blk_lt (zG BK101.out)) : gb101 ≠ gb102)); have n6_ := Zs0.mk ((by rw [hg]; exact Nat.ne_of_gt (blk_lt (zG BK101.out)) : gb102 ≠ gb101)); revert n0_ n1_ n2_ n3_ n4_ n5_ n6_; clear BK101 HB; intro BK101 HB BK102 GW102 GE102 NB101_102 NB102_101; clear hb hbox hg; have hnb9 := NB102_101.out; have hnc9 := NB101_102.out; obtain ⟨hcz10_0, hcz10_1, hcz10_2, hcz10_3, hcz10_4, hcz10_5, hcz10_6, hfz10_0, hfz10_1, hfz10_2, hfz10_3, hfz10_4, hfz10_5, hfz10_6⟩ := bx7 BK102.out; obtain ⟨hcz11_0, hcz11_1, hcz11_2, hcz11_3, hcz11_4, hfz11_0, hfz11_1, hfz11_2, hfz11_3, hfz11_4⟩ := bx5 BK101.out) | ((with_reducible refine gtC (f := 44) rfl ?_); refine goesL_ (some 14) rfl rfl Try.func44 (by kernel_rfl) rfl #[.int .i64 a1_1, .int .i64 0, .int .i64 (wrap64 (a0_3 - 1))] rfl zM ?_; (with_reducible refine (spec_l01In.calls a1_1 0 (wrap64 (a0_3 - 1)) t103 _ A3.out).mono ?_); rintro e w' ⟨rfl, ⟨nd, rfl⟩⟩; refine ⟨_, rfl, ?_⟩) | ((with_reducible refine gtC (f := 44) rfl ?_); refine goesL_ (some 20) rfl rfl Try.func44 (by kernel_rfl) rfl #[.int .i64 a1_2, .int .i64 0, .int .i64 (wrap64 (a0_3 - 1))] rfl zM ?_; (with_reducible refine (spec_l01In.calls a1_2 0 (wrap64 (a0_3 - 1)) t104 _ A4.out).mono ?_); rintro e w' ⟨rfl, ⟨nd, rfl⟩⟩; refine ⟨_, rfl, ?_⟩) | ((with_reducible refine gtC (f := 44) rfl ?_); refine goesL_ (some 26) rfl rfl Try.func44 (by kernel_rfl) rfl #[.int .i64 a1_3, .int .i64 0, .int .i64 (wrap64 (a0_3 - 1))] rfl zM ?_; (with_reducible refine (spec_l01In.calls a1_3 0 (wrap64 (a0_3 - 1)) t105 _ A5.out).mono ?_); rintro e w' ⟨rfl, ⟨nd, rfl⟩⟩; refine ⟨_, rfl, ?_⟩))
 (try simp only [Act.put, List.setIfInBounds_toArray, List.set_cons_zero, List.set_cons_succ])
 go_cut [8] (fun v8 wc => ∃ (kq : Nat) (x8_5 : Bool), v8 = .bool x8_5 ∧ Zs0 (spec_l04InstrOk.j0 kq t103 t104 t105 x8_5 l0_0 a0_1 a0_2 a0_3 l0_4 a1_0 a1_1 a1_2 a1_3 a1_4 a1_5 a1_6 = some r) ∧ Zs0 (kq ≤ k) ∧ Zs0 (wc.heap[gb101]? = some (.cells #[(.slice A0_0 l0_0.length c0_0), .int .i64 a0_1, .int .i64 a0_2, .int .i64 a0_3, (.slice A0_4 l0_4.length c0_4)] 29 (0, 0))) ∧ Zs0 (wc.heap[gb102]? = some (.cells #[.int .i64 a1_0, .int .i64 a1_1, .int .i64 a1_2, .int .i64 a1_3, .int .i64 a1_4, .int .i64 a1_5, .string a1_6] 57 (0, 0))) ∧ Zs0 (Below w.heap.size w wc))
 case first =>
  have H := HC6.out
  clear HC6
  by_cases c12 : t104 = true
  ·subst c12
   have H1 : (if t105 = true then ((spec_l01In.f a1_5 0 (wrap64 ((l0_0.length : Int) - 1))).bind fun t106 => (spec_l04InstrOk.j0 k t103 true t105 t106 l0_0 a0_1 a0_2 a0_3 l0_4 a1_0 a1_1 a1_2 a1_3 a1_4 a1_5 a1_6)) else (spec_l04InstrOk.j0 k t103 true t105 false l0_0 a0_1 a0_2 a0_3 l0_4 a1_0 a1_1 a1_2 a1_3 a1_4 a1_5 a1_6)) = some r := by rw [if_pos rfl] at H; exact H
   clear H
   have H := H1
   clear H1
   by_cases c13 : t105 = true
   ·subst c13
    have H1 : ((spec_l01In.f a1_5 0 (wrap64 ((l0_0.length : Int) - 1))).bind fun t106 => (spec_l04InstrOk.j0 k t103 true true t106 l0_0 a0_1 a0_2 a0_3 l0_4 a1_0 a1_1 a1_2 a1_3 a1_4 a1_5 a1_6)) = some r := by rw [if_pos rfl] at H; exact H
    clear H
    have H := H1
    clear H1
    replace H := Option.bind_eq_some_iff.mp H
    obtain ⟨t106, A140, H⟩ := H
    try dsimp only at H
    have A14 := Zs0.mk A140
    clear A140
    have H' := Zs0.mk H
    clear H
    have hnb15 := NB102_101.out
    have hnc15 := NB101_102.out
    obtain ⟨hcz16_0, hcz16_1, hcz16_2, hcz16_3, hcz16_4, hcz16_5, hcz16_6, hfz16_0, hfz16_1, hfz16_2, hfz16_3, hfz16_4, hfz16_5, hfz16_6⟩ := bx7 BK102.out
    obtain ⟨hcz17_0, hcz17_1, hcz17_2, hcz17_3, hcz17_4, hfz17_0, hfz17_1, hfz17_2, hfz17_3, hfz17_4⟩ := bx5 BK101.out
    go_wp2_with (first | (go_at_call 44; (with_reducible refine (spec_l01In.calls a1_5 0 (wrap64 ((l0_0.length : Int) - 1)) t106 _ A14.out).mono ?_); rintro e w' ⟨rfl, ⟨nd, rfl⟩⟩))
    go_meet
    case rel => exact ⟨_, (t106), zq, H', ⟨by first | omega | exact Nat.le_refl _⟩, ⟨zG BK101.out⟩, ⟨zG BK102.out⟩, ⟨zB⟩⟩
   ·replace c13 := Bool.eq_false_iff.mpr c13
    subst c13
    have H1 : (spec_l04InstrOk.j0 k t103 true false false l0_0 a0_1 a0_2 a0_3 l0_4 a1_0 a1_1 a1_2 a1_3 a1_4 a1_5 a1_6) = some r := by rw [if_neg (show ¬ (false = true) by decide)] at H; exact H
    clear H
    have H := H1
    clear H1
    have H' := Zs0.mk H
    clear H
    go_wp2
    go_meet
    case rel => exact ⟨_, (false), zq, H', ⟨by first | omega | exact Nat.le_refl _⟩, ⟨zG BK101.out⟩, ⟨zG BK102.out⟩, ⟨zB⟩⟩
  ·replace c12 := Bool.eq_false_iff.mpr c12
   subst c12
   have H1 : (if a1_2 = (-1) then (if t105 = true then ((spec_l01In.f a1_5 0 (wrap64 ((l0_0.length : Int) - 1))).bind fun t107 => (spec_l04InstrOk.j0 k t103 false t105 t107 l0_0 a0_1 a0_2 a0_3 l0_4 a1_0 a1_1 a1_2 a1_3 a1_4 a1_5 a1_6)) else (spec_l04InstrOk.j0 k t103 false t105 false l0_0 a0_1 a0_2 a0_3 l0_4 a1_0 a1_1 a1_2 a1_3 a1_4 a1_5 a1_6)) else (spec_l04InstrOk.j0 k t103 false t105 false l0_0 a0_1 a0_2 a0_3 l0_4 a1_0 a1_1 a1_2 a1_3 a1_4 a1_5 a1_6)) = some r := by rw [if_neg (show ¬ (false = true) by decide)] at H; exact H
   clear H
   have H := H1
   clear H1
   by_cases c18 : a1_2 = (-1)
   ·rw [if_pos c18] at H
    have c18b0 : (a1_2 == (-1)) = true := beq_iff_eq.mpr c18
    have c18b1 : (a1_2 != (-1)) = false := bne_eq_false_iff_eq.mpr c18
    clear c18
    (first | rw [c18b0] | (simp only [i64_w, i32_w]; rw [c18b0]) | skip)
    by_cases c19 : t105 = true
    ·subst c19
     have H1 : ((spec_l01In.f a1_5 0 (wrap64 ((l0_0.length : Int) - 1))).bind fun t107 => (spec_l04InstrOk.j0 k t103 false true t107 l0_0 a0_1 a0_2 a0_3 l0_4 a1_0 a1_1 a1_2 a1_3 a1_4 a1_5 a1_6)) = some r := by rw [if_pos rfl] at H; exact H
     clear H
     have H := H1
     clear H1
     replace H := Option.bind_eq_some_iff.mp H
     obtain ⟨t107, A200, H⟩ := H
     try dsimp only at H
     have A20 := Zs0.mk A200
     clear A200
     have H' := Zs0.mk H
     clear H
     have hnb21 := NB102_101.out
     have hnc21 := NB101_102.out
     obtain ⟨hcz22_0, hcz22_1, hcz22_2, hcz22_3, hcz22_4, hcz22_5, hcz22_6, hfz22_0, hfz22_1, hfz22_2, hfz22_3, hfz22_4, hfz22_5, hfz22_6⟩ := bx7 BK102.out
     obtain ⟨hcz23_0, hcz23_1, hcz23_2, hcz23_3, hcz23_4, hfz23_0, hfz23_1, hfz23_2, hfz23_3, hfz23_4⟩ := bx5 BK101.out
     go_wp2_with (first | (go_at_call 44; (with_reducible refine (spec_l01In.calls a1_5 0 (wrap64 ((l0_0.length : Int) - 1)) t107 _ A20.out).mono ?_); rintro e w' ⟨rfl, ⟨nd, rfl⟩⟩))
     go_meet
     case rel => exact ⟨_, (t107), zq, H', ⟨by first | omega | exact Nat.le_refl _⟩, ⟨zG BK101.out⟩, ⟨zG BK102.out⟩, ⟨zB⟩⟩
    ·replace c19 := Bool.eq_false_iff.mpr c19
     subst c19
     have H1 : (spec_l04InstrOk.j0 k t103 false false false l0_0 a0_1 a0_2 a0_3 l0_4 a1_0 a1_1 a1_2 a1_3 a1_4 a1_5 a1_6) = some r := by rw [if_neg (show ¬ (false = true) by decide)] at H; exact H
     clear H
     have H := H1
     clear H1
     have H' := Zs0.mk H
     clear H
     have hnb24 := NB102_101.out
     have hnc24 := NB101_102.out
     obtain ⟨hcz25_0, hcz25_1, hcz25_2, hcz25_3, hcz25_4, hcz25_5, hcz25_6, hfz25_0, hfz25_1, hfz25_2, hfz25_3, hfz25_4, hfz25_5, hfz25_6⟩ := bx7 BK102.out
     go_wp2
     go_meet
     case rel => exact ⟨_, (false), zq, H', ⟨by first | omega | exact Nat.le_refl _⟩, ⟨zG BK101.out⟩, ⟨zG BK102.out⟩, ⟨zB⟩⟩
   ·rw [if_neg c18] at H
    have c18b0 : (a1_2 == (-1)) = false := beq_eq_false_iff_ne.mpr c18
    have c18b1 : (a1_2 != (-1)) = true := bne_iff_ne.mpr c18
    (first | rw [c18b0] | (simp only [i64_w, i32_w]; rw [c18b0]) | skip)
    have H' := Zs0.mk H
    clear H
    have hnb26 := NB102_101.out
    have hnc26 := NB101_102.out
    obtain ⟨hcz27_0, hcz27_1, hcz27_2, hcz27_3, hcz27_4, hcz27_5, hcz27_6, hfz27_0, hfz27_1, hfz27_2, hfz27_3, hfz27_4, hfz27_5, hfz27_6⟩ := bx7 BK102.out
    go_wp2
    go_meet
    case rel => exact ⟨_, (false), zq, H', ⟨by first | omega | exact Nat.le_refl _⟩, ⟨zG BK101.out⟩, ⟨zG BK102.out⟩, ⟨zB⟩⟩
 case rest =>
  clear HC6
  try clear c1
  try clear c2
  try clear p2
  try clear c4
  try clear c6
  try clear p6
  try clear c9
  try clear c12
  try clear c13
  try clear c15
  try clear c18
  try clear c18b0
  try clear c18b1
  try clear c19
  try clear c21
  try clear c24
  try clear c26
  try clear hcz10_0 hcz10_1 hcz10_2 hcz10_3 hcz10_4 hcz10_5 hcz10_6
  try clear hcz11_0 hcz11_1 hcz11_2 hcz11_3 hcz11_4
  try clear hcz16_0 hcz16_1 hcz16_2 hcz16_3 hcz16_4 hcz16_5 hcz16_6
  try clear hcz17_0 hcz17_1 hcz17_2 hcz17_3 hcz17_4
  try clear hcz22_0 hcz22_1 hcz22_2 hcz22_3 hcz22_4 hcz22_5 hcz22_6
  try clear hcz23_0 hcz23_1 hcz23_2 hcz23_3 hcz23_4
  try clear hcz25_0 hcz25_1 hcz25_2 hcz25_3 hcz25_4 hcz25_5 hcz25_6
  try clear hcz27_0 hcz27_1 hcz27_2 hcz27_3 hcz27_4 hcz27_5 hcz27_6
  try clear hfz10_0 hfz10_1 hfz10_2 hfz10_3 hfz10_4 hfz10_5 hfz10_6
  try clear hfz11_0 hfz11_1 hfz11_2 hfz11_3 hfz11_4
  try clear hfz16_0 hfz16_1 hfz16_2 hfz16_3 hfz16_4 hfz16_5 hfz16_6
  try clear hfz17_0 hfz17_1 hfz17_2 hfz17_3 hfz17_4
  try clear hfz22_0 hfz22_1 hfz22_2 hfz22_3 hfz22_4 hfz22_5 hfz22_6
  try clear hfz23_0 hfz23_1 hfz23_2 hfz23_3 hfz23_4
  try clear hfz25_0 hfz25_1 hfz25_2 hfz25_3 hfz25_4 hfz25_5 hfz25_6
  try clear hfz27_0 hfz27_1 hfz27_2 hfz27_3 hfz27_4 hfz27_5 hfz27_6
  obtain ⟨kq, x8_5, rfl, HA, HJ5, BK101, BK102, HB⟩ := hcut
  cases kq with
  | zero => exact absurd HA.out (by simp [spec_l04InstrOk.j0])
  | succ kj5 =>
   have H := HA.out
   clear HA
   simp only [spec_l04InstrOk.j0] at H
   have HC28 := Zs0.mk H
   clear H
   go_upto_region 5 with (fail)
   go_cut [62] (fun v62 wc => ∃ (kq : Nat) (x62_27 : Bool), v62 = .bool x62_27 ∧ Zs0 (spec_l04InstrOk.j1 kq t103 t104 t105 x8_5 x62_27 l0_0 a0_1 a0_2 a0_3 l0_4 a1_0 a1_1 a1_2 a1_3 a1_4 a1_5 a1_6 = some r) ∧ Zs0 (kq ≤ kj5) ∧ Zs0 (wc.heap[gb101]? = some (.cells #[(.slice A0_0 l0_0.length c0_0), .int .i64 a0_1, .int .i64 a0_2, .int .i64 a0_3, (.slice A0_4 l0_4.length c0_4)] 29 (0, 0))) ∧ Zs0 (wc.heap[gb102]? = some (.cells #[.int .i64 a1_0, .int .i64 a1_1, .int .i64 a1_2, .int .i64 a1_3, .int .i64 a1_4, .int .i64 a1_5, .string a1_6] 57 (0, 0))) ∧ Zs0 (Below w.heap.size w wc))
   case first =>
    have H := HC28.out
    clear HC28
    by_cases c29 : a1_0 = 2
    ·rw [if_pos c29] at H
     have c29b0 : (a1_0 == 2) = true := beq_iff_eq.mpr c29
     have c29b1 : (a1_0 != 2) = false := bne_eq_false_iff_eq.mpr c29
     clear c29
     (first | rw [c29b0] | (simp only [i64_w, i32_w]; rw [c29b0]) | skip)
     by_cases c30 : a1_0 = 4
     ·rw [if_pos c30] at H
      have c30b0 : (a1_0 == 4) = true := beq_iff_eq.mpr c30
      have c30b1 : (a1_0 != 4) = false := bne_eq_false_iff_eq.mpr c30
      clear c30
      have H' := Zs0.mk H
      clear H
      have hnb31 := NB102_101.out
      have hnc31 := NB101_102.out
      obtain ⟨hcz32_0, hcz32_1, hcz32_2, hcz32_3, hcz32_4, hcz32_5, hcz32_6, hfz32_0, hfz32_1, hfz32_2, hfz32_3, hfz32_4, hfz32_5, hfz32_6⟩ := bx7 BK102.out
      go_wp2
      go_meet
      case rel => exact ⟨_, (false), zq, H', ⟨by have := HJ5.out; first | omega | exact Nat.le_refl _⟩, ⟨zG BK101.out⟩, ⟨zG BK102.out⟩, ⟨zB⟩⟩
     ·rw [if_neg c30] at H
      have c30b0 : (a1_0 == 4) = false := beq_eq_false_iff_ne.mpr c30
      have c30b1 : (a1_0 != 4) = true := bne_iff_ne.mpr c30
      have H' := Zs0.mk H
      clear H
      have hnb33 := NB102_101.out
      have hnc33 := NB101_102.out
      obtain ⟨hcz34_0, hcz34_1, hcz34_2, hcz34_3, hcz34_4, hcz34_5, hcz34_6, hfz34_0, hfz34_1, hfz34_2, hfz34_3, hfz34_4, hfz34_5, hfz34_6⟩ := bx7 BK102.out
      go_wp2
      go_meet
      case rel => exact ⟨_, ((a1_4 != 0)), zq, H', ⟨by have := HJ5.out; first | omega | exact Nat.le_refl _⟩, ⟨zG BK101.out⟩, ⟨zG BK102.out⟩, ⟨zB⟩⟩
    ·rw [if_neg c29] at H
     have c29b0 : (a1_0 == 2) = false := beq_eq_false_iff_ne.mpr c29
     have c29b1 : (a1_0 != 2) = true := bne_iff_ne.mpr c29
     (first | rw [c29b0] | (simp only [i64_w, i32_w]; rw [c29b0]) | skip)
     by_cases c35 : a1_6.toList = ([] : List UInt8)
     ·rw [if_pos c35] at H
      have c35b0 : (a1_6.toList == ([] : List UInt8)) = true := beq_iff_eq.mpr c35
      have c35b1 : (a1_6.toList != ([] : List UInt8)) = false := bne_eq_false_iff_eq.mpr c35
      clear c35
      by_cases c36 : a1_0 = 4
      ·rw [if_pos c36] at H
       have c36b0 : (a1_0 == 4) = true := beq_iff_eq.mpr c36
       have c36b1 : (a1_0 != 4) = false := bne_eq_false_iff_eq.mpr c36
       clear c36
       have H' := Zs0.mk H
       clear H
       have hnb37 := NB102_101.out
       have hnc37 := NB101_102.out
       obtain ⟨hcz38_0, hcz38_1, hcz38_2, hcz38_3, hcz38_4, hcz38_5, hcz38_6, hfz38_0, hfz38_1, hfz38_2, hfz38_3, hfz38_4, hfz38_5, hfz38_6⟩ := bx7 BK102.out
       go_wp2
       go_meet
       case rel => exact ⟨_, (false), zq, H', ⟨by have := HJ5.out; first | omega | exact Nat.le_refl _⟩, ⟨zG BK101.out⟩, ⟨zG BK102.out⟩, ⟨zB⟩⟩
      ·rw [if_neg c36] at H
       have c36b0 : (a1_0 == 4) = false := beq_eq_false_iff_ne.mpr c36
       have c36b1 : (a1_0 != 4) = true := bne_iff_ne.mpr c36
       have H' := Zs0.mk H
       clear H
       have hnb39 := NB102_101.out
       have hnc39 := NB101_102.out
       obtain ⟨hcz40_0, hcz40_1, hcz40_2, hcz40_3, hcz40_4, hcz40_5, hcz40_6, hfz40_0, hfz40_1, hfz40_2, hfz40_3, hfz40_4, hfz40_5, hfz40_6⟩ := bx7 BK102.out
       go_wp2
       go_meet
       case rel => exact ⟨_, ((a1_4 != 0)), zq, H', ⟨by have := HJ5.out; first | omega | exact Nat.le_refl _⟩, ⟨zG BK101.out⟩, ⟨zG BK102.out⟩, ⟨zB⟩⟩
     ·rw [if_neg c35] at H
      have c35b0 : (a1_6.toList == ([] : List UInt8)) = false := beq_eq_false_iff_ne.mpr c35
      have c35b1 : (a1_6.toList != ([] : List UInt8)) = true := bne_iff_ne.mpr c35
      have H' := Zs0.mk H
      clear H
      have hnb41 := NB102_101.out
      have hnc41 := NB101_102.out
      obtain ⟨hcz42_0, hcz42_1, hcz42_2, hcz42_3, hcz42_4, hcz42_5, hcz42_6, hfz42_0, hfz42_1, hfz42_2, hfz42_3, hfz42_4, hfz42_5, hfz42_6⟩ := bx7 BK102.out
      go_wp2
      go_meet
      case rel => exact ⟨_, (true), zq, H', ⟨by have := HJ5.out; first | omega | exact Nat.le_refl _⟩, ⟨zG BK101.out⟩, ⟨zG BK102.out⟩, ⟨zB⟩⟩
   case rest =>
    clear HC28
    try clear c1
    try clear c2
    try clear p2
    try clear c3
    try clear c4
    try clear c6
    try clear p6
    try clear c9
    try clear c12
    try clear c13
    try clear c15
    try clear c18
    try clear c18b0
    try clear c18b1
    try clear c19
    try clear c21
    try clear c24
    try clear c26
    try clear c29
    try clear c29b0
    try clear c29b1
    try clear c30
    try clear c30b0
    try clear c30b1
    try clear c31
    try clear c33
    try clear c35
    try clear c35b0
    try clear c35b1
    try clear c36
    try clear c36b0
    try clear c36b1
    try clear c37
    try clear c39
    try clear c41
    try clear hcz10_0 hcz10_1 hcz10_2 hcz10_3 hcz10_4 hcz10_5 hcz10_6
    try clear hcz11_0 hcz11_1 hcz11_2 hcz11_3 hcz11_4
    try clear hcz16_0 hcz16_1 hcz16_2 hcz16_3 hcz16_4 hcz16_5 hcz16_6
    try clear hcz17_0 hcz17_1 hcz17_2 hcz17_3 hcz17_4
    try clear hcz22_0 hcz22_1 hcz22_2 hcz22_3 hcz22_4 hcz22_5 hcz22_6
    try clear hcz23_0 hcz23_1 hcz23_2 hcz23_3 hcz23_4
    try clear hcz25_0 hcz25_1 hcz25_2 hcz25_3 hcz25_4 hcz25_5 hcz25_6
    try clear hcz27_0 hcz27_1 hcz27_2 hcz27_3 hcz27_4 hcz27_5 hcz27_6
    try clear hcz32_0 hcz32_1 hcz32_2 hcz32_3 hcz32_4 hcz32_5 hcz32_6
    try clear hcz34_0 hcz34_1 hcz34_2 hcz34_3 hcz34_4 hcz34_5 hcz34_6
    try clear hcz38_0 hcz38_1 hcz38_2 hcz38_3 hcz38_4 hcz38_5 hcz38_6
    try clear hcz40_0 hcz40_1 hcz40_2 hcz40_3 hcz40_4 hcz40_5 hcz40_6
    try clear hcz42_0 hcz42_1 hcz42_2 hcz42_3 hcz42_4 hcz42_5 hcz42_6
    try clear hfz10_0 hfz10_1 hfz10_2 hfz10_3 hfz10_4 hfz10_5 hfz10_6
    try clear hfz11_0 hfz11_1 hfz11_2 hfz11_3 hfz11_4
    try clear hfz16_0 hfz16_1 hfz16_2 hfz16_3 hfz16_4 hfz16_5 hfz16_6
    try clear hfz17_0 hfz17_1 hfz17_2 hfz17_3 hfz17_4
    try clear hfz22_0 hfz22_1 hfz22_2 hfz22_3 hfz22_4 hfz22_5 hfz22_6
    try clear hfz23_0 hfz23_1 hfz23_2 hfz23_3 hfz23_4
    try clear hfz25_0 hfz25_1 hfz25_2 hfz25_3 hfz25_4 hfz25_5 hfz25_6
    try clear hfz27_0 hfz27_1 hfz27_2 hfz27_3 hfz27_4 hfz27_5 hfz27_6
    try clear hfz32_0 hfz32_1 hfz32_2 hfz32_3 hfz32_4 hfz32_5 hfz32_6
    try clear hfz34_0 hfz34_1 hfz34_2 hfz34_3 hfz34_4 hfz34_5 hfz34_6
    try clear hfz38_0 hfz38_1 hfz38_2 hfz38_3 hfz38_4 hfz38_5 hfz38_6
    try clear hfz40_0 hfz40_1 hfz40_2 hfz40_3 hfz40_4 hfz40_5 hfz40_6
    try clear hfz42_0 hfz42_1 hfz42_2 hfz42_3 hfz42_4 hfz42_5 hfz42_6
    try clear p2
    try clear p6
    obtain ⟨kq, x62_27, rfl, HA, HJ27, BK101, BK102, HB⟩ := hcut
    cases kq with
    | zero => exact absurd HA.out (by simp [spec_l04InstrOk.j1])
    | succ kj27 =>
     have H := HA.out
     clear HA
     simp only [spec_l04InstrOk.j1] at H
     by_cases c43 : x62_27 = true
     ·subst c43
      have H1 : (some false) = some r := by rw [if_pos rfl] at H; exact H
      clear H
      have H := H1
      clear H1
      obtain rfl := Option.some.inj H
      go_wp2
      go_ret
      exact ⟨zr, zB⟩
     ·replace c43 := Bool.eq_false_iff.mpr c43
      subst c43
      have H1 : (if a1_0 = 0 then (if t103 = true then (if a1_2 = 0 then (some (a1_3 == 0)) else (some false)) else (some false)) else (if a1_0 = 1 then (if t103 = true then (if t104 = true then (if a1_3 = 0 then (some (a1_5 == 0)) else (some false)) else (some false)) else (some false)) else (if a1_0 = 2 then (if t103 = true then (if t104 = true then (if t105 = true then (if a1_5 = 0 then ((spec_l01Has.f kj27 (([(⟨#[61, 61]⟩ : ByteArray), (⟨#[60]⟩ : ByteArray), (⟨#[38]⟩ : ByteArray), (⟨#[43]⟩ : ByteArray), (⟨#[45]⟩ : ByteArray), (⟨#[42]⟩ : ByteArray)] : List ByteArray)) a1_6).bind fun t111 => (some t111)) else (some false)) else (some false)) else (some false)) else (some false)) else (if a1_0 = 3 then (if t103 = true then (some x8_5) else (some false)) else (if a1_0 = 4 then (if a1_1 = 0 then (if x8_5 = true then ((spec_l01In.f a1_4 0 (wrap64 (a0_3 - 1))).bind fun t112 => (some t112)) else (some false)) else (some false)) else (if a1_0 = 5 then (if t103 = true then (if a1_2 = 0 then (if a1_3 = 0 then (some (a1_5 == 0)) else (some false)) else (some false)) else (some false)) else (if a1_0 = 6 then (if a1_1 = 0 then (if t104 = true then (if a1_3 = 0 then (some (a1_5 == 0)) else (some false)) else (some false)) else (some false)) else (some false)))))))) = some r := by rw [if_neg (show ¬ (false = true) by decide)] at H; exact H
      clear H
      have H := H1
      clear H1
      by_cases c44 : a1_0 = 0
      ·rw [if_pos c44] at H
       have c44b0 : (a1_0 == 0) = true := beq_iff_eq.mpr c44
       have c44b1 : (a1_0 != 0) = false := bne_eq_false_iff_eq.mpr c44
       clear c44
       by_cases c45 : t103 = true
       ·subst c45
        have H1 : (if a1_2 = 0 then (some (a1_3 == 0)) else (some false)) = some r := by rw [if_pos rfl] at H; exact H
        clear H
        have H := H1
        clear H1
        by_cases c46 : a1_2 = 0
        ·rw [if_pos c46] at H
         have c46b0 : (a1_2 == 0) = true := beq_iff_eq.mpr c46
         have c46b1 : (a1_2 != 0) = false := bne_eq_false_iff_eq.mpr c46
         clear c46
         obtain rfl := Option.some.inj H
         have hnb47 := NB102_101.out
         have hnc47 := NB101_102.out
         obtain ⟨hcz48_0, hcz48_1, hcz48_2, hcz48_3, hcz48_4, hcz48_5, hcz48_6, hfz48_0, hfz48_1, hfz48_2, hfz48_3, hfz48_4, hfz48_5, hfz48_6⟩ := bx7 BK102.out
         go_wp2
         go_ret
         exact ⟨zr, zB⟩
        ·rw [if_neg c46] at H
         have c46b0 : (a1_2 == 0) = false := beq_eq_false_iff_ne.mpr c46
         have c46b1 : (a1_2 != 0) = true := bne_iff_ne.mpr c46
         obtain rfl := Option.some.inj H
         have hnb49 := NB102_101.out
         have hnc49 := NB101_102.out
         obtain ⟨hcz50_0, hcz50_1, hcz50_2, hcz50_3, hcz50_4, hcz50_5, hcz50_6, hfz50_0, hfz50_1, hfz50_2, hfz50_3, hfz50_4, hfz50_5, hfz50_6⟩ := bx7 BK102.out
         go_wp2
         go_ret
         exact ⟨zr, zB⟩
       ·replace c45 := Bool.eq_false_iff.mpr c45
        subst c45
        have H1 : (some false) = some r := by rw [if_neg (show ¬ (false = true) by decide)] at H; exact H
        clear H
        have H := H1
        clear H1
        obtain rfl := Option.some.inj H
        have hnb51 := NB102_101.out
        have hnc51 := NB101_102.out
        obtain ⟨hcz52_0, hcz52_1, hcz52_2, hcz52_3, hcz52_4, hcz52_5, hcz52_6, hfz52_0, hfz52_1, hfz52_2, hfz52_3, hfz52_4, hfz52_5, hfz52_6⟩ := bx7 BK102.out
        go_wp2
        go_ret
        exact ⟨zr, zB⟩
      ·rw [if_neg c44] at H
       have c44b0 : (a1_0 == 0) = false := beq_eq_false_iff_ne.mpr c44
       have c44b1 : (a1_0 != 0) = true := bne_iff_ne.mpr c44
       by_cases c53 : a1_0 = 1
       ·rw [if_pos c53] at H
        have c53b0 : (a1_0 == 1) = true := beq_iff_eq.mpr c53
        have c53b1 : (a1_0 != 1) = false := bne_eq_false_iff_eq.mpr c53
        clear c53
        by_cases c54 : t103 = true
        ·subst c54
         have H1 : (if t104 = true then (if a1_3 = 0 then (some (a1_5 == 0)) else (some false)) else (some false)) = some r := by rw [if_pos rfl] at H; exact H
         clear H
         have H := H1
         clear H1
         by_cases c55 : t104 = true
         ·subst c55
          have H1 : (if a1_3 = 0 then (some (a1_5 == 0)) else (some false)) = some r := by rw [if_pos rfl] at H; exact H
          clear H
          have H := H1
          clear H1
          by_cases c56 : a1_3 = 0
          ·rw [if_pos c56] at H
           have c56b0 : (a1_3 == 0) = true := beq_iff_eq.mpr c56
           have c56b1 : (a1_3 != 0) = false := bne_eq_false_iff_eq.mpr c56
           clear c56
           obtain rfl := Option.some.inj H
           have hnb57 := NB102_101.out
           have hnc57 := NB101_102.out
           obtain ⟨hcz58_0, hcz58_1, hcz58_2, hcz58_3, hcz58_4, hcz58_5, hcz58_6, hfz58_0, hfz58_1, hfz58_2, hfz58_3, hfz58_4, hfz58_5, hfz58_6⟩ := bx7 BK102.out
           go_wp2
           go_ret
           exact ⟨zr, zB⟩
          ·rw [if_neg c56] at H
           have c56b0 : (a1_3 == 0) = false := beq_eq_false_iff_ne.mpr c56
           have c56b1 : (a1_3 != 0) = true := bne_iff_ne.mpr c56
           obtain rfl := Option.some.inj H
           have hnb59 := NB102_101.out
           have hnc59 := NB101_102.out
           obtain ⟨hcz60_0, hcz60_1, hcz60_2, hcz60_3, hcz60_4, hcz60_5, hcz60_6, hfz60_0, hfz60_1, hfz60_2, hfz60_3, hfz60_4, hfz60_5, hfz60_6⟩ := bx7 BK102.out
           go_wp2
           go_ret
           exact ⟨zr, zB⟩
         ·replace c55 := Bool.eq_false_iff.mpr c55
          subst c55
          have H1 : (some false) = some r := by rw [if_neg (show ¬ (false = true) by decide)] at H; exact H
          clear H
          have H := H1
          clear H1
          obtain rfl := Option.some.inj H
          have hnb61 := NB102_101.out
          have hnc61 := NB101_102.out
          obtain ⟨hcz62_0, hcz62_1, hcz62_2, hcz62_3, hcz62_4, hcz62_5, hcz62_6, hfz62_0, hfz62_1, hfz62_2, hfz62_3, hfz62_4, hfz62_5, hfz62_6⟩ := bx7 BK102.out
          go_wp2
          go_ret
          exact ⟨zr, zB⟩
        ·replace c54 := Bool.eq_false_iff.mpr c54
         subst c54
         have H1 : (some false) = some r := by rw [if_neg (show ¬ (false = true) by decide)] at H; exact H
         clear H
         have H := H1
         clear H1
         obtain rfl := Option.some.inj H
         have hnb63 := NB102_101.out
         have hnc63 := NB101_102.out
         obtain ⟨hcz64_0, hcz64_1, hcz64_2, hcz64_3, hcz64_4, hcz64_5, hcz64_6, hfz64_0, hfz64_1, hfz64_2, hfz64_3, hfz64_4, hfz64_5, hfz64_6⟩ := bx7 BK102.out
         go_wp2
         go_ret
         exact ⟨zr, zB⟩
       ·rw [if_neg c53] at H
        have c53b0 : (a1_0 == 1) = false := beq_eq_false_iff_ne.mpr c53
        have c53b1 : (a1_0 != 1) = true := bne_iff_ne.mpr c53
        by_cases c65 : a1_0 = 2
        ·rw [if_pos c65] at H
         have c65b0 : (a1_0 == 2) = true := beq_iff_eq.mpr c65
         have c65b1 : (a1_0 != 2) = false := bne_eq_false_iff_eq.mpr c65
         clear c65
         by_cases c66 : t103 = true
         ·subst c66
          have H1 : (if t104 = true then (if t105 = true then (if a1_5 = 0 then ((spec_l01Has.f kj27 (([(⟨#[61, 61]⟩ : ByteArray), (⟨#[60]⟩ : ByteArray), (⟨#[38]⟩ : ByteArray), (⟨#[43]⟩ : ByteArray), (⟨#[45]⟩ : ByteArray), (⟨#[42]⟩ : ByteArray)] : List ByteArray)) a1_6).bind fun t111 => (some t111)) else (some false)) else (some false)) else (some false)) = some r := by rw [if_pos rfl] at H; exact H
          clear H
          have H := H1
          clear H1
          by_cases c67 : t104 = true
          ·subst c67
           have H1 : (if t105 = true then (if a1_5 = 0 then ((spec_l01Has.f kj27 (([(⟨#[61, 61]⟩ : ByteArray), (⟨#[60]⟩ : ByteArray), (⟨#[38]⟩ : ByteArray), (⟨#[43]⟩ : ByteArray), (⟨#[45]⟩ : ByteArray), (⟨#[42]⟩ : ByteArray)] : List ByteArray)) a1_6).bind fun t111 => (some t111)) else (some false)) else (some false)) = some r := by rw [if_pos rfl] at H; exact H
           clear H
           have H := H1
           clear H1
           by_cases c68 : t105 = true
           ·subst c68
            have H1 : (if a1_5 = 0 then ((spec_l01Has.f kj27 (([(⟨#[61, 61]⟩ : ByteArray), (⟨#[60]⟩ : ByteArray), (⟨#[38]⟩ : ByteArray), (⟨#[43]⟩ : ByteArray), (⟨#[45]⟩ : ByteArray), (⟨#[42]⟩ : ByteArray)] : List ByteArray)) a1_6).bind fun t111 => (some t111)) else (some false)) = some r := by rw [if_pos rfl] at H; exact H
            clear H
            have H := H1
            clear H1
            by_cases c69 : a1_5 = 0
            ·rw [if_pos c69] at H
             have c69b0 : (a1_5 == 0) = true := beq_iff_eq.mpr c69
             have c69b1 : (a1_5 != 0) = false := bne_eq_false_iff_eq.mpr c69
             clear c69
             obtain ⟨y108, hy108⟩ : ∃ y_ : List ByteArray, y_ = (([(⟨#[61, 61]⟩ : ByteArray), (⟨#[60]⟩ : ByteArray), (⟨#[38]⟩ : ByteArray), (⟨#[43]⟩ : ByteArray), (⟨#[45]⟩ : ByteArray), (⟨#[42]⟩ : ByteArray)] : List ByteArray)) := ⟨_, rfl⟩
             replace H : ((spec_l01Has.f kj27 y108 a1_6).bind fun t111 => (some t111)) = some r := by first | (rw [hy108]; with_reducible exact H) | (have H2_ := (Option.bind_some _ _).symm.trans H; rw [hy108]; with_reducible exact H2_) | (have H2_ := (Option.bind_some _ _).symm.trans H; with_reducible exact H2_) | with_reducible exact H | (rw [hy108]; exact H) | exact H
             have Ny108 := Zs0.mk hy108
             clear hy108
             replace H := Option.bind_eq_some_iff.mp H
             obtain ⟨t111, A700, H⟩ := H
             replace H : (some t111) = some r := H
             have A70 := Zs0.mk A700
             clear A700
             obtain rfl := Option.some.inj H
             have hnb71 := NB102_101.out
             have hnc71 := NB101_102.out
             obtain ⟨hcz72_0, hcz72_1, hcz72_2, hcz72_3, hcz72_4, hcz72_5, hcz72_6, hfz72_0, hfz72_1, hfz72_2, hfz72_3, hfz72_4, hfz72_5, hfz72_6⟩ := bx7 BK102.out
             go_wp2_with (first | ((with_reducible refine gtD (N := 109) rfl ?_); (try (refine gate_guard (by rfl) ?_; dsimp only)); refine Kd.R_lit Kd.string _ 9 ?hg (N := 109) ?hd (xs := ([(⟨#[61, 61]⟩ : ByteArray), (⟨#[60]⟩ : ByteArray), (⟨#[38]⟩ : ByteArray), (⟨#[43]⟩ : ByteArray), (⟨#[45]⟩ : ByteArray), (⟨#[42]⟩ : ByteArray)] : List ByteArray)) (inner := [.string (⟨#[61, 61]⟩ : ByteArray), .string (⟨#[60]⟩ : ByteArray), .string (⟨#[38]⟩ : ByteArray), .string (⟨#[43]⟩ : ByteArray), .string (⟨#[45]⟩ : ByteArray), .string (⟨#[42]⟩ : ByteArray)]) (ok := fun _ => True) (okp := fun _ => True) ?hr ?hp (fun _ hk => hk) trivial (Below.refl _ _) (Nat.le_refl _) (by simp) ?_; (case hd => rfl); (case hg => rfl); (case hr => first | (go_simp; done) | (go_simp; rfl)); (case hp => exact (Reps.one (show Kd.M Kd.string _ _ _ (⟨#[61, 61]⟩ : ByteArray) [.string (⟨#[61, 61]⟩ : ByteArray)] from rfl) (Reps.one (show Kd.M Kd.string _ _ _ (⟨#[60]⟩ : ByteArray) [.string (⟨#[60]⟩ : ByteArray)] from rfl) (Reps.one (show Kd.M Kd.string _ _ _ (⟨#[38]⟩ : ByteArray) [.string (⟨#[38]⟩ : ByteArray)] from rfl) (Reps.one (show Kd.M Kd.string _ _ _ (⟨#[43]⟩ : ByteArray) [.string (⟨#[43]⟩ : ByteArray)] from rfl) (Reps.one (show Kd.M Kd.string _ _ _ (⟨#[45]⟩ : ByteArray) [.string (⟨#[45]⟩ : ByteArray)] from rfl) (Reps.one (show Kd.M Kd.string _ _ _ (⟨#[42]⟩ : ByteArray) [.string (⟨#[42]⟩ : ByteArray)] from rfl) (Reps.none _ _)))))))); intro v109 w73 ho74 hb hg_ hnew_; clear hg_ hnew_; (first | rw [← Ny108.out] at ho74 | (simp only [Int.reduceToNat] at ho74; rw [← Ny108.out] at ho74)); have n0_ := Zs0.mk (Kd.R_lower ho74 (blZ zB)); have n1_ := Zs0.mk (bkB (zG BK101.out) hb); have n2_ := Zs0.mk (bkB (zG BK102.out) hb); have n3_ := Zs0.mk (blT zB hb); revert n0_ n1_ n2_ n3_; clear BK101 BK102 HB; intro HO110 BK101 BK102 HB; clear hb ho74; obtain ⟨hcz75_0, hcz75_1, hcz75_2, hcz75_3, hcz75_4, hcz75_5, hcz75_6, hfz75_0, hfz75_1, hfz75_2, hfz75_3, hfz75_4, hfz75_5, hfz75_6⟩ := bx7 BK102.out; obtain ⟨Ao76, co76, eo76⟩ := Kd.R_slice HO110.out; subst eo76) | (go_at_call 82; (with_reducible refine (spec_l01Has.calls kj27 _ _ y108 a1_6 t111 _ ?side1 ?side2 A70.out).mono ?_); (case side1 => repeat (first | exact (Kd.R_reads' HO110.out).2.2 | (with_reducible refine Kd.cA1 ?_ _) | (with_reducible refine Kd.cD1 ?_ _) | (with_reducible refine Kd.cD2 ?_))); (case side2 => exact (Kd.R_reads' HO110.out).2.1); rintro e w' ⟨rfl, ⟨nd, rfl⟩⟩))
             go_ret
             exact ⟨zr, zB⟩
            ·rw [if_neg c69] at H
             have c69b0 : (a1_5 == 0) = false := beq_eq_false_iff_ne.mpr c69
             have c69b1 : (a1_5 != 0) = true := bne_iff_ne.mpr c69
             obtain rfl := Option.some.inj H
             have hnb77 := NB102_101.out
             have hnc77 := NB101_102.out
             obtain ⟨hcz78_0, hcz78_1, hcz78_2, hcz78_3, hcz78_4, hcz78_5, hcz78_6, hfz78_0, hfz78_1, hfz78_2, hfz78_3, hfz78_4, hfz78_5, hfz78_6⟩ := bx7 BK102.out
             go_wp2
             go_ret
             exact ⟨zr, zB⟩
           ·replace c68 := Bool.eq_false_iff.mpr c68
            subst c68
            have H1 : (some false) = some r := by rw [if_neg (show ¬ (false = true) by decide)] at H; exact H
            clear H
            have H := H1
            clear H1
            obtain rfl := Option.some.inj H
            have hnb79 := NB102_101.out
            have hnc79 := NB101_102.out
            obtain ⟨hcz80_0, hcz80_1, hcz80_2, hcz80_3, hcz80_4, hcz80_5, hcz80_6, hfz80_0, hfz80_1, hfz80_2, hfz80_3, hfz80_4, hfz80_5, hfz80_6⟩ := bx7 BK102.out
            go_wp2
            go_ret
            exact ⟨zr, zB⟩
          ·replace c67 := Bool.eq_false_iff.mpr c67
           subst c67
           have H1 : (some false) = some r := by rw [if_neg (show ¬ (false = true) by decide)] at H; exact H
           clear H
           have H := H1
           clear H1
           obtain rfl := Option.some.inj H
           have hnb81 := NB102_101.out
           have hnc81 := NB101_102.out
           obtain ⟨hcz82_0, hcz82_1, hcz82_2, hcz82_3, hcz82_4, hcz82_5, hcz82_6, hfz82_0, hfz82_1, hfz82_2, hfz82_3, hfz82_4, hfz82_5, hfz82_6⟩ := bx7 BK102.out
           go_wp2
           go_ret
           exact ⟨zr, zB⟩
         ·replace c66 := Bool.eq_false_iff.mpr c66
          subst c66
          have H1 : (some false) = some r := by rw [if_neg (show ¬ (false = true) by decide)] at H; exact H
          clear H
          have H := H1
          clear H1
          obtain rfl := Option.some.inj H
          have hnb83 := NB102_101.out
          have hnc83 := NB101_102.out
          obtain ⟨hcz84_0, hcz84_1, hcz84_2, hcz84_3, hcz84_4, hcz84_5, hcz84_6, hfz84_0, hfz84_1, hfz84_2, hfz84_3, hfz84_4, hfz84_5, hfz84_6⟩ := bx7 BK102.out
          go_wp2
          go_ret
          exact ⟨zr, zB⟩
        ·rw [if_neg c65] at H
         have c65b0 : (a1_0 == 2) = false := beq_eq_false_iff_ne.mpr c65
         have c65b1 : (a1_0 != 2) = true := bne_iff_ne.mpr c65
         by_cases c85 : a1_0 = 3
         ·rw [if_pos c85] at H
          have c85b0 : (a1_0 == 3) = true := beq_iff_eq.mpr c85
          have c85b1 : (a1_0 != 3) = false := bne_eq_false_iff_eq.mpr c85
          clear c85
          by_cases c86 : t103 = true
          ·subst c86
           have H1 : (some x8_5) = some r := by rw [if_pos rfl] at H; exact H
           clear H
           have H := H1
           clear H1
           obtain rfl := Option.some.inj H
           have hnb87 := NB102_101.out
           have hnc87 := NB101_102.out
           obtain ⟨hcz88_0, hcz88_1, hcz88_2, hcz88_3, hcz88_4, hcz88_5, hcz88_6, hfz88_0, hfz88_1, hfz88_2, hfz88_3, hfz88_4, hfz88_5, hfz88_6⟩ := bx7 BK102.out
           go_wp2
           go_ret
           exact ⟨zr, zB⟩
          ·replace c86 := Bool.eq_false_iff.mpr c86
           subst c86
           have H1 : (some false) = some r := by rw [if_neg (show ¬ (false = true) by decide)] at H; exact H
           clear H
           have H := H1
           clear H1
           obtain rfl := Option.some.inj H
           have hnb89 := NB102_101.out
           have hnc89 := NB101_102.out
           obtain ⟨hcz90_0, hcz90_1, hcz90_2, hcz90_3, hcz90_4, hcz90_5, hcz90_6, hfz90_0, hfz90_1, hfz90_2, hfz90_3, hfz90_4, hfz90_5, hfz90_6⟩ := bx7 BK102.out
           go_wp2
           go_ret
           exact ⟨zr, zB⟩
         ·rw [if_neg c85] at H
          have c85b0 : (a1_0 == 3) = false := beq_eq_false_iff_ne.mpr c85
          have c85b1 : (a1_0 != 3) = true := bne_iff_ne.mpr c85
          by_cases c91 : a1_0 = 4
          ·rw [if_pos c91] at H
           have c91b0 : (a1_0 == 4) = true := beq_iff_eq.mpr c91
           have c91b1 : (a1_0 != 4) = false := bne_eq_false_iff_eq.mpr c91
           clear c91
           by_cases c92 : a1_1 = 0
           ·rw [if_pos c92] at H
            have c92b0 : (a1_1 == 0) = true := beq_iff_eq.mpr c92
            have c92b1 : (a1_1 != 0) = false := bne_eq_false_iff_eq.mpr c92
            clear c92
            by_cases c93 : x8_5 = true
            ·subst c93
             have H1 : ((spec_l01In.f a1_4 0 (wrap64 (a0_3 - 1))).bind fun t112 => (some t112)) = some r := by rw [if_pos rfl] at H; exact H
             clear H
             have H := H1
             clear H1
             replace H := Option.bind_eq_some_iff.mp H
             obtain ⟨t112, A940, H⟩ := H
             replace H : (some t112) = some r := H
             have A94 := Zs0.mk A940
             clear A940
             obtain rfl := Option.some.inj H
             have hnb95 := NB102_101.out
             have hnc95 := NB101_102.out
             obtain ⟨hcz96_0, hcz96_1, hcz96_2, hcz96_3, hcz96_4, hcz96_5, hcz96_6, hfz96_0, hfz96_1, hfz96_2, hfz96_3, hfz96_4, hfz96_5, hfz96_6⟩ := bx7 BK102.out
             obtain ⟨hcz97_0, hcz97_1, hcz97_2, hcz97_3, hcz97_4, hfz97_0, hfz97_1, hfz97_2, hfz97_3, hfz97_4⟩ := bx5 BK101.out
             go_wp2_with (first | (go_at_call 44; (with_reducible refine (spec_l01In.calls a1_4 0 (wrap64 (a0_3 - 1)) t112 _ A94.out).mono ?_); rintro e w' ⟨rfl, ⟨nd, rfl⟩⟩))
             go_ret
             exact ⟨zr, zB⟩
            ·replace c93 := Bool.eq_false_iff.mpr c93
             subst c93
             have H1 : (some false) = some r := by rw [if_neg (show ¬ (false = true) by decide)] at H; exact H
             clear H
             have H := H1
             clear H1
             obtain rfl := Option.some.inj H
             have hnb98 := NB102_101.out
             have hnc98 := NB101_102.out
             obtain ⟨hcz99_0, hcz99_1, hcz99_2, hcz99_3, hcz99_4, hcz99_5, hcz99_6, hfz99_0, hfz99_1, hfz99_2, hfz99_3, hfz99_4, hfz99_5, hfz99_6⟩ := bx7 BK102.out
             go_wp2
             go_ret
             exact ⟨zr, zB⟩
           ·rw [if_neg c92] at H
            have c92b0 : (a1_1 == 0) = false := beq_eq_false_iff_ne.mpr c92
            have c92b1 : (a1_1 != 0) = true := bne_iff_ne.mpr c92
            obtain rfl := Option.some.inj H
            have hnb100 := NB102_101.out
            have hnc100 := NB101_102.out
            obtain ⟨hcz101_0, hcz101_1, hcz101_2, hcz101_3, hcz101_4, hcz101_5, hcz101_6, hfz101_0, hfz101_1, hfz101_2, hfz101_3, hfz101_4, hfz101_5, hfz101_6⟩ := bx7 BK102.out
            go_wp2
            go_ret
            exact ⟨zr, zB⟩
          ·rw [if_neg c91] at H
           have c91b0 : (a1_0 == 4) = false := beq_eq_false_iff_ne.mpr c91
           have c91b1 : (a1_0 != 4) = true := bne_iff_ne.mpr c91
           by_cases c102 : a1_0 = 5
           ·rw [if_pos c102] at H
            have c102b0 : (a1_0 == 5) = true := beq_iff_eq.mpr c102
            have c102b1 : (a1_0 != 5) = false := bne_eq_false_iff_eq.mpr c102
            clear c102
            by_cases c103 : t103 = true
            ·subst c103
             have H1 : (if a1_2 = 0 then (if a1_3 = 0 then (some (a1_5 == 0)) else (some false)) else (some false)) = some r := by rw [if_pos rfl] at H; exact H
             clear H
             have H := H1
             clear H1
             by_cases c104 : a1_2 = 0
             ·rw [if_pos c104] at H
              have c104b0 : (a1_2 == 0) = true := beq_iff_eq.mpr c104
              have c104b1 : (a1_2 != 0) = false := bne_eq_false_iff_eq.mpr c104
              clear c104
              by_cases c105 : a1_3 = 0
              ·rw [if_pos c105] at H
               have c105b0 : (a1_3 == 0) = true := beq_iff_eq.mpr c105
               have c105b1 : (a1_3 != 0) = false := bne_eq_false_iff_eq.mpr c105
               clear c105
               obtain rfl := Option.some.inj H
               have hnb106 := NB102_101.out
               have hnc106 := NB101_102.out
               obtain ⟨hcz107_0, hcz107_1, hcz107_2, hcz107_3, hcz107_4, hcz107_5, hcz107_6, hfz107_0, hfz107_1, hfz107_2, hfz107_3, hfz107_4, hfz107_5, hfz107_6⟩ := bx7 BK102.out
               go_wp2
               go_ret
               exact ⟨zr, zB⟩
              ·rw [if_neg c105] at H
               have c105b0 : (a1_3 == 0) = false := beq_eq_false_iff_ne.mpr c105
               have c105b1 : (a1_3 != 0) = true := bne_iff_ne.mpr c105
               obtain rfl := Option.some.inj H
               have hnb108 := NB102_101.out
               have hnc108 := NB101_102.out
               obtain ⟨hcz109_0, hcz109_1, hcz109_2, hcz109_3, hcz109_4, hcz109_5, hcz109_6, hfz109_0, hfz109_1, hfz109_2, hfz109_3, hfz109_4, hfz109_5, hfz109_6⟩ := bx7 BK102.out
               go_wp2
               go_ret
               exact ⟨zr, zB⟩
             ·rw [if_neg c104] at H
              have c104b0 : (a1_2 == 0) = false := beq_eq_false_iff_ne.mpr c104
              have c104b1 : (a1_2 != 0) = true := bne_iff_ne.mpr c104
              obtain rfl := Option.some.inj H
              have hnb110 := NB102_101.out
              have hnc110 := NB101_102.out
              obtain ⟨hcz111_0, hcz111_1, hcz111_2, hcz111_3, hcz111_4, hcz111_5, hcz111_6, hfz111_0, hfz111_1, hfz111_2, hfz111_3, hfz111_4, hfz111_5, hfz111_6⟩ := bx7 BK102.out
              go_wp2
              go_ret
              exact ⟨zr, zB⟩
            ·replace c103 := Bool.eq_false_iff.mpr c103
             subst c103
             have H1 : (some false) = some r := by rw [if_neg (show ¬ (false = true) by decide)] at H; exact H
             clear H
             have H := H1
             clear H1
             obtain rfl := Option.some.inj H
             have hnb112 := NB102_101.out
             have hnc112 := NB101_102.out
             obtain ⟨hcz113_0, hcz113_1, hcz113_2, hcz113_3, hcz113_4, hcz113_5, hcz113_6, hfz113_0, hfz113_1, hfz113_2, hfz113_3, hfz113_4, hfz113_5, hfz113_6⟩ := bx7 BK102.out
             go_wp2
             go_ret
             exact ⟨zr, zB⟩
           ·rw [if_neg c102] at H
            have c102b0 : (a1_0 == 5) = false := beq_eq_false_iff_ne.mpr c102
            have c102b1 : (a1_0 != 5) = true := bne_iff_ne.mpr c102
            by_cases c114 : a1_0 = 6
            ·rw [if_pos c114] at H
             have c114b0 : (a1_0 == 6) = true := beq_iff_eq.mpr c114
             have c114b1 : (a1_0 != 6) = false := bne_eq_false_iff_eq.mpr c114
             clear c114
             by_cases c115 : a1_1 = 0
             ·rw [if_pos c115] at H
              have c115b0 : (a1_1 == 0) = true := beq_iff_eq.mpr c115
              have c115b1 : (a1_1 != 0) = false := bne_eq_false_iff_eq.mpr c115
              clear c115
              by_cases c116 : t104 = true
              ·subst c116
               have H1 : (if a1_3 = 0 then (some (a1_5 == 0)) else (some false)) = some r := by rw [if_pos rfl] at H; exact H
               clear H
               have H := H1
               clear H1
               by_cases c117 : a1_3 = 0
               ·rw [if_pos c117] at H
                have c117b0 : (a1_3 == 0) = true := beq_iff_eq.mpr c117
                have c117b1 : (a1_3 != 0) = false := bne_eq_false_iff_eq.mpr c117
                clear c117
                obtain rfl := Option.some.inj H
                have hnb118 := NB102_101.out
                have hnc118 := NB101_102.out
                obtain ⟨hcz119_0, hcz119_1, hcz119_2, hcz119_3, hcz119_4, hcz119_5, hcz119_6, hfz119_0, hfz119_1, hfz119_2, hfz119_3, hfz119_4, hfz119_5, hfz119_6⟩ := bx7 BK102.out
                go_wp2
                go_ret
                exact ⟨zr, zB⟩
               ·rw [if_neg c117] at H
                have c117b0 : (a1_3 == 0) = false := beq_eq_false_iff_ne.mpr c117
                have c117b1 : (a1_3 != 0) = true := bne_iff_ne.mpr c117
                obtain rfl := Option.some.inj H
                have hnb120 := NB102_101.out
                have hnc120 := NB101_102.out
                obtain ⟨hcz121_0, hcz121_1, hcz121_2, hcz121_3, hcz121_4, hcz121_5, hcz121_6, hfz121_0, hfz121_1, hfz121_2, hfz121_3, hfz121_4, hfz121_5, hfz121_6⟩ := bx7 BK102.out
                go_wp2
                go_ret
                exact ⟨zr, zB⟩
              ·replace c116 := Bool.eq_false_iff.mpr c116
               subst c116
               have H1 : (some false) = some r := by rw [if_neg (show ¬ (false = true) by decide)] at H; exact H
               clear H
               have H := H1
               clear H1
               obtain rfl := Option.some.inj H
               have hnb122 := NB102_101.out
               have hnc122 := NB101_102.out
               obtain ⟨hcz123_0, hcz123_1, hcz123_2, hcz123_3, hcz123_4, hcz123_5, hcz123_6, hfz123_0, hfz123_1, hfz123_2, hfz123_3, hfz123_4, hfz123_5, hfz123_6⟩ := bx7 BK102.out
               go_wp2
               go_ret
               exact ⟨zr, zB⟩
             ·rw [if_neg c115] at H
              have c115b0 : (a1_1 == 0) = false := beq_eq_false_iff_ne.mpr c115
              have c115b1 : (a1_1 != 0) = true := bne_iff_ne.mpr c115
              obtain rfl := Option.some.inj H
              have hnb124 := NB102_101.out
              have hnc124 := NB101_102.out
              obtain ⟨hcz125_0, hcz125_1, hcz125_2, hcz125_3, hcz125_4, hcz125_5, hcz125_6, hfz125_0, hfz125_1, hfz125_2, hfz125_3, hfz125_4, hfz125_5, hfz125_6⟩ := bx7 BK102.out
              go_wp2
              go_ret
              exact ⟨zr, zB⟩
            ·rw [if_neg c114] at H
             have c114b0 : (a1_0 == 6) = false := beq_eq_false_iff_ne.mpr c114
             have c114b1 : (a1_0 != 6) = true := bne_iff_ne.mpr c114
             obtain rfl := Option.some.inj H
             have hnb126 := NB102_101.out
             have hnc126 := NB101_102.out
             obtain ⟨hcz127_0, hcz127_1, hcz127_2, hcz127_3, hcz127_4, hcz127_5, hcz127_6, hfz127_0, hfz127_1, hfz127_2, hfz127_3, hfz127_4, hfz127_5, hfz127_6⟩ := bx7 BK102.out
             go_wp2
             go_ret
             exact ⟨zr, zB⟩

end Go.Proofs.Ytcbpbnkoolpibaa.P
