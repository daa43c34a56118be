/- The law of Live, walked by hand: the rows that came out are marked and held with their content. -/
import Derived.Test.YtcbpbnkoolpibaaMLive1a
import Derived.Test.YtcbpbnkoolpibaaMLive0b
import Derived.Test.YtcbpbnkoolpibaaMLive3va
import Derived.Test.YtcbpbnkoolpibaaMLive0c
namespace Go.Proofs.Ytcbpbnkoolpibaa.P
open Go.RowKit Go.Proofs.YtcbpbnkoolpibaaW.PrintWords Go.Proofs.YtcbpbnkoolpibaaW.PrintLast Go.Proofs.YtcbpbnkoolpibaaW.PrintMore Go.Proofs.Ytcbpbnkoolpibaa.Gr Go.Proofs.Ytcbpbnkoolpibaa.Aux
set_option linter.unusedVariables false
set_option linter.unusedSimpArgs false
theorem heldSSv (k : Nat) {A : Option Addr} {n c : Nat} {zs : List (List Int)} {a r : Int} {w : World} (h0 : Kd.C dI w A zs.length zs) (hn : zs.length = n) (hc0 : n ≤ c) (h : laws_heldIntSS.f k zs a = some r) :
    Calls Try.prog 18 #[.slice A n c, .int .i64 a] w fun e w' => e = .returned (.int .i64 r) ∧ Drawn0 w w' := by
  subst hn
  exact laws_heldIntSS.calls k _ _ zs a r w h0 hc0 h
set_option maxHeartbeats 8000000 in
set_option maxRecDepth 100000 in
theorem lawLive_neg (k : Nat) (A0_0 : Option Addr) (c0_0 : Nat) (l0_0 : List Int) (a0_1 : Int) (a0_2 : Int) (a0_3 : Int) (A0_4 : Option Addr) (c0_4 : Nat) (l0_4 : List S67) (w : World) (hr0_0 : Kd.C (Kd.int .i64) w A0_0 l0_0.length l0_0) (hc0_0 : l0_0.length ≤ c0_0) (hr0_4 : Kd.C k67 w A0_4 l0_4.length l0_4) (hc0_4 : l0_4.length ≤ c0_4) (t : Int) (e1 : laws_szGraph.f k l0_0 a0_1 a0_2 a0_3 l0_4 1048576 = some t) (ht : t < 0) :
    Calls Try.prog 4 #[.agg #[.slice A0_0 l0_0.length c0_0, .int .i64 a0_1, .int .i64 a0_2, .int .i64 a0_3, .slice A0_4 l0_4.length c0_4]] w fun e w' => e = .returned (.bool true) ∧ Below w.heap.size w w' := by
  have huLG := Try.underlying25
  have huIG := Try.underlying29
  have HR0 := Zs0.mk hr0_0
  have HR4 := Zs0.mk hr0_4
  have HC0 := Zs0.mk hc0_0
  have HC4 := Zs0.mk hc0_4
  clear hr0_0 hr0_4 hc0_0 hc0_4
  have E1 := Zs0.mk e1
  clear e1
  have c0 : decide (t < 0) = true := decide_eq_true ht
  clear ht
  go_enter Try.func4, Try.ntmps4
  go_wp2_with fail
  go_at_call 7
  refine (laws_szGraph.calls k _ _ l0_0 a0_1 a0_2 a0_3 _ _ l0_4 _ _ _ (Kd.cA1 HR0.out _) HC0.out (Kd.cA1 HR4.out _) HC4.out E1.out).mono ?_
  rintro e w1 ⟨rfl, hb⟩
  have HB := Zs0.mk (show Below w.heap.size w w1 from blT (blA (Below.refl _ _) _) hb)
  clear hb
  go_wp2
  go_ret
  exact ⟨rfl, HB.out⟩
set_option maxHeartbeats 8000000 in
set_option maxRecDepth 100000 in
theorem lawLive_pos (k : Nat) (A0_0 : Option Addr) (c0_0 : Nat) (l0_0 : List Int) (a0_1 : Int) (a0_2 : Int) (a0_3 : Int) (A0_4 : Option Addr) (c0_4 : Nat) (l0_4 : List S67) (w : World) (hr0_0 : Kd.C (Kd.int .i64) w A0_0 l0_0.length l0_0) (hc0_0 : l0_0.length ≤ c0_0) (hr0_4 : Kd.C k67 w A0_4 l0_4.length l0_4) (hc0_4 : l0_4.length ≤ c0_4) (t : Int) (e1 : laws_szGraph.f k l0_0 a0_1 a0_2 a0_3 l0_4 1048576 = some t) (ht : ¬ t < 0) (x0 : List Int) (x1 x2 x3 : Int) (x4 : List S47) (y : List (List Int)) (g : List (List Int)) (m1 : Int) (z1 : List Int) (b1 : List S47) (m2 : Int) (z2 : List (List Int))
    (e2 : laws_toGraph.f k l0_0 a0_1 a0_2 a0_3 l0_4 = some (x0, x1, x2, x3, x4)) (e3 : spec_Live.f k x0 x1 x2 x3 x4 = some y) (e4 : impl_Live.f k x0 x1 x2 x3 x4 = some g) (e5 : laws_eqIntSS.f k g y = some true) (e6 : laws_eqGraph.f k x0 x1 x2 x3 x4 x0 x1 x2 x3 x4 = some true) (e7 : markGc k x0 x4 1 = some (m1, z1, b1)) (ht7 : ¬ m1 < 0) (e8 : markSS k g 1 = some (m2, z2)) (e9 : laws_heldIntSS.f k z2 1 = some m2) (ht8 : ¬ m2 < 0) :
    Calls Try.prog 4 #[.agg #[.slice A0_0 l0_0.length c0_0, .int .i64 a0_1, .int .i64 a0_2, .int .i64 a0_3, .slice A0_4 l0_4.length c0_4]] w fun e w' => e = .returned (.bool true) ∧ Below w.heap.size w w' := by
  have huLG := Try.underlying25
  have huIG := Try.underlying29
  have HR0 := Zs0.mk hr0_0
  have HR4 := Zs0.mk hr0_4
  have HC0 := Zs0.mk hc0_0
  have HC4 := Zs0.mk hc0_4
  clear hr0_0 hr0_4 hc0_0 hc0_4
  have E1 := Zs0.mk e1
  have E2 := Zs0.mk e2
  have E3 := Zs0.mk e3
  have E4 := Zs0.mk e4
  have E5 := Zs0.mk e5
  have E6 := Zs0.mk e6
  have E7 := Zs0.mk e7
  have E8 := Zs0.mk e8
  have E9 := Zs0.mk e9
  have c0 : decide (t < 0) = false := decide_eq_false ht
  have c1 : decide (m1 < 0) = false := decide_eq_false ht7
  have c2 : decide (m2 < 0) = false := decide_eq_false ht8
  clear e1 e2 e3 e4 e5 e6 e7 e8 e9 ht ht7 ht8
  go_enter Try.func4, Try.ntmps4
  go_wp2_with fail
  go_at_call 7
  refine (laws_szGraph.calls k _ _ l0_0 a0_1 a0_2 a0_3 _ _ l0_4 _ _ _ (Kd.cA1 HR0.out _) HC0.out (Kd.cA1 HR4.out _) HC4.out E1.out).mono ?_
  rintro e w1 ⟨rfl, hb⟩
  have HB := Zs0.mk (show Below w.heap.size w w1 from blT (blA (Below.refl _ _) _) hb)
  have K1 := Zs0.mk (bkB (heap_alloc_new w _) hb)
  clear hb
  obtain ⟨u0, u1, u2, u3, u4, v0, v1, v2, v3, v4⟩ := bx5 K1.out
  go_wp2_with fail
  go_at_call 9
  refine (laws_toGraph.calls k _ _ l0_0 a0_1 a0_2 a0_3 _ _ l0_4 _ _ _ _ _ _ (Kd.cB1 HR0.out HB.out) HC0.out (Kd.cB1 HR4.out HB.out) HC4.out E2.out).mono ?_
  rintro e w2 ⟨q0, q4, rfl, hz, hs, hb⟩
  obtain ⟨Az, cz, rfl⟩ := Kd.R_slice hz
  obtain ⟨As, cs, rfl⟩ := Kd.S_slice hs
  have HB2 := Zs0.mk (blT HB.out hb)
  have K12 := Zs0.mk (bkB K1.out hb)
  have T0 := Zs0.mk hz
  have T4 := Zs0.mk hs
  clear hb hz hs u0 u1 u2 u3 u4 v0 v1 v2 v3 v4 HB K1
  go_wp2_with fail
  go_at_call 14
  refine (spec_Live.calls k _ _ x0 x1 x2 x3 _ _ x4 _ _ (Kd.R_reads' T0.out).2.2 (Kd.R_reads' T0.out).2.1 (Kd.S_reads' T4.out).2.2 (Kd.S_reads' T4.out).2.1 E3.out).mono ?_
  rintro e w3 ⟨qy, rfl, hs, hb⟩
  obtain ⟨Ay, cy, rfl⟩ := Kd.S_slice hs
  have HB3 := Zs0.mk (blT HB2.out hb)
  have K13 := Zs0.mk (bkB K12.out hb)
  have W4 := Zs0.mk (Kd.S_bound (Kd.S_mono (ok' := fun _ => True) hs fun _ _ => trivial))
  obtain ⟨u0, u1, u2, u3, u4, v0, v1, v2, v3, v4⟩ := bx5 K13.out
  clear hb hs T0 T4 HB2 K12
  go_wp2_with fail
  go_at_call 9
  refine (laws_toGraph.calls k _ _ l0_0 a0_1 a0_2 a0_3 _ _ l0_4 _ _ _ _ _ _ (Kd.cB1 HR0.out HB3.out) HC0.out (Kd.cB1 HR4.out HB3.out) HC4.out E2.out).mono ?_
  rintro e w4 ⟨q0, q4, rfl, hz, hs, hb⟩
  obtain ⟨Ax, cx, rfl⟩ := Kd.R_slice hz
  obtain ⟨Bx, dx, rfl⟩ := Kd.S_slice hs
  have HX4 := Zs0.mk hb
  have K14 := Zs0.mk (bkB K13.out hb)
  have W44 := Zs0.mk (Kd.S_mono (Kd.S_below W4.out hb) (ok' := fun k => k < w3.heap.size) fun k hk => hk.2.2.1)
  have X04 := Zs0.mk (Kd.R_bound hz)
  have X44 := Zs0.mk (Kd.S_bound hs)
  have HLT := Zs0.mk (blk_lt K14.out)
  clear hb hz hs K13 W4 u0 u1 u2 u3 u4 v0 v1 v2 v3 v4
  go_wp2_with fail
  go_at_call 15
  refine (impl_Live.calls k _ _ x0 x1 x2 x3 _ _ x4 _ _ (Kd.cA1 (Kd.R_reads' X04.out).2.2 _) (Kd.R_reads' X04.out).2.1 (Kd.cA1 (Kd.S_reads' X44.out).2.2 _) (Kd.S_reads' X44.out).2.1 E4.out).mono ?_
  rintro e w5 ⟨qg, rfl, hs, hb⟩
  obtain ⟨Bg, dg, rfl⟩ := Kd.S_slice hs
  have HX5 := Zs0.mk (show Below w3.heap.size w3 w5 from blT (blA HX4.out _) hb)
  have K15 := Zs0.mk (bkB (bkA K14.out _) hb)
  have K55 := Zs0.mk (bkB (heap_alloc_new w4 _) hb)
  have W45 := Zs0.mk (Kd.S_below (Kd.S_alloc W44.out _) hb)
  have X05 := Zs0.mk (Kd.R_mono (Kd.R_below (Kd.rA1 X04.out _) hb) (ok' := fun k => k < w4.heap.size) fun k hk => hk.2.2.1)
  have X45 := Zs0.mk (Kd.S_mono (Kd.S_below (Kd.S_alloc X44.out _) hb) (ok' := fun k => k < w4.heap.size) fun k hk => hk.2.2.1)
  have hsz : w4.heap.size ≤ (w4.alloc (.cells #[.slice Ax x0.length cx, .int .i64 x1, .int .i64 x2, .int .i64 x3, .slice Bx x4.length dx] 29)).heap.size := by simp
  have G45 := Zs0.mk (Kd.S_lower hs hsz)
  have HS := Zs0.mk HX4.out.size
  clear hb hs hsz HX4 K14 W44 X04 X44
  go_wp2_with fail
  go_at_call 16
  refine (laws_eqIntSS.calls k _ _ g _ _ y true _ (Kd.S_reads' G45.out).2.2 (Kd.S_reads' G45.out).2.1 (Kd.S_reads' W45.out).2.2 (Kd.S_reads' W45.out).2.1 E5.out).mono ?_
  rintro e w6 ⟨rfl, hd⟩
  have hb := hd.below
  have HX6 := Zs0.mk (blT HX5.out hb)
  have K16 := Zs0.mk (bkB K15.out hb)
  have K56 := Zs0.mk (bkB K55.out hb)
  have W46 := Zs0.mk (Kd.S_below W45.out hb)
  have X06 := Zs0.mk (Kd.R_below X05.out hb)
  have X46 := Zs0.mk (Kd.S_below X45.out hb)
  have G46 := Zs0.mk (Kd.S_below G45.out hb)
  clear hd hb HX5 K15 K55 W45 X05 X45 G45
  go_wp2_with fail
  have HX7 := Zs0.mk (bl1 HX6.out)
  have K17 := Zs0.mk (bk1 K16.out)
  have K57 := Zs0.mk (bk1 K56.out)
  have W47 := Zs0.mk (Kd.S_drew W46.out)
  have X07 := Zs0.mk (Kd.rD2 X06.out)
  have X47 := Zs0.mk (Kd.S_drew X46.out)
  have G47 := Zs0.mk (Kd.S_drew G46.out)
  clear HX6 K16 K56 W46 X06 X46 G46
  refine start_ (n := 5) (S := fun w' => w'.cell? ⟨w4.heap.size, 0, none⟩ = some (.slice Ax x0.length cx) ∧ w'.cell? ⟨w4.heap.size, 1, none⟩ = some (.int .i64 x1) ∧ w'.cell? ⟨w4.heap.size, 2, none⟩ = some (.int .i64 x2) ∧ w'.cell? ⟨w4.heap.size, 3, none⟩ = some (.int .i64 x3) ∧ w'.cell? ⟨w4.heap.size, 4, none⟩ = some (.slice Bx x4.length dx) ∧ w'.cell? ⟨w.heap.size, 0, none⟩ = some (.slice A0_0 l0_0.length c0_0) ∧ w'.cell? ⟨w.heap.size, 1, none⟩ = some (.int .i64 a0_1) ∧ w'.cell? ⟨w.heap.size, 2, none⟩ = some (.int .i64 a0_2) ∧ w'.cell? ⟨w.heap.size, 3, none⟩ = some (.int .i64 a0_3) ∧ w'.cell? ⟨w.heap.size, 4, none⟩ = some (.slice A0_4 l0_4.length c0_4)) (ds := []) #[false, false, false, false, false] (by kernel_rfl) rfl rfl ⟨(bkC K57.out 0).trans rfl, (bkC K57.out 1).trans rfl, (bkC K57.out 2).trans rfl, (bkC K57.out 3).trans rfl, (bkC K57.out 4).trans rfl, (bkC K17.out 0).trans rfl, (bkC K17.out 1).trans rfl, (bkC K17.out 2).trans rfl, (bkC K17.out 3).trans rfl, (bkC K17.out 4).trans rfl⟩ (fun hHeld => ?_)
  generalize w6.drew = w7 at HX7 K17 K57 W47 X07 X47 G47 hHeld ⊢
  refine take_ (i := 0) (N := some 27) (v := ?_) (a' := ?_) #[true, false, false, false, false] rfl rfl (by kernel_rfl) (fun _ _ _ h => h) (Or.inl ⟨by rfl, ?_⟩) hHeld ?_ ?_
  rotate_left
  · rintro w' ⟨s0, s1, s2, s3, s4, s5, s6, s7, s8, s9⟩
    go_simp
    with_reducible rfl
  rotate_left
  · simp only [Act.put, List.setIfInBounds_toArray, List.set_cons_zero, List.set_cons_succ, i64_w, i32_w]
    rfl
  refine take_ (i := 1) (N := some 28) (v := ?_) (a' := ?_) #[true, true, false, false, false] rfl rfl (by kernel_rfl) (fun _ _ _ h => h) (Or.inl ⟨by rfl, ?_⟩) hHeld ?_ ?_
  rotate_left
  · rintro w' ⟨s0, s1, s2, s3, s4, s5, s6, s7, s8, s9⟩
    go_simp
    with_reducible rfl
  rotate_left
  · simp only [Act.put, List.setIfInBounds_toArray, List.set_cons_zero, List.set_cons_succ, i64_w, i32_w]
    rfl
  refine one_ (i := 2) (N := some 29) #[true, true, true, false, false] rfl rfl (by kernel_rfl) (by decide) (fun K hK => ?_)
  refine goes_ Try.func9 (by kernel_rfl) rfl #[.agg #[.slice A0_0 l0_0.length c0_0, .int .i64 a0_1, .int .i64 a0_2, .int .i64 a0_3, .slice A0_4 l0_4.length c0_4]] (by rfl) rfl rfl (by (try simp only [List.map_toArray, List.map_cons, List.map_nil]); first | done | rfl) ?_
  refine (laws_toGraph.calls k _ _ l0_0 a0_1 a0_2 a0_3 _ _ l0_4 _ _ _ _ _ _ (Kd.cB1 HR0.out (blT HB3.out HX7.out)) HC0.out (Kd.cB1 HR4.out (blT HB3.out HX7.out)) HC4.out E2.out).mono ?_
  rintro e w8 ⟨q0, q4, rfl, hz, hs, hb⟩
  obtain ⟨Az, cz, rfl⟩ := Kd.R_slice hz
  obtain ⟨As, cs, rfl⟩ := Kd.S_slice hs
  refine ⟨_, rfl, ?_⟩
  have HX8 := Zs0.mk (blT HX7.out hb)
  have K18 := Zs0.mk (bkB K17.out hb)
  have K58 := Zs0.mk (bkB K57.out hb)
  have W48 := Zs0.mk (Kd.S_below W47.out hb)
  have X08 := Zs0.mk (Kd.R_below X07.out hb)
  have X48 := Zs0.mk (Kd.S_below X47.out hb)
  have G48 := Zs0.mk (Kd.S_below G47.out hb)
  have C08 := Zs0.mk hz
  have C48 := Zs0.mk hs
  clear hb hz hs HX7 K17 K57 W47 X07 X47 G47
  refine hK.out _ _ ⟨(bkC K58.out 0).trans rfl, (bkC K58.out 1).trans rfl, (bkC K58.out 2).trans rfl, (bkC K58.out 3).trans rfl, (bkC K58.out 4).trans rfl, (bkC K18.out 0).trans rfl, (bkC K18.out 1).trans rfl, (bkC K18.out 2).trans rfl, (bkC K18.out 3).trans rfl, (bkC K18.out 4).trans rfl⟩ (fun hHeld => ?_)
  clear hK
  refine norm_ (a' := ?_) ?_ ?_
  rotate_left
  · show Act.put _ (some 29) _ = _
    simp only [Act.put, List.setIfInBounds_toArray, List.set_cons_zero, List.set_cons_succ, i64_w, i32_w]
    rfl
  refine one_ (i := 3) (N := some 30) #[true, true, true, true, false] rfl rfl (by kernel_rfl) (by decide) (fun K hK => ?_)
  refine goes_ Try.func11 (by kernel_rfl) rfl #[.agg #[.slice Ax x0.length cx, .int .i64 x1, .int .i64 x2, .int .i64 x3, .slice Bx x4.length dx], .agg #[.slice Az x0.length cz, .int .i64 x1, .int .i64 x2, .int .i64 x3, .slice As x4.length cs]] (by rfl) rfl rfl (by (try simp only [List.map_toArray, List.map_cons, List.map_nil]); first | done | rfl) ?_
  refine (laws_eqGraph.calls k _ _ x0 x1 x2 x3 _ _ x4 _ _ x0 x1 x2 x3 _ _ x4 true _ (Kd.R_reads' X08.out).2.2 (Kd.R_reads' X08.out).2.1 (Kd.S_reads' X48.out).2.2 (Kd.S_reads' X48.out).2.1 (Kd.R_reads' C08.out).2.2 (Kd.R_reads' C08.out).2.1 (Kd.S_reads' C48.out).2.2 (Kd.S_reads' C48.out).2.1 E6.out).mono ?_
  rintro e w9 ⟨rfl, hb⟩
  refine ⟨_, rfl, ?_⟩
  have HX9 := Zs0.mk (blT HX8.out hb)
  have K19 := Zs0.mk (bkB K18.out hb)
  have K59 := Zs0.mk (bkB K58.out hb)
  have W49 := Zs0.mk (Kd.S_below W48.out hb)
  have X09 := Zs0.mk (Kd.R_below X08.out hb)
  have X49 := Zs0.mk (Kd.S_below X48.out hb)
  have G49 := Zs0.mk (Kd.S_below G48.out hb)
  clear hb HX8 K18 K58 W48 X08 X48 G48 C08 C48
  refine hK.out _ _ ⟨(bkC K59.out 0).trans rfl, (bkC K59.out 1).trans rfl, (bkC K59.out 2).trans rfl, (bkC K59.out 3).trans rfl, (bkC K59.out 4).trans rfl, (bkC K19.out 0).trans rfl, (bkC K19.out 1).trans rfl, (bkC K19.out 2).trans rfl, (bkC K19.out 3).trans rfl, (bkC K19.out 4).trans rfl⟩ (fun hHeld => ?_)
  clear hK
  refine norm_ (a' := ?_) ?_ ?_
  rotate_left
  · show Act.put _ (some 30) _ = _
    simp only [Act.put, List.setIfInBounds_toArray, List.set_cons_zero, List.set_cons_succ, i64_w, i32_w]
    rfl
  refine pure_ (i := 4) (N := some 31) (v := ?_) (a' := ?_) #[true, true, true, true, true] rfl rfl (by kernel_rfl) (fun _ _ _ h => h) (Or.inl ⟨by rfl, ?_⟩) ?_ ?_
  rotate_left
  · intro w'
    go_simp
    with_reducible rfl
  rotate_left
  · simp only [Act.put, List.setIfInBounds_toArray, List.set_cons_zero, List.set_cons_succ, i64_w, i32_w]
    rfl
  refine done_ (by kernel_rfl) ?_
  obtain ⟨u0, u1, u2, u3, u4, v0, v1, v2, v3, v4⟩ := bx5 K59.out
  go_wp2_with fail
  go_at_call 12
  refine (markXv k (w0 := w3) (lo := w3.heap.size) (hi := w4.heap.size) (Nat.le_refl _) HX9.out X09.out X49.out E7.out).mono ?_
  rintro e w10 ⟨rfl, _, _, _, _, hb, hk⟩
  have HX10 := Zs0.mk hb
  have K110 := Zs0.mk (boxXv hk K19.out (by decide))
  have W410 := Zs0.mk (Kd.S_kept W49.out hk fun q h1 h2 => Nat.lt_irrefl _ (Nat.lt_of_lt_of_le h1 h2.1.1))
  have G410 := Zs0.mk (Kd.S_kept (Kd.S_bound G49.out) hk fun q h1 h2 => Nat.lt_irrefl _ (Nat.lt_of_lt_of_le h2.1.2 h1.2.1))
  clear hb hk HX9 K19 K59 W49 X09 X49 G49 u0 u1 u2 u3 u4 v0 v1 v2 v3 v4
  go_wp2_with fail
  go_at_call 16
  refine (laws_eqIntSS.calls k _ _ g _ _ y true _ (Kd.S_reads' G410.out).2.2 (Kd.S_reads' G410.out).2.1 (Kd.S_reads' W410.out).2.2 (Kd.S_reads' W410.out).2.1 E5.out).mono ?_
  rintro e w11 ⟨rfl, hd⟩
  have hb := hd.below
  have HX11 := Zs0.mk (blT HX10.out hb)
  have K111 := Zs0.mk (bkB K110.out hb)
  have W411 := Zs0.mk (Kd.S_below W410.out hb)
  have G411 := Zs0.mk (Kd.S_mono (Kd.S_below G410.out hb) (ok' := fun q => w4.heap.size ≤ q) fun q h => h.2.1)
  clear hd hb HX10 K110 W410 G410
  go_wp2_with fail
  go_at_call 17
  refine (markSS_calls k (fun q => w4.heap.size ≤ q) _ g z2 1 m2 w3 w11 HX11.out (Kd.S_lower G411.out HS.out) E8.out).mono ?_
  rintro e w12 ⟨rfl, hz, hb, hk⟩
  have N4 := Zs0.mk (Kd.S_reads' hz)
  have HX12 := Zs0.mk hb
  have K112 := Zs0.mk (blk_kept K111.out hk fun h => Nat.lt_irrefl _ (Nat.lt_of_lt_of_le HLT.out h))
  have W412 := Zs0.mk (Kd.S_kept W411.out hk fun q h1 h2 => Nat.lt_irrefl _ (Nat.lt_of_lt_of_le h1 (Nat.le_trans HS.out h2)))
  clear hz hb hk HX11 K111 W411 G411
  go_wp2_with fail
  go_at_call 18
  refine (heldSSv k N4.out.2.2 N4.out.1.symm N4.out.2.1 E9.out).mono ?_
  rintro e w13 ⟨rfl, hd⟩
  have hb := hd.below
  have HX13 := Zs0.mk (blT HX12.out hb)
  have K113 := Zs0.mk (bkB K112.out hb)
  have W413 := Zs0.mk (Kd.S_below W412.out hb)
  have Z3 := Zs0.mk (Kd.cB1 N4.out.2.2 hb)
  clear hd hb HX12 K112 W412
  obtain ⟨u0, u1, u2, u3, u4, v0, v1, v2, v3, v4⟩ := bx5 K113.out
  go_wp2_with fail
  go_at_call 9
  refine (laws_toGraph.calls k _ _ l0_0 a0_1 a0_2 a0_3 _ _ l0_4 _ _ _ _ _ _ (Kd.cB1 HR0.out (blT HB3.out HX13.out)) HC0.out (Kd.cB1 HR4.out (blT HB3.out HX13.out)) HC4.out E2.out).mono ?_
  rintro e w14 ⟨q0, q4, rfl, hz, hs, hb⟩
  obtain ⟨Az, cz, rfl⟩ := Kd.R_slice hz
  obtain ⟨As, cs, rfl⟩ := Kd.S_slice hs
  have HX14 := Zs0.mk (blT HX13.out hb)
  have W414 := Zs0.mk (Kd.S_below W413.out hb)
  have Z4 := Zs0.mk (Kd.cB1 Z3.out hb)
  have T0 := Zs0.mk hz
  have T4 := Zs0.mk hs
  clear hb hz hs HX13 K113 W413 Z3 u0 u1 u2 u3 u4 v0 v1 v2 v3 v4
  go_wp2_with fail
  go_at_call 15
  refine (impl_Live.calls k _ _ x0 x1 x2 x3 _ _ x4 _ _ (Kd.R_reads' T0.out).2.2 (Kd.R_reads' T0.out).2.1 (Kd.S_reads' T4.out).2.2 (Kd.S_reads' T4.out).2.1 E4.out).mono ?_
  rintro e w15 ⟨qh, rfl, hs, hb⟩
  obtain ⟨Bh, dh, rfl⟩ := Kd.S_slice hs
  have HX15 := Zs0.mk (blT HX14.out hb)
  have W415 := Zs0.mk (Kd.S_below W414.out hb)
  have Z5 := Zs0.mk (Kd.cB1 Z4.out hb)
  have H4 := Zs0.mk hs
  clear hb hs HX14 W414 Z4 T0 T4
  go_wp2_with fail
  go_at_call 16
  refine (laws_eqIntSS.calls k _ _ g _ _ y true _ (Kd.S_reads' H4.out).2.2 (Kd.S_reads' H4.out).2.1 (Kd.S_reads' W415.out).2.2 (Kd.S_reads' W415.out).2.1 E5.out).mono ?_
  rintro e w16 ⟨rfl, hd⟩
  have hb := hd.below
  have HX16 := Zs0.mk (blT HX15.out hb)
  have Z6 := Zs0.mk (Kd.cB1 Z5.out hb)
  clear hd hb HX15 W415 Z5 H4
  go_wp2_with fail
  go_at_call 18
  refine (heldSSv k Z6.out N4.out.1.symm N4.out.2.1 E9.out).mono ?_
  rintro e w17 ⟨rfl, hd⟩
  have HX17 := Zs0.mk (blT HX16.out hd.below)
  clear hd HX16 Z6
  go_wp2
  go_ret
  exact ⟨rfl, blT HB3.out HX17.out⟩
def laws_FnExactLive.f (k : Nat) (zs : List Int) (p v s : Int) (bs : List S67) : Option Bool :=
  (laws_szGraph.f k zs p v s bs 1048576).bind fun t => if t < 0 then some true else (laws_toGraph.f k zs p v s bs).bind fun x => (spec_Live.f k x.1 x.2.1 x.2.2.1 x.2.2.2.1 x.2.2.2.2).bind fun y => (impl_Live.f k x.1 x.2.1 x.2.2.1 x.2.2.2.1 x.2.2.2.2).bind fun g => (laws_eqIntSS.f k g y).bind fun b1 => (laws_eqGraph.f k x.1 x.2.1 x.2.2.1 x.2.2.2.1 x.2.2.2.2 x.1 x.2.1 x.2.2.1 x.2.2.2.1 x.2.2.2.2).bind fun b2 =>
    (markGc k x.1 x.2.2.2.2 1).bind fun m => (markSS k g 1).bind fun n => (laws_heldIntSS.f k n.2 1).bind fun q => if b1 = true ∧ b2 = true ∧ ¬ m.1 < 0 ∧ ¬ n.1 < 0 ∧ q = n.1 then some true else none
theorem laws_FnExactLive.calls (k : Nat) (A0_0 : Option Addr) (c0_0 : Nat) (l0_0 : List Int) (a0_1 : Int) (a0_2 : Int) (a0_3 : Int) (A0_4 : Option Addr) (c0_4 : Nat) (l0_4 : List S67) (r : Bool) (w : World) (hr0_0 : Kd.C (Kd.int .i64) w A0_0 l0_0.length l0_0) (hc0_0 : l0_0.length ≤ c0_0) (hr0_4 : Kd.C k67 w A0_4 l0_4.length l0_4) (hc0_4 : l0_4.length ≤ c0_4) (h : laws_FnExactLive.f k l0_0 a0_1 a0_2 a0_3 l0_4 = some r) :
    Calls Try.prog 4 #[.agg #[.slice A0_0 l0_0.length c0_0, .int .i64 a0_1, .int .i64 a0_2, .int .i64 a0_3, .slice A0_4 l0_4.length c0_4]] w fun e w' => e = .returned (.bool r) ∧ Below w.heap.size w w' := by
  unfold laws_FnExactLive.f at h
  obtain ⟨t, e1, h⟩ := Option.bind_eq_some_iff.mp h
  split at h
  · rename_i ht
    obtain rfl := (Option.some.inj h).symm
    exact lawLive_neg k A0_0 c0_0 l0_0 a0_1 a0_2 a0_3 A0_4 c0_4 l0_4 w hr0_0 hc0_0 hr0_4 hc0_4 t e1 ht
  · rename_i ht
    obtain ⟨⟨x0, x1, x2, x3, x4⟩, e2, h⟩ := Option.bind_eq_some_iff.mp h
    obtain ⟨y, e3, h⟩ := Option.bind_eq_some_iff.mp h
    obtain ⟨g, e4, h⟩ := Option.bind_eq_some_iff.mp h
    obtain ⟨b1, e5, h⟩ := Option.bind_eq_some_iff.mp h
    obtain ⟨b2, e6, h⟩ := Option.bind_eq_some_iff.mp h
    obtain ⟨⟨m1, z1, d1⟩, e7, h⟩ := Option.bind_eq_some_iff.mp h
    obtain ⟨⟨m2, z2⟩, e8, h⟩ := Option.bind_eq_some_iff.mp h
    obtain ⟨q, e9, h⟩ := Option.bind_eq_some_iff.mp h
    split at h
    · rename_i hc
      obtain rfl := (Option.some.inj h).symm
      obtain ⟨h1, h2, hm, hn, hq⟩ := hc
      rw [h1] at e5
      rw [h2] at e6
      rw [hq] at e9
      exact lawLive_pos k A0_0 c0_0 l0_0 a0_1 a0_2 a0_3 A0_4 c0_4 l0_4 w hr0_0 hc0_0 hr0_4 hc0_4 t e1 ht x0 x1 x2 x3 x4 y g m1 z1 d1 m2 z2 e2 e3 e4 e5 e6 e7 hm e8 e9 hn
    · cases h
end Go.Proofs.Ytcbpbnkoolpibaa.P
