/- Printed by a program over this seat's translation: a Lean function for each Go function, and that the Go code comes to its answers. -/
import Derived.Test.YtbbpmcignfhfmaaMInstrOk0a
import Derived.Test.YtbbpmcignfhfmaaMInstrOk0b
namespace Go.Proofs.Ytbbpmcignfhfmaa.P
open Go.RowKit Go.Proofs.YtbbpmcignfhfmaaW.PrintWords Go.Proofs.YtbbpmcignfhfmaaW.PrintLast Go.Proofs.YtbbpmcignfhfmaaW.PrintMore
attribute [local go_sem] max2_int min2_int max_two min_two max_three min_three max_four min_four   -- for this text's walks alone
set_option linter.unusedVariables false
set_option linter.unusedSimpArgs false

/-! ### spec_l04InstrOk: function 69 -/
mutual
def spec_l04InstrOk.j0 : Nat → Bool → Bool → Bool → Bool → List Int → Int → Int → Int → List (S49) → Int → Int → Int → Int → Int → Int → ByteArray → Option (Bool)
  | 0, _, _, _, _, _, _, _, _, _, _, _, _, _, _, _, _ => none
  | k + 1, x5, x6, x7, x8, x102000, x102001, x102002, x102003, x102004, x103000, x103001, x103002, x103003, x103004, x103005, x103006 => if x103000 = 2 then (if x103000 = 4 then (spec_l04InstrOk.j1 k x5 x6 x7 x8 false x102000 x102001 x102002 x102003 x102004 x103000 x103001 x103002 x103003 x103004 x103005 x103006) else (spec_l04InstrOk.j1 k x5 x6 x7 x8 (x103004 != 0) x102000 x102001 x102002 x102003 x102004 x103000 x103001 x103002 x103003 x103004 x103005 x103006)) else (if x103006.toList = ([] : List UInt8) then (if x103000 = 4 then (spec_l04InstrOk.j1 k x5 x6 x7 x8 false x102000 x102001 x102002 x102003 x102004 x103000 x103001 x103002 x103003 x103004 x103005 x103006) else (spec_l04InstrOk.j1 k x5 x6 x7 x8 (x103004 != 0) x102000 x102001 x102002 x102003 x102004 x103000 x103001 x103002 x103003 x103004 x103005 x103006)) else (spec_l04InstrOk.j1 k x5 x6 x7 x8 true x102000 x102001 x102002 x102003 x102004 x103000 x103001 x103002 x103003 x103004 x103005 x103006))
def spec_l04InstrOk.j1 : Nat → Bool → Bool → Bool → Bool → Bool → List Int → Int → Int → Int → List (S49) → Int → Int → Int → Int → Int → Int → ByteArray → Option (Bool)
  | 0, _, _, _, _, _, _, _, _, _, _, _, _, _, _, _, _, _ => none
  | k + 1, x5, x6, x7, x8, x62, x102000, x102001, x102002, x102003, x102004, x103000, x103001, x103002, x103003, x103004, x103005, x103006 => if x62 = true then (some false) else (if x103000 = 0 then (if x5 = true then (if x103002 = 0 then (some (x103003 == 0)) else (some false)) else (some false)) else (if x103000 = 1 then (if x5 = true then (if x6 = true then (if x103003 = 0 then (some (x103005 == 0)) else (some false)) else (some false)) else (some false)) else (if x103000 = 2 then (if x5 = true then (if x6 = true then (if x7 = true then (if x103005 = 0 then ((spec_l01Has.f k (([(⟨#[61, 61]⟩ : ByteArray), (⟨#[60]⟩ : ByteArray), (⟨#[38]⟩ : ByteArray), (⟨#[43]⟩ : ByteArray), (⟨#[45]⟩ : ByteArray), (⟨#[42]⟩ : ByteArray)] : List ByteArray)) x103006).bind fun t111 => (some t111)) else (some false)) else (some false)) else (some false)) else (some false)) else (if x103000 = 3 then (if x5 = true then (some x8) else (some false)) else (if x103000 = 4 then (if x103001 = 0 then (if x8 = true then ((spec_l01In.f x103004 0 (wrap64 (x102003 - 1))).bind fun t112 => (some t112)) else (some false)) else (some false)) else (if x103000 = 5 then (if x5 = true then (if x103002 = 0 then (if x103003 = 0 then (some (x103005 == 0)) else (some false)) else (some false)) else (some false)) else (if x103000 = 6 then (if x103001 = 0 then (if x6 = true then (if x103003 = 0 then (some (x103005 == 0)) else (some false)) else (some false)) else (some false)) else (some false))))))))
end
def spec_l04InstrOk.f (k : Nat) (l0_0 : List Int) (a0_1 : Int) (a0_2 : Int) (a0_3 : Int) (l0_4 : List (S49)) (a1_0 : Int) (a1_1 : Int) (a1_2 : Int) (a1_3 : Int) (a1_4 : Int) (a1_5 : Int) (a1_6 : ByteArray) : Option (Bool) := (spec_l01In.f a1_1 0 (wrap64 (a0_3 - 1))).bind fun t103 => ((spec_l01In.f a1_2 0 (wrap64 (a0_3 - 1))).bind fun t104 => ((spec_l01In.f a1_3 0 (wrap64 (a0_3 - 1))).bind fun t105 => (if t104 = true then (if t105 = true then ((spec_l01In.f a1_5 0 (wrap64 ((l0_0.length : Int) - 1))).bind fun t106 => (spec_l04InstrOk.j0 k t103 t104 t105 t106 l0_0 a0_1 a0_2 a0_3 l0_4 a1_0 a1_1 a1_2 a1_3 a1_4 a1_5 a1_6)) else (spec_l04InstrOk.j0 k t103 t104 t105 false l0_0 a0_1 a0_2 a0_3 l0_4 a1_0 a1_1 a1_2 a1_3 a1_4 a1_5 a1_6)) else (if a1_2 = (-1) then (if t105 = true then ((spec_l01In.f a1_5 0 (wrap64 ((l0_0.length : Int) - 1))).bind fun t107 => (spec_l04InstrOk.j0 k t103 t104 t105 t107 l0_0 a0_1 a0_2 a0_3 l0_4 a1_0 a1_1 a1_2 a1_3 a1_4 a1_5 a1_6)) else (spec_l04InstrOk.j0 k t103 t104 t105 false l0_0 a0_1 a0_2 a0_3 l0_4 a1_0 a1_1 a1_2 a1_3 a1_4 a1_5 a1_6)) else (spec_l04InstrOk.j0 k t103 t104 t105 false l0_0 a0_1 a0_2 a0_3 l0_4 a1_0 a1_1 a1_2 a1_3 a1_4 a1_5 a1_6)))))
theorem spec_l04InstrOk.mono_l : ∀ k, (∀ y0 y1 y2 y3 y4 y5 y6 y7 y8 y9 y10 y11 y12 y13 y14 y15, LeO (spec_l04InstrOk.j0 k y0 y1 y2 y3 y4 y5 y6 y7 y8 y9 y10 y11 y12 y13 y14 y15) (spec_l04InstrOk.j0 (k + 1) y0 y1 y2 y3 y4 y5 y6 y7 y8 y9 y10 y11 y12 y13 y14 y15)) ∧ (∀ y0 y1 y2 y3 y4 y5 y6 y7 y8 y9 y10 y11 y12 y13 y14 y15 y16, LeO (spec_l04InstrOk.j1 k y0 y1 y2 y3 y4 y5 y6 y7 y8 y9 y10 y11 y12 y13 y14 y15 y16) (spec_l04InstrOk.j1 (k + 1) y0 y1 y2 y3 y4 y5 y6 y7 y8 y9 y10 y11 y12 y13 y14 y15 y16))
  | 0 => ⟨fun _ _ _ _ _ _ _ _ _ _ _ _ _ _ _ _ r h => by simp [spec_l04InstrOk.j0] at h, fun _ _ _ _ _ _ _ _ _ _ _ _ _ _ _ _ _ r h => by simp [spec_l04InstrOk.j1] at h⟩
  | k + 1 => by
    obtain ⟨ih0, ih1⟩ := spec_l04InstrOk.mono_l k
    refine ⟨?_, ?_⟩
    · intro y0 y1 y2 y3 y4 y5 y6 y7 y8 y9 y10 y11 y12 y13 y14 y15
      unfold spec_l04InstrOk.j0
      repeat' first
      | (with_reducible exact ih0 _ _ _ _ _ _ _ _ _ _ _ _ _ _ _ _)
      | (with_reducible exact ih1 _ _ _ _ _ _ _ _ _ _ _ _ _ _ _ _ _)
      | (with_reducible exact spec_l01Has.mono _ _ _)
      | (with_reducible exact LeO.refl _)
      | (with_reducible exact LeO.none _)
      | (with_reducible refine LeO.ite ?_ ?_)
      | (with_reducible refine LeO.bind ?_ (fun _ => ?_))
      | exact ih0 _ _ _ _ _ _ _ _ _ _ _ _ _ _ _ _
      | exact ih1 _ _ _ _ _ _ _ _ _ _ _ _ _ _ _ _ _
      | exact spec_l01Has.mono _ _ _
      | exact LeO.none _
      | refine LeO.ite ?_ ?_
      | refine LeO.bind ?_ (fun _ => ?_)
    · intro y0 y1 y2 y3 y4 y5 y6 y7 y8 y9 y10 y11 y12 y13 y14 y15 y16
      unfold spec_l04InstrOk.j1
      repeat' first
      | (with_reducible exact ih0 _ _ _ _ _ _ _ _ _ _ _ _ _ _ _ _)
      | (with_reducible exact ih1 _ _ _ _ _ _ _ _ _ _ _ _ _ _ _ _ _)
      | (with_reducible exact spec_l01Has.mono _ _ _)
      | (with_reducible exact LeO.refl _)
      | (with_reducible exact LeO.none _)
      | (with_reducible refine LeO.ite ?_ ?_)
      | (with_reducible refine LeO.bind ?_ (fun _ => ?_))
      | exact ih0 _ _ _ _ _ _ _ _ _ _ _ _ _ _ _ _
      | exact ih1 _ _ _ _ _ _ _ _ _ _ _ _ _ _ _ _ _
      | exact spec_l01Has.mono _ _ _
      | exact LeO.none _
      | refine LeO.ite ?_ ?_
      | refine LeO.bind ?_ (fun _ => ?_)
theorem spec_l04InstrOk.mono : ∀ a0 a1 a2 a3 a4 a5 a6 a7 a8 a9 a10 a11 k, LeO (spec_l04InstrOk.f k a0 a1 a2 a3 a4 a5 a6 a7 a8 a9 a10 a11) (spec_l04InstrOk.f (k + 1) a0 a1 a2 a3 a4 a5 a6 a7 a8 a9 a10 a11) := by
  intro a0 a1 a2 a3 a4 a5 a6 a7 a8 a9 a10 a11 k
  obtain ⟨ih0, ih1⟩ := spec_l04InstrOk.mono_l k
  unfold spec_l04InstrOk.f
  repeat' first
      | (with_reducible exact ih0 _ _ _ _ _ _ _ _ _ _ _ _ _ _ _ _)
      | (with_reducible exact ih1 _ _ _ _ _ _ _ _ _ _ _ _ _ _ _ _ _)
      | (with_reducible exact spec_l01Has.mono _ _ _)
      | (with_reducible exact LeO.refl _)
      | (with_reducible exact LeO.none _)
      | (with_reducible refine LeO.ite ?_ ?_)
      | (with_reducible refine LeO.bind ?_ (fun _ => ?_))
      | exact ih0 _ _ _ _ _ _ _ _ _ _ _ _ _ _ _ _
      | exact ih1 _ _ _ _ _ _ _ _ _ _ _ _ _ _ _ _ _
      | exact spec_l01Has.mono _ _ _
      | exact LeO.none _
      | refine LeO.ite ?_ ?_
      | refine LeO.bind ?_ (fun _ => ?_)
set_option maxHeartbeats 8000000 in
set_option maxRecDepth 100000 in
theorem spec_l04InstrOk.calls (k : Nat) (A0_0 : Option Addr) (c0_0 : Nat) (l0_0 : List Int) (a0_1 : Int) (a0_2 : Int) (a0_3 : Int) (A0_4 : Option Addr) (c0_4 : Nat) (l0_4 : List (S49)) (a1_0 : Int) (a1_1 : Int) (a1_2 : Int) (a1_3 : Int) (a1_4 : Int) (a1_5 : Int) (a1_6 : ByteArray) (r : Bool) (w : World) (hr0_0 : Kd.C (Kd.int .i64) w A0_0 l0_0.length l0_0) (hc0_0 : l0_0.length ≤ c0_0) (hr0_4 : Kd.C k49 w A0_4 l0_4.length l0_4) (hc0_4 : l0_4.length ≤ c0_4) (h : spec_l04InstrOk.f k l0_0 a0_1 a0_2 a0_3 l0_4 a1_0 a1_1 a1_2 a1_3 a1_4 a1_5 a1_6 = some r) :
    Calls Try.prog 69 #[.agg #[.slice A0_0 l0_0.length c0_0, .int .i64 a0_1, .int .i64 a0_2, .int .i64 a0_3, .slice A0_4 l0_4.length c0_4], .agg #[.int .i64 a1_0, .int .i64 a1_1, .int .i64 a1_2, .int .i64 a1_3, .int .i64 a1_4, .int .i64 a1_5, .string a1_6]] w fun e w' => e = .returned (.bool r) ∧ Below w.heap.size w w' := by
  have hu30 := Try.underlying30
  have hu39 := Try.underlying39
  have HR0_0 := Aside0.mk hr0_0
  have HC0_0 := Aside0.mk hc0_0
  clear hr0_0 hc0_0
  have HR0_4 := Aside0.mk hr0_4
  have HC0_4 := Aside0.mk hc0_4
  clear hr0_4 hc0_4
  have HB := Aside0.mk (Below.refl w.heap.size w)
  have H : ((spec_l01In.f a1_1 0 (wrap64 (a0_3 - 1))).bind fun t103 => ((spec_l01In.f a1_2 0 (wrap64 (a0_3 - 1))).bind fun t104 => ((spec_l01In.f a1_3 0 (wrap64 (a0_3 - 1))).bind fun t105 => (if t104 = true then (if t105 = true then ((spec_l01In.f a1_5 0 (wrap64 ((l0_0.length : Int) - 1))).bind fun t106 => (spec_l04InstrOk.j0 k t103 t104 t105 t106 l0_0 a0_1 a0_2 a0_3 l0_4 a1_0 a1_1 a1_2 a1_3 a1_4 a1_5 a1_6)) else (spec_l04InstrOk.j0 k t103 t104 t105 false l0_0 a0_1 a0_2 a0_3 l0_4 a1_0 a1_1 a1_2 a1_3 a1_4 a1_5 a1_6)) else (if a1_2 = (-1) then (if t105 = true then ((spec_l01In.f a1_5 0 (wrap64 ((l0_0.length : Int) - 1))).bind fun t107 => (spec_l04InstrOk.j0 k t103 t104 t105 t107 l0_0 a0_1 a0_2 a0_3 l0_4 a1_0 a1_1 a1_2 a1_3 a1_4 a1_5 a1_6)) else (spec_l04InstrOk.j0 k t103 t104 t105 false l0_0 a0_1 a0_2 a0_3 l0_4 a1_0 a1_1 a1_2 a1_3 a1_4 a1_5 a1_6)) else (spec_l04InstrOk.j0 k t103 t104 t105 false l0_0 a0_1 a0_2 a0_3 l0_4 a1_0 a1_1 a1_2 a1_3 a1_4 a1_5 a1_6)))))) = some r := h
  clear h
  replace H := Option.bind_eq_some_iff.mp H
  obtain ⟨t103, A30, H⟩ := H
  replace H : ((spec_l01In.f a1_2 0 (wrap64 (a0_3 - 1))).bind fun t104 => ((spec_l01In.f a1_3 0 (wrap64 (a0_3 - 1))).bind fun t105 => (if t104 = true then (if t105 = true then ((spec_l01In.f a1_5 0 (wrap64 ((l0_0.length : Int) - 1))).bind fun t106 => (spec_l04InstrOk.j0 k t103 t104 t105 t106 l0_0 a0_1 a0_2 a0_3 l0_4 a1_0 a1_1 a1_2 a1_3 a1_4 a1_5 a1_6)) else (spec_l04InstrOk.j0 k t103 t104 t105 false l0_0 a0_1 a0_2 a0_3 l0_4 a1_0 a1_1 a1_2 a1_3 a1_4 a1_5 a1_6)) else (if a1_2 = (-1) then (if t105 = true then ((spec_l01In.f a1_5 0 (wrap64 ((l0_0.length : Int) - 1))).bind fun t107 => (spec_l04InstrOk.j0 k t103 t104 t105 t107 l0_0 a0_1 a0_2 a0_3 l0_4 a1_0 a1_1 a1_2 a1_3 a1_4 a1_5 a1_6)) else (spec_l04InstrOk.j0 k t103 t104 t105 false l0_0 a0_1 a0_2 a0_3 l0_4 a1_0 a1_1 a1_2 a1_3 a1_4 a1_5 a1_6)) else (spec_l04InstrOk.j0 k t103 t104 t105 false l0_0 a0_1 a0_2 a0_3 l0_4 a1_0 a1_1 a1_2 a1_3 a1_4 a1_5 a1_6))))) = some r := H
  have A3 := Aside0.mk A30
  clear A30
  replace H := Option.bind_eq_some_iff.mp H
  obtain ⟨t104, A40, H⟩ := H
  replace H : ((spec_l01In.f a1_3 0 (wrap64 (a0_3 - 1))).bind fun t105 => (if t104 = true then (if t105 = true then ((spec_l01In.f a1_5 0 (wrap64 ((l0_0.length : Int) - 1))).bind fun t106 => (spec_l04InstrOk.j0 k t103 t104 t105 t106 l0_0 a0_1 a0_2 a0_3 l0_4 a1_0 a1_1 a1_2 a1_3 a1_4 a1_5 a1_6)) else (spec_l04InstrOk.j0 k t103 t104 t105 false l0_0 a0_1 a0_2 a0_3 l0_4 a1_0 a1_1 a1_2 a1_3 a1_4 a1_5 a1_6)) else (if a1_2 = (-1) then (if t105 = true then ((spec_l01In.f a1_5 0 (wrap64 ((l0_0.length : Int) - 1))).bind fun t107 => (spec_l04InstrOk.j0 k t103 t104 t105 t107 l0_0 a0_1 a0_2 a0_3 l0_4 a1_0 a1_1 a1_2 a1_3 a1_4 a1_5 a1_6)) else (spec_l04InstrOk.j0 k t103 t104 t105 false l0_0 a0_1 a0_2 a0_3 l0_4 a1_0 a1_1 a1_2 a1_3 a1_4 a1_5 a1_6)) else (spec_l04InstrOk.j0 k t103 t104 t105 false l0_0 a0_1 a0_2 a0_3 l0_4 a1_0 a1_1 a1_2 a1_3 a1_4 a1_5 a1_6)))) = some r := H
  have A4 := Aside0.mk A40
  clear A40
  replace H := Option.bind_eq_some_iff.mp H
  obtain ⟨t105, A50, H⟩ := H
  replace H : (if t104 = true then (if t105 = true then ((spec_l01In.f a1_5 0 (wrap64 ((l0_0.length : Int) - 1))).bind fun t106 => (spec_l04InstrOk.j0 k t103 t104 t105 t106 l0_0 a0_1 a0_2 a0_3 l0_4 a1_0 a1_1 a1_2 a1_3 a1_4 a1_5 a1_6)) else (spec_l04InstrOk.j0 k t103 t104 t105 false l0_0 a0_1 a0_2 a0_3 l0_4 a1_0 a1_1 a1_2 a1_3 a1_4 a1_5 a1_6)) else (if a1_2 = (-1) then (if t105 = true then ((spec_l01In.f a1_5 0 (wrap64 ((l0_0.length : Int) - 1))).bind fun t107 => (spec_l04InstrOk.j0 k t103 t104 t105 t107 l0_0 a0_1 a0_2 a0_3 l0_4 a1_0 a1_1 a1_2 a1_3 a1_4 a1_5 a1_6)) else (spec_l04InstrOk.j0 k t103 t104 t105 false l0_0 a0_1 a0_2 a0_3 l0_4 a1_0 a1_1 a1_2 a1_3 a1_4 a1_5 a1_6)) else (spec_l04InstrOk.j0 k t103 t104 t105 false l0_0 a0_1 a0_2 a0_3 l0_4 a1_0 a1_1 a1_2 a1_3 a1_4 a1_5 a1_6))) = some r := H
  have A5 := Aside0.mk A50
  clear A50
  have HC6 := Aside0.mk H
  clear H
  go_enter Try.func69, Try.ntmps69
  go_upto_region 4 with (first | ((with_reducible refine gate_dst (N := 2) rfl ?_); (try (refine gate_guard (by rfl) ?_; dsimp only)); refine box_event ?hg (N := 2) ?hd (cs := #[.slice A0_0 l0_0.length c0_0, .int .i64 a0_1, .int .i64 a0_2, .int .i64 a0_3, .slice A0_4 l0_4.length c0_4]) (t := 30) ?hr ?_; (case hd => rfl); (case hg => rfl); (case hr => first | (go_simp; done) | (go_simp; rfl)); intro gb101 hg w7 hbox hb; have n0_ := Aside0.mk (below_step (by repeat (first | (with_reducible first | exact HB.out | apply below_alloc | apply pw_below_drewN | apply below_drew1) | exact HB.out)) hb); have n1_ := Aside0.mk (hbox); have n2_ := Aside0.mk ((by rw [hg]; exact (below_size (by repeat (first | (with_reducible first | exact HB.out | apply below_alloc | apply pw_below_drewN | apply below_drew1) | exact HB.out))) : w.heap.size ≤ gb101)); have n3_ := Aside0.mk ((by rw [hg]; exact (below_size (by repeat (first | (with_reducible first | exact HB.out | apply below_alloc | apply pw_below_drewN | apply below_drew1) | exact HB.out))) : w.heap.size ≤ gb101)); clear HB; have HB := n0_; have BK101 := n1_; have GW101 := n2_; have GE101 := n3_; clear n0_ n1_ n2_ n3_; clear hb hbox hg) | ((with_reducible refine gate_dst (N := 3) rfl ?_); (try (refine gate_guard (by rfl) ?_; dsimp only)); refine box_event ?hg (N := 3) ?hd (cs := #[.int .i64 a1_0, .int .i64 a1_1, .int .i64 a1_2, .int .i64 a1_3, .int .i64 a1_4, .int .i64 a1_5, .string a1_6]) (t := 39) ?hr ?_; (case hd => rfl); (case hg => rfl); (case hr => first | (go_simp; done) | (go_simp; rfl)); intro gb102 hg w8 hbox hb; have n0_ := Aside0.mk (blk_below (g := gb101) (o := .cells #[.slice A0_0 l0_0.length c0_0, .int .i64 a0_1, .int .i64 a0_2, .int .i64 a0_3, .slice A0_4 l0_4.length c0_4] 30 (0, 0)) (by (with_reducible repeat (first | refine blk_drewN ?_ _ | refine blk_drew ?_ | refine blk_alloc ?_ _)); exact BK101.out) hb); have n1_ := Aside0.mk (below_step (by repeat (first | (with_reducible first | exact HB.out | apply below_alloc | apply pw_below_drewN | apply below_drew1 | refine below_set ?_ GE101.out) | exact HB.out)) hb); have n2_ := Aside0.mk (hbox); have n3_ := Aside0.mk ((by rw [hg]; exact (below_size (by repeat (first | (with_reducible first | exact HB.out | apply below_alloc | apply pw_below_drewN | apply below_drew1 | refine below_set ?_ GE101.out) | exact HB.out))) : w.heap.size ≤ gb102)); have n4_ := Aside0.mk ((by rw [hg]; exact (below_size (by repeat (first | (with_reducible first | exact HB.out | apply below_alloc | apply pw_below_drewN | apply below_drew1 | refine below_set ?_ GE101.out) | exact HB.out))) : w.heap.size ≤ gb102)); have n5_ := Aside0.mk ((by rw [hg]; exact Nat.ne_of_lt (blk_lt (g := gb101) (o := .cells #[.slice A0_0 l0_0.length c0_0, .int .i64 a0_1, .int .i64 a0_2, .int .i64 a0_3, .slice A0_4 l0_4.length c0_4] 30 (0, 0)) (by (with_reducible repeat (first | refine blk_drewN ?_ _ | refine blk_drew ?_ | refine blk_alloc ?_ _)); exact BK101.out)) : gb101 ≠ gb102)); have n6_ := Aside0.mk ((by rw [hg]; exact Nat.ne_of_gt (blk_lt (g := gb101) (o := .cells #[.slice A0_0 l0_0.length c0_0, .int .i64 a0_1, .int .i64 a0_2, .int .i64 a0_3, .slice A0_4 l0_4.length c0_4] 30 (0, 0)) (by (with_reducible repeat (first | refine blk_drewN ?_ _ | refine blk_drew ?_ | refine blk_alloc ?_ _)); exact BK101.out)) : gb102 ≠ gb101)); clear BK101; clear HB; have BK101 := n0_; have HB := n1_; have BK102 := n2_; have GW102 := n3_; have GE102 := n4_; have NB101_102 := n5_; have NB102_101 := n6_; clear n0_ n1_ n2_ n3_ n4_ n5_ n6_; clear hb hbox hg; have hnb9 := NB102_101.out; have hnc9 := NB101_102.out; have hcz10_0 : w8.cell? ⟨gb102, 0, none⟩ = some (.int .i64 a1_0) := (blk_cell BK102.out 0).trans rfl; have hcz10_1 : w8.cell? ⟨gb102, 1, none⟩ = some (.int .i64 a1_1) := (blk_cell BK102.out 1).trans rfl; have hcz10_2 : w8.cell? ⟨gb102, 2, none⟩ = some (.int .i64 a1_2) := (blk_cell BK102.out 2).trans rfl; have hcz10_3 : w8.cell? ⟨gb102, 3, none⟩ = some (.int .i64 a1_3) := (blk_cell BK102.out 3).trans rfl; have hcz10_4 : w8.cell? ⟨gb102, 4, none⟩ = some (.int .i64 a1_4) := (blk_cell BK102.out 4).trans rfl; have hcz10_5 : w8.cell? ⟨gb102, 5, none⟩ = some (.int .i64 a1_5) := (blk_cell BK102.out 5).trans rfl; have hcz10_6 : w8.cell? ⟨gb102, 6, none⟩ = some (.string a1_6) := (blk_cell BK102.out 6).trans rfl; have hfz10_0 := blk_frozen BK102.out 0; have hfz10_1 := blk_frozen BK102.out 1; have hfz10_2 := blk_frozen BK102.out 2; have hfz10_3 := blk_frozen BK102.out 3; have hfz10_4 := blk_frozen BK102.out 4; have hfz10_5 := blk_frozen BK102.out 5; have hfz10_6 := blk_frozen BK102.out 6; have hcz11_0 : w8.cell? ⟨gb101, 0, none⟩ = some (.slice A0_0 l0_0.length c0_0) := (blk_cell BK101.out 0).trans rfl; have hcz11_1 : w8.cell? ⟨gb101, 1, none⟩ = some (.int .i64 a0_1) := (blk_cell BK101.out 1).trans rfl; have hcz11_2 : w8.cell? ⟨gb101, 2, none⟩ = some (.int .i64 a0_2) := (blk_cell BK101.out 2).trans rfl; have hcz11_3 : w8.cell? ⟨gb101, 3, none⟩ = some (.int .i64 a0_3) := (blk_cell BK101.out 3).trans rfl; have hcz11_4 : w8.cell? ⟨gb101, 4, none⟩ = some (.slice A0_4 l0_4.length c0_4) := (blk_cell BK101.out 4).trans rfl; have hfz11_0 := blk_frozen BK101.out 0; have hfz11_1 := blk_frozen BK101.out 1; have hfz11_2 := blk_frozen BK101.out 2; have hfz11_3 := blk_frozen BK101.out 3; have hfz11_4 := blk_frozen BK101.out 4) | ((with_reducible refine gate_callee (f := 76) rfl ?_); refine goesL_ (some 14) rfl rfl Try.func76 (by kernel_rfl) rfl #[.int .i64 a1_1, .int .i64 0, .int .i64 (wrap64 (a0_3 - 1))] rfl (by (try simp only [List.map_toArray, List.map_cons, List.map_nil]); first | done | rfl | (simp only [List.length_drop, List.length_take]; rfl)) ?_; (with_reducible refine (spec_l01In.calls a1_1 0 (wrap64 (a0_3 - 1)) t103 _ A3.out).mono ?_); rintro e w' ⟨rfl, ⟨nd, rfl⟩⟩; refine ⟨_, rfl, ?_⟩) | ((with_reducible refine gate_callee (f := 76) rfl ?_); refine goesL_ (some 20) rfl rfl Try.func76 (by kernel_rfl) rfl #[.int .i64 a1_2, .int .i64 0, .int .i64 (wrap64 (a0_3 - 1))] rfl (by (try simp only [List.map_toArray, List.map_cons, List.map_nil]); first | done | rfl | (simp only [List.length_drop, List.length_take]; rfl)) ?_; (with_reducible refine (spec_l01In.calls a1_2 0 (wrap64 (a0_3 - 1)) t104 _ A4.out).mono ?_); rintro e w' ⟨rfl, ⟨nd, rfl⟩⟩; refine ⟨_, rfl, ?_⟩) | ((with_reducible refine gate_callee (f := 76) rfl ?_); refine goesL_ (some 26) rfl rfl Try.func76 (by kernel_rfl) rfl #[.int .i64 a1_3, .int .i64 0, .int .i64 (wrap64 (a0_3 - 1))] rfl (by (try simp only [List.map_toArray, List.map_cons, List.map_nil]); first | done | rfl | (simp only [List.length_drop, List.length_take]; rfl)) ?_; (with_reducible refine (spec_l01In.calls a1_3 0 (wrap64 (a0_3 - 1)) t105 _ A5.out).mono ?_); rintro e w' ⟨rfl, ⟨nd, rfl⟩⟩; refine ⟨_, rfl, ?_⟩))
  (try simp only [Act.put, List.setIfInBounds_toArray, List.set_cons_zero, List.set_cons_succ])
  go_cut [8] (fun v8 wc => ∃ (kq : Nat) (x8_5 : Bool), v8 = .bool x8_5 ∧ Aside0 (spec_l04InstrOk.j0 kq t103 t104 t105 x8_5 l0_0 a0_1 a0_2 a0_3 l0_4 a1_0 a1_1 a1_2 a1_3 a1_4 a1_5 a1_6 = some r) ∧ Aside0 (kq ≤ k) ∧ Aside0 (wc.heap[gb101]? = some (.cells #[(.slice A0_0 l0_0.length c0_0), .int .i64 a0_1, .int .i64 a0_2, .int .i64 a0_3, (.slice A0_4 l0_4.length c0_4)] 30 (0, 0))) ∧ Aside0 (wc.heap[gb102]? = some (.cells #[.int .i64 a1_0, .int .i64 a1_1, .int .i64 a1_2, .int .i64 a1_3, .int .i64 a1_4, .int .i64 a1_5, .string a1_6] 39 (0, 0))) ∧ Aside0 (Below w.heap.size w wc))
  case first =>
    have H := HC6.out
    clear HC6
    by_cases c12 : t104 = true
    · subst c12
      have H1 : (if t105 = true then ((spec_l01In.f a1_5 0 (wrap64 ((l0_0.length : Int) - 1))).bind fun t106 => (spec_l04InstrOk.j0 k t103 true t105 t106 l0_0 a0_1 a0_2 a0_3 l0_4 a1_0 a1_1 a1_2 a1_3 a1_4 a1_5 a1_6)) else (spec_l04InstrOk.j0 k t103 true t105 false l0_0 a0_1 a0_2 a0_3 l0_4 a1_0 a1_1 a1_2 a1_3 a1_4 a1_5 a1_6)) = some r := by rw [if_pos rfl] at H; exact H
      clear H
      have H := H1
      clear H1
      by_cases c13 : t105 = true
      · subst c13
        have H1 : ((spec_l01In.f a1_5 0 (wrap64 ((l0_0.length : Int) - 1))).bind fun t106 => (spec_l04InstrOk.j0 k t103 true true t106 l0_0 a0_1 a0_2 a0_3 l0_4 a1_0 a1_1 a1_2 a1_3 a1_4 a1_5 a1_6)) = some r := by rw [if_pos rfl] at H; exact H
        clear H
        have H := H1
        clear H1
        replace H := Option.bind_eq_some_iff.mp H
        obtain ⟨t106, A140, H⟩ := H
        replace H : (spec_l04InstrOk.j0 k t103 true true t106 l0_0 a0_1 a0_2 a0_3 l0_4 a1_0 a1_1 a1_2 a1_3 a1_4 a1_5 a1_6) = some r := H
        have A14 := Aside0.mk A140
        clear A140
        have H' := Aside0.mk H
        clear H
        have hnb15 := NB102_101.out
        have hnc15 := NB101_102.out
        have hcz16_0 : w8.cell? ⟨gb102, 0, none⟩ = some (.int .i64 a1_0) := (blk_cell BK102.out 0).trans rfl
        have hcz16_1 : w8.cell? ⟨gb102, 1, none⟩ = some (.int .i64 a1_1) := (blk_cell BK102.out 1).trans rfl
        have hcz16_2 : w8.cell? ⟨gb102, 2, none⟩ = some (.int .i64 a1_2) := (blk_cell BK102.out 2).trans rfl
        have hcz16_3 : w8.cell? ⟨gb102, 3, none⟩ = some (.int .i64 a1_3) := (blk_cell BK102.out 3).trans rfl
        have hcz16_4 : w8.cell? ⟨gb102, 4, none⟩ = some (.int .i64 a1_4) := (blk_cell BK102.out 4).trans rfl
        have hcz16_5 : w8.cell? ⟨gb102, 5, none⟩ = some (.int .i64 a1_5) := (blk_cell BK102.out 5).trans rfl
        have hcz16_6 : w8.cell? ⟨gb102, 6, none⟩ = some (.string a1_6) := (blk_cell BK102.out 6).trans rfl
        have hfz16_0 := blk_frozen BK102.out 0
        have hfz16_1 := blk_frozen BK102.out 1
        have hfz16_2 := blk_frozen BK102.out 2
        have hfz16_3 := blk_frozen BK102.out 3
        have hfz16_4 := blk_frozen BK102.out 4
        have hfz16_5 := blk_frozen BK102.out 5
        have hfz16_6 := blk_frozen BK102.out 6
        have hcz17_0 : w8.cell? ⟨gb101, 0, none⟩ = some (.slice A0_0 l0_0.length c0_0) := (blk_cell BK101.out 0).trans rfl
        have hcz17_1 : w8.cell? ⟨gb101, 1, none⟩ = some (.int .i64 a0_1) := (blk_cell BK101.out 1).trans rfl
        have hcz17_2 : w8.cell? ⟨gb101, 2, none⟩ = some (.int .i64 a0_2) := (blk_cell BK101.out 2).trans rfl
        have hcz17_3 : w8.cell? ⟨gb101, 3, none⟩ = some (.int .i64 a0_3) := (blk_cell BK101.out 3).trans rfl
        have hcz17_4 : w8.cell? ⟨gb101, 4, none⟩ = some (.slice A0_4 l0_4.length c0_4) := (blk_cell BK101.out 4).trans rfl
        have hfz17_0 := blk_frozen BK101.out 0
        have hfz17_1 := blk_frozen BK101.out 1
        have hfz17_2 := blk_frozen BK101.out 2
        have hfz17_3 := blk_frozen BK101.out 3
        have hfz17_4 := blk_frozen BK101.out 4
        go_wp2_with (first | (go_at_call 76; (with_reducible refine (spec_l01In.calls a1_5 0 (wrap64 ((l0_0.length : Int) - 1)) t106 _ A14.out).mono ?_); rintro e w' ⟨rfl, ⟨nd, rfl⟩⟩))
        go_meet
        case rel => exact ⟨_, (t106), (by first | rfl | (simp; done) | (simp [*]; done)), H', ⟨by first | omega | exact Nat.le_refl _⟩, ⟨by (with_reducible repeat (first | refine blk_drewN ?_ _ | refine blk_drew ?_ | refine blk_alloc ?_ _)); exact BK101.out⟩, ⟨by (with_reducible repeat (first | refine blk_drewN ?_ _ | refine blk_drew ?_ | refine blk_alloc ?_ _)); exact BK102.out⟩, ⟨by repeat (first | (with_reducible first | exact HB.out | apply below_alloc | apply pw_below_drewN | apply below_drew1 | refine below_set ?_ GE101.out | refine below_set ?_ GE102.out) | exact HB.out)⟩⟩
      · replace c13 := Bool.eq_false_iff.mpr c13
        subst c13
        have H1 : (spec_l04InstrOk.j0 k t103 true false false l0_0 a0_1 a0_2 a0_3 l0_4 a1_0 a1_1 a1_2 a1_3 a1_4 a1_5 a1_6) = some r := by rw [if_neg (show ¬ (false = true) by decide)] at H; exact H
        clear H
        have H := H1
        clear H1
        have H' := Aside0.mk H
        clear H
        go_wp2
        go_meet
        case rel => exact ⟨_, (false), (by first | rfl | (simp; done) | (simp [*]; done)), H', ⟨by first | omega | exact Nat.le_refl _⟩, ⟨by (with_reducible repeat (first | refine blk_drewN ?_ _ | refine blk_drew ?_ | refine blk_alloc ?_ _)); exact BK101.out⟩, ⟨by (with_reducible repeat (first | refine blk_drewN ?_ _ | refine blk_drew ?_ | refine blk_alloc ?_ _)); exact BK102.out⟩, ⟨by repeat (first | (with_reducible first | exact HB.out | apply below_alloc | apply pw_below_drewN | apply below_drew1 | refine below_set ?_ GE101.out | refine below_set ?_ GE102.out) | exact HB.out)⟩⟩
    · replace c12 := Bool.eq_false_iff.mpr c12
      subst c12
      have H1 : (if a1_2 = (-1) then (if t105 = true then ((spec_l01In.f a1_5 0 (wrap64 ((l0_0.length : Int) - 1))).bind fun t107 => (spec_l04InstrOk.j0 k t103 false t105 t107 l0_0 a0_1 a0_2 a0_3 l0_4 a1_0 a1_1 a1_2 a1_3 a1_4 a1_5 a1_6)) else (spec_l04InstrOk.j0 k t103 false t105 false l0_0 a0_1 a0_2 a0_3 l0_4 a1_0 a1_1 a1_2 a1_3 a1_4 a1_5 a1_6)) else (spec_l04InstrOk.j0 k t103 false t105 false l0_0 a0_1 a0_2 a0_3 l0_4 a1_0 a1_1 a1_2 a1_3 a1_4 a1_5 a1_6)) = some r := by rw [if_neg (show ¬ (false = true) by decide)] at H; exact H
      clear H
      have H := H1
      clear H1
      by_cases c18 : a1_2 = (-1)
      · rw [if_pos c18] at H
        have c18b0 : (a1_2 == (-1)) = true := beq_iff_eq.mpr c18
        have c18b1 : (a1_2 != (-1)) = false := bne_eq_false_iff_eq.mpr c18
        clear c18
        (first | rw [c18b0] | (simp only [i64_w, i32_w]; rw [c18b0]) | skip)
        by_cases c19 : t105 = true
        · subst c19
          have H1 : ((spec_l01In.f a1_5 0 (wrap64 ((l0_0.length : Int) - 1))).bind fun t107 => (spec_l04InstrOk.j0 k t103 false true t107 l0_0 a0_1 a0_2 a0_3 l0_4 a1_0 a1_1 a1_2 a1_3 a1_4 a1_5 a1_6)) = some r := by rw [if_pos rfl] at H; exact H
          clear H
          have H := H1
          clear H1
          replace H := Option.bind_eq_some_iff.mp H
          obtain ⟨t107, A200, H⟩ := H
          replace H : (spec_l04InstrOk.j0 k t103 false true t107 l0_0 a0_1 a0_2 a0_3 l0_4 a1_0 a1_1 a1_2 a1_3 a1_4 a1_5 a1_6) = some r := H
          have A20 := Aside0.mk A200
          clear A200
          have H' := Aside0.mk H
          clear H
          have hnb21 := NB102_101.out
          have hnc21 := NB101_102.out
          have hcz22_0 : w8.cell? ⟨gb102, 0, none⟩ = some (.int .i64 a1_0) := (blk_cell BK102.out 0).trans rfl
          have hcz22_1 : w8.cell? ⟨gb102, 1, none⟩ = some (.int .i64 a1_1) := (blk_cell BK102.out 1).trans rfl
          have hcz22_2 : w8.cell? ⟨gb102, 2, none⟩ = some (.int .i64 a1_2) := (blk_cell BK102.out 2).trans rfl
          have hcz22_3 : w8.cell? ⟨gb102, 3, none⟩ = some (.int .i64 a1_3) := (blk_cell BK102.out 3).trans rfl
          have hcz22_4 : w8.cell? ⟨gb102, 4, none⟩ = some (.int .i64 a1_4) := (blk_cell BK102.out 4).trans rfl
          have hcz22_5 : w8.cell? ⟨gb102, 5, none⟩ = some (.int .i64 a1_5) := (blk_cell BK102.out 5).trans rfl
          have hcz22_6 : w8.cell? ⟨gb102, 6, none⟩ = some (.string a1_6) := (blk_cell BK102.out 6).trans rfl
          have hfz22_0 := blk_frozen BK102.out 0
          have hfz22_1 := blk_frozen BK102.out 1
          have hfz22_2 := blk_frozen BK102.out 2
          have hfz22_3 := blk_frozen BK102.out 3
          have hfz22_4 := blk_frozen BK102.out 4
          have hfz22_5 := blk_frozen BK102.out 5
          have hfz22_6 := blk_frozen BK102.out 6
          have hcz23_0 : w8.cell? ⟨gb101, 0, none⟩ = some (.slice A0_0 l0_0.length c0_0) := (blk_cell BK101.out 0).trans rfl
          have hcz23_1 : w8.cell? ⟨gb101, 1, none⟩ = some (.int .i64 a0_1) := (blk_cell BK101.out 1).trans rfl
          have hcz23_2 : w8.cell? ⟨gb101, 2, none⟩ = some (.int .i64 a0_2) := (blk_cell BK101.out 2).trans rfl
          have hcz23_3 : w8.cell? ⟨gb101, 3, none⟩ = some (.int .i64 a0_3) := (blk_cell BK101.out 3).trans rfl
          have hcz23_4 : w8.cell? ⟨gb101, 4, none⟩ = some (.slice A0_4 l0_4.length c0_4) := (blk_cell BK101.out 4).trans rfl
          have hfz23_0 := blk_frozen BK101.out 0
          have hfz23_1 := blk_frozen BK101.out 1
          have hfz23_2 := blk_frozen BK101.out 2
          have hfz23_3 := blk_frozen BK101.out 3
          have hfz23_4 := blk_frozen BK101.out 4
          go_wp2_with (first | (go_at_call 76; (with_reducible refine (spec_l01In.calls a1_5 0 (wrap64 ((l0_0.length : Int) - 1)) t107 _ A20.out).mono ?_); rintro e w' ⟨rfl, ⟨nd, rfl⟩⟩))
          go_meet
          case rel => exact ⟨_, (t107), (by first | rfl | (simp; done) | (simp [*]; done)), H', ⟨by first | omega | exact Nat.le_refl _⟩, ⟨by (with_reducible repeat (first | refine blk_drewN ?_ _ | refine blk_drew ?_ | refine blk_alloc ?_ _)); exact BK101.out⟩, ⟨by (with_reducible repeat (first | refine blk_drewN ?_ _ | refine blk_drew ?_ | refine blk_alloc ?_ _)); exact BK102.out⟩, ⟨by repeat (first | (with_reducible first | exact HB.out | apply below_alloc | apply pw_below_drewN | apply below_drew1 | refine below_set ?_ GE101.out | refine below_set ?_ GE102.out) | exact HB.out)⟩⟩
        · replace c19 := Bool.eq_false_iff.mpr c19
          subst c19
          have H1 : (spec_l04InstrOk.j0 k t103 false false false l0_0 a0_1 a0_2 a0_3 l0_4 a1_0 a1_1 a1_2 a1_3 a1_4 a1_5 a1_6) = some r := by rw [if_neg (show ¬ (false = true) by decide)] at H; exact H
          clear H
          have H := H1
          clear H1
          have H' := Aside0.mk H
          clear H
          have hnb24 := NB102_101.out
          have hnc24 := NB101_102.out
          have hcz25_0 : w8.cell? ⟨gb102, 0, none⟩ = some (.int .i64 a1_0) := (blk_cell BK102.out 0).trans rfl
          have hcz25_1 : w8.cell? ⟨gb102, 1, none⟩ = some (.int .i64 a1_1) := (blk_cell BK102.out 1).trans rfl
          have hcz25_2 : w8.cell? ⟨gb102, 2, none⟩ = some (.int .i64 a1_2) := (blk_cell BK102.out 2).trans rfl
          have hcz25_3 : w8.cell? ⟨gb102, 3, none⟩ = some (.int .i64 a1_3) := (blk_cell BK102.out 3).trans rfl
          have hcz25_4 : w8.cell? ⟨gb102, 4, none⟩ = some (.int .i64 a1_4) := (blk_cell BK102.out 4).trans rfl
          have hcz25_5 : w8.cell? ⟨gb102, 5, none⟩ = some (.int .i64 a1_5) := (blk_cell BK102.out 5).trans rfl
          have hcz25_6 : w8.cell? ⟨gb102, 6, none⟩ = some (.string a1_6) := (blk_cell BK102.out 6).trans rfl
          have hfz25_0 := blk_frozen BK102.out 0
          have hfz25_1 := blk_frozen BK102.out 1
          have hfz25_2 := blk_frozen BK102.out 2
          have hfz25_3 := blk_frozen BK102.out 3
          have hfz25_4 := blk_frozen BK102.out 4
          have hfz25_5 := blk_frozen BK102.out 5
          have hfz25_6 := blk_frozen BK102.out 6
          go_wp2
          go_meet
          case rel => exact ⟨_, (false), (by first | rfl | (simp; done) | (simp [*]; done)), H', ⟨by first | omega | exact Nat.le_refl _⟩, ⟨by (with_reducible repeat (first | refine blk_drewN ?_ _ | refine blk_drew ?_ | refine blk_alloc ?_ _)); exact BK101.out⟩, ⟨by (with_reducible repeat (first | refine blk_drewN ?_ _ | refine blk_drew ?_ | refine blk_alloc ?_ _)); exact BK102.out⟩, ⟨by repeat (first | (with_reducible first | exact HB.out | apply below_alloc | apply pw_below_drewN | apply below_drew1 | refine below_set ?_ GE101.out | refine below_set ?_ GE102.out) | exact HB.out)⟩⟩
      · rw [if_neg c18] at H
        have c18b0 : (a1_2 == (-1)) = false := beq_eq_false_iff_ne.mpr c18
        have c18b1 : (a1_2 != (-1)) = true := bne_iff_ne.mpr c18
        (first | rw [c18b0] | (simp only [i64_w, i32_w]; rw [c18b0]) | skip)
        have H' := Aside0.mk H
        clear H
        have hnb26 := NB102_101.out
        have hnc26 := NB101_102.out
        have hcz27_0 : w8.cell? ⟨gb102, 0, none⟩ = some (.int .i64 a1_0) := (blk_cell BK102.out 0).trans rfl
        have hcz27_1 : w8.cell? ⟨gb102, 1, none⟩ = some (.int .i64 a1_1) := (blk_cell BK102.out 1).trans rfl
        have hcz27_2 : w8.cell? ⟨gb102, 2, none⟩ = some (.int .i64 a1_2) := (blk_cell BK102.out 2).trans rfl
        have hcz27_3 : w8.cell? ⟨gb102, 3, none⟩ = some (.int .i64 a1_3) := (blk_cell BK102.out 3).trans rfl
        have hcz27_4 : w8.cell? ⟨gb102, 4, none⟩ = some (.int .i64 a1_4) := (blk_cell BK102.out 4).trans rfl
        have hcz27_5 : w8.cell? ⟨gb102, 5, none⟩ = some (.int .i64 a1_5) := (blk_cell BK102.out 5).trans rfl
        have hcz27_6 : w8.cell? ⟨gb102, 6, none⟩ = some (.string a1_6) := (blk_cell BK102.out 6).trans rfl
        have hfz27_0 := blk_frozen BK102.out 0
        have hfz27_1 := blk_frozen BK102.out 1
        have hfz27_2 := blk_frozen BK102.out 2
        have hfz27_3 := blk_frozen BK102.out 3
        have hfz27_4 := blk_frozen BK102.out 4
        have hfz27_5 := blk_frozen BK102.out 5
        have hfz27_6 := blk_frozen BK102.out 6
        go_wp2
        go_meet
        case rel => exact ⟨_, (false), (by first | rfl | (simp; done) | (simp [*]; done)), H', ⟨by first | omega | exact Nat.le_refl _⟩, ⟨by (with_reducible repeat (first | refine blk_drewN ?_ _ | refine blk_drew ?_ | refine blk_alloc ?_ _)); exact BK101.out⟩, ⟨by (with_reducible repeat (first | refine blk_drewN ?_ _ | refine blk_drew ?_ | refine blk_alloc ?_ _)); exact BK102.out⟩, ⟨by repeat (first | (with_reducible first | exact HB.out | apply below_alloc | apply pw_below_drewN | apply below_drew1 | refine below_set ?_ GE101.out | refine below_set ?_ GE102.out) | exact HB.out)⟩⟩
  case rest =>
    clear HC6
    try clear c1
    try clear c2
    try clear p2
    try clear c6
    try clear p6
    try clear c7
    try clear c9
    try clear c12
    try clear c13
    try clear c15
    try clear c18
    try clear c18b0
    try clear c18b1
    try clear c19
    try clear c21
    try clear c24
    try clear c26
    try clear hcz10_0
    try clear hcz10_1
    try clear hcz10_2
    try clear hcz10_3
    try clear hcz10_4
    try clear hcz10_5
    try clear hcz10_6
    try clear hcz11_0
    try clear hcz11_1
    try clear hcz11_2
    try clear hcz11_3
    try clear hcz11_4
    try clear hcz16_0
    try clear hcz16_1
    try clear hcz16_2
    try clear hcz16_3
    try clear hcz16_4
    try clear hcz16_5
    try clear hcz16_6
    try clear hcz17_0
    try clear hcz17_1
    try clear hcz17_2
    try clear hcz17_3
    try clear hcz17_4
    try clear hcz22_0
    try clear hcz22_1
    try clear hcz22_2
    try clear hcz22_3
    try clear hcz22_4
    try clear hcz22_5
    try clear hcz22_6
    try clear hcz23_0
    try clear hcz23_1
    try clear hcz23_2
    try clear hcz23_3
    try clear hcz23_4
    try clear hcz25_0
    try clear hcz25_1
    try clear hcz25_2
    try clear hcz25_3
    try clear hcz25_4
    try clear hcz25_5
    try clear hcz25_6
    try clear hcz27_0
    try clear hcz27_1
    try clear hcz27_2
    try clear hcz27_3
    try clear hcz27_4
    try clear hcz27_5
    try clear hcz27_6
    try clear hfz10_0
    try clear hfz10_1
    try clear hfz10_2
    try clear hfz10_3
    try clear hfz10_4
    try clear hfz10_5
    try clear hfz10_6
    try clear hfz11_0
    try clear hfz11_1
    try clear hfz11_2
    try clear hfz11_3
    try clear hfz11_4
    try clear hfz16_0
    try clear hfz16_1
    try clear hfz16_2
    try clear hfz16_3
    try clear hfz16_4
    try clear hfz16_5
    try clear hfz16_6
    try clear hfz17_0
    try clear hfz17_1
    try clear hfz17_2
    try clear hfz17_3
    try clear hfz17_4
    try clear hfz22_0
    try clear hfz22_1
    try clear hfz22_2
    try clear hfz22_3
    try clear hfz22_4
    try clear hfz22_5
    try clear hfz22_6
    try clear hfz23_0
    try clear hfz23_1
    try clear hfz23_2
    try clear hfz23_3
    try clear hfz23_4
    try clear hfz25_0
    try clear hfz25_1
    try clear hfz25_2
    try clear hfz25_3
    try clear hfz25_4
    try clear hfz25_5
    try clear hfz25_6
    try clear hfz27_0
    try clear hfz27_1
    try clear hfz27_2
    try clear hfz27_3
    try clear hfz27_4
    try clear hfz27_5
    try clear hfz27_6
    obtain ⟨kq, x8_5, rfl, HA, HJ5, BK101, BK102, HB⟩ := hcut
    cases kq with
    | zero => exact absurd HA.out (by simp [spec_l04InstrOk.j0])
    | succ kj5 =>
      have H := HA.out
      clear HA
      simp only [spec_l04InstrOk.j0] at H
      have HC28 := Aside0.mk H
      clear H
      go_upto_region 5 with (fail)
      go_cut [62] (fun v62 wc => ∃ (kq : Nat) (x62_27 : Bool), v62 = .bool x62_27 ∧ Aside0 (spec_l04InstrOk.j1 kq t103 t104 t105 x8_5 x62_27 l0_0 a0_1 a0_2 a0_3 l0_4 a1_0 a1_1 a1_2 a1_3 a1_4 a1_5 a1_6 = some r) ∧ Aside0 (kq ≤ kj5) ∧ Aside0 (wc.heap[gb101]? = some (.cells #[(.slice A0_0 l0_0.length c0_0), .int .i64 a0_1, .int .i64 a0_2, .int .i64 a0_3, (.slice A0_4 l0_4.length c0_4)] 30 (0, 0))) ∧ Aside0 (wc.heap[gb102]? = some (.cells #[.int .i64 a1_0, .int .i64 a1_1, .int .i64 a1_2, .int .i64 a1_3, .int .i64 a1_4, .int .i64 a1_5, .string a1_6] 39 (0, 0))) ∧ Aside0 (Below w.heap.size w wc))
      case first =>
        have H := HC28.out
        clear HC28
        by_cases c29 : a1_0 = 2
        · rw [if_pos c29] at H
          have c29b0 : (a1_0 == 2) = true := beq_iff_eq.mpr c29
          have c29b1 : (a1_0 != 2) = false := bne_eq_false_iff_eq.mpr c29
          clear c29
          (first | rw [c29b0] | (simp only [i64_w, i32_w]; rw [c29b0]) | skip)
          by_cases c30 : a1_0 = 4
          · rw [if_pos c30] at H
            have c30b0 : (a1_0 == 4) = true := beq_iff_eq.mpr c30
            have c30b1 : (a1_0 != 4) = false := bne_eq_false_iff_eq.mpr c30
            clear c30
            have H' := Aside0.mk H
            clear H
            have hnb31 := NB102_101.out
            have hnc31 := NB101_102.out
            have hcz32_0 : wc.cell? ⟨gb102, 0, none⟩ = some (.int .i64 a1_0) := (blk_cell BK102.out 0).trans rfl
            have hcz32_1 : wc.cell? ⟨gb102, 1, none⟩ = some (.int .i64 a1_1) := (blk_cell BK102.out 1).trans rfl
            have hcz32_2 : wc.cell? ⟨gb102, 2, none⟩ = some (.int .i64 a1_2) := (blk_cell BK102.out 2).trans rfl
            have hcz32_3 : wc.cell? ⟨gb102, 3, none⟩ = some (.int .i64 a1_3) := (blk_cell BK102.out 3).trans rfl
            have hcz32_4 : wc.cell? ⟨gb102, 4, none⟩ = some (.int .i64 a1_4) := (blk_cell BK102.out 4).trans rfl
            have hcz32_5 : wc.cell? ⟨gb102, 5, none⟩ = some (.int .i64 a1_5) := (blk_cell BK102.out 5).trans rfl
            have hcz32_6 : wc.cell? ⟨gb102, 6, none⟩ = some (.string a1_6) := (blk_cell BK102.out 6).trans rfl
            have hfz32_0 := blk_frozen BK102.out 0
            have hfz32_1 := blk_frozen BK102.out 1
            have hfz32_2 := blk_frozen BK102.out 2
            have hfz32_3 := blk_frozen BK102.out 3
            have hfz32_4 := blk_frozen BK102.out 4
            have hfz32_5 := blk_frozen BK102.out 5
            have hfz32_6 := blk_frozen BK102.out 6
            go_wp2
            go_meet
            case rel => exact ⟨_, (false), (by first | rfl | (simp; done) | (simp [*]; done)), H', ⟨by have := HJ5.out; first | omega | exact Nat.le_refl _⟩, ⟨by (with_reducible repeat (first | refine blk_drewN ?_ _ | refine blk_drew ?_ | refine blk_alloc ?_ _)); exact BK101.out⟩, ⟨by (with_reducible repeat (first | refine blk_drewN ?_ _ | refine blk_drew ?_ | refine blk_alloc ?_ _)); exact BK102.out⟩, ⟨by repeat (first | (with_reducible first | exact HB.out | apply below_alloc | apply pw_below_drewN | apply below_drew1 | refine below_set ?_ GE101.out | refine below_set ?_ GE102.out) | exact HB.out)⟩⟩
          · rw [if_neg c30] at H
            have c30b0 : (a1_0 == 4) = false := beq_eq_false_iff_ne.mpr c30
            have c30b1 : (a1_0 != 4) = true := bne_iff_ne.mpr c30
            have H' := Aside0.mk H
            clear H
            have hnb33 := NB102_101.out
            have hnc33 := NB101_102.out
            have hcz34_0 : wc.cell? ⟨gb102, 0, none⟩ = some (.int .i64 a1_0) := (blk_cell BK102.out 0).trans rfl
            have hcz34_1 : wc.cell? ⟨gb102, 1, none⟩ = some (.int .i64 a1_1) := (blk_cell BK102.out 1).trans rfl
            have hcz34_2 : wc.cell? ⟨gb102, 2, none⟩ = some (.int .i64 a1_2) := (blk_cell BK102.out 2).trans rfl
            have hcz34_3 : wc.cell? ⟨gb102, 3, none⟩ = some (.int .i64 a1_3) := (blk_cell BK102.out 3).trans rfl
            have hcz34_4 : wc.cell? ⟨gb102, 4, none⟩ = some (.int .i64 a1_4) := (blk_cell BK102.out 4).trans rfl
            have hcz34_5 : wc.cell? ⟨gb102, 5, none⟩ = some (.int .i64 a1_5) := (blk_cell BK102.out 5).trans rfl
            have hcz34_6 : wc.cell? ⟨gb102, 6, none⟩ = some (.string a1_6) := (blk_cell BK102.out 6).trans rfl
            have hfz34_0 := blk_frozen BK102.out 0
            have hfz34_1 := blk_frozen BK102.out 1
            have hfz34_2 := blk_frozen BK102.out 2
            have hfz34_3 := blk_frozen BK102.out 3
            have hfz34_4 := blk_frozen BK102.out 4
            have hfz34_5 := blk_frozen BK102.out 5
            have hfz34_6 := blk_frozen BK102.out 6
            go_wp2
            go_meet
            case rel => exact ⟨_, ((a1_4 != 0)), (by first | rfl | (simp; done) | (simp [*]; done)), H', ⟨by have := HJ5.out; first | omega | exact Nat.le_refl _⟩, ⟨by (with_reducible repeat (first | refine blk_drewN ?_ _ | refine blk_drew ?_ | refine blk_alloc ?_ _)); exact BK101.out⟩, ⟨by (with_reducible repeat (first | refine blk_drewN ?_ _ | refine blk_drew ?_ | refine blk_alloc ?_ _)); exact BK102.out⟩, ⟨by repeat (first | (with_reducible first | exact HB.out | apply below_alloc | apply pw_below_drewN | apply below_drew1 | refine below_set ?_ GE101.out | refine below_set ?_ GE102.out) | exact HB.out)⟩⟩
        · rw [if_neg c29] at H
          have c29b0 : (a1_0 == 2) = false := beq_eq_false_iff_ne.mpr c29
          have c29b1 : (a1_0 != 2) = true := bne_iff_ne.mpr c29
          (first | rw [c29b0] | (simp only [i64_w, i32_w]; rw [c29b0]) | skip)
          by_cases c35 : a1_6.toList = ([] : List UInt8)
          · rw [if_pos c35] at H
            have c35b0 : (a1_6.toList == ([] : List UInt8)) = true := beq_iff_eq.mpr c35
            have c35b1 : (a1_6.toList != ([] : List UInt8)) = false := bne_eq_false_iff_eq.mpr c35
            clear c35
            by_cases c36 : a1_0 = 4
            · rw [if_pos c36] at H
              have c36b0 : (a1_0 == 4) = true := beq_iff_eq.mpr c36
              have c36b1 : (a1_0 != 4) = false := bne_eq_false_iff_eq.mpr c36
              clear c36
              have H' := Aside0.mk H
              clear H
              have hnb37 := NB102_101.out
              have hnc37 := NB101_102.out
              have hcz38_0 : wc.cell? ⟨gb102, 0, none⟩ = some (.int .i64 a1_0) := (blk_cell BK102.out 0).trans rfl
              have hcz38_1 : wc.cell? ⟨gb102, 1, none⟩ = some (.int .i64 a1_1) := (blk_cell BK102.out 1).trans rfl
              have hcz38_2 : wc.cell? ⟨gb102, 2, none⟩ = some (.int .i64 a1_2) := (blk_cell BK102.out 2).trans rfl
              have hcz38_3 : wc.cell? ⟨gb102, 3, none⟩ = some (.int .i64 a1_3) := (blk_cell BK102.out 3).trans rfl
              have hcz38_4 : wc.cell? ⟨gb102, 4, none⟩ = some (.int .i64 a1_4) := (blk_cell BK102.out 4).trans rfl
              have hcz38_5 : wc.cell? ⟨gb102, 5, none⟩ = some (.int .i64 a1_5) := (blk_cell BK102.out 5).trans rfl
              have hcz38_6 : wc.cell? ⟨gb102, 6, none⟩ = some (.string a1_6) := (blk_cell BK102.out 6).trans rfl
              have hfz38_0 := blk_frozen BK102.out 0
              have hfz38_1 := blk_frozen BK102.out 1
              have hfz38_2 := blk_frozen BK102.out 2
              have hfz38_3 := blk_frozen BK102.out 3
              have hfz38_4 := blk_frozen BK102.out 4
              have hfz38_5 := blk_frozen BK102.out 5
              have hfz38_6 := blk_frozen BK102.out 6
              go_wp2
              go_meet
              case rel => exact ⟨_, (false), (by first | rfl | (simp; done) | (simp [*]; done)), H', ⟨by have := HJ5.out; first | omega | exact Nat.le_refl _⟩, ⟨by (with_reducible repeat (first | refine blk_drewN ?_ _ | refine blk_drew ?_ | refine blk_alloc ?_ _)); exact BK101.out⟩, ⟨by (with_reducible repeat (first | refine blk_drewN ?_ _ | refine blk_drew ?_ | refine blk_alloc ?_ _)); exact BK102.out⟩, ⟨by repeat (first | (with_reducible first | exact HB.out | apply below_alloc | apply pw_below_drewN | apply below_drew1 | refine below_set ?_ GE101.out | refine below_set ?_ GE102.out) | exact HB.out)⟩⟩
            · rw [if_neg c36] at H
              have c36b0 : (a1_0 == 4) = false := beq_eq_false_iff_ne.mpr c36
              have c36b1 : (a1_0 != 4) = true := bne_iff_ne.mpr c36
              have H' := Aside0.mk H
              clear H
              have hnb39 := NB102_101.out
              have hnc39 := NB101_102.out
              have hcz40_0 : wc.cell? ⟨gb102, 0, none⟩ = some (.int .i64 a1_0) := (blk_cell BK102.out 0).trans rfl
              have hcz40_1 : wc.cell? ⟨gb102, 1, none⟩ = some (.int .i64 a1_1) := (blk_cell BK102.out 1).trans rfl
              have hcz40_2 : wc.cell? ⟨gb102, 2, none⟩ = some (.int .i64 a1_2) := (blk_cell BK102.out 2).trans rfl
              have hcz40_3 : wc.cell? ⟨gb102, 3, none⟩ = some (.int .i64 a1_3) := (blk_cell BK102.out 3).trans rfl
              have hcz40_4 : wc.cell? ⟨gb102, 4, none⟩ = some (.int .i64 a1_4) := (blk_cell BK102.out 4).trans rfl
              have hcz40_5 : wc.cell? ⟨gb102, 5, none⟩ = some (.int .i64 a1_5) := (blk_cell BK102.out 5).trans rfl
              have hcz40_6 : wc.cell? ⟨gb102, 6, none⟩ = some (.string a1_6) := (blk_cell BK102.out 6).trans rfl
              have hfz40_0 := blk_frozen BK102.out 0
              have hfz40_1 := blk_frozen BK102.out 1
              have hfz40_2 := blk_frozen BK102.out 2
              have hfz40_3 := blk_frozen BK102.out 3
              have hfz40_4 := blk_frozen BK102.out 4
              have hfz40_5 := blk_frozen BK102.out 5
              have hfz40_6 := blk_frozen BK102.out 6
              go_wp2
              go_meet
              case rel => exact ⟨_, ((a1_4 != 0)), (by first | rfl | (simp; done) | (simp [*]; done)), H', ⟨by have := HJ5.out; first | omega | exact Nat.le_refl _⟩, ⟨by (with_reducible repeat (first | refine blk_drewN ?_ _ | refine blk_drew ?_ | refine blk_alloc ?_ _)); exact BK101.out⟩, ⟨by (with_reducible repeat (first | refine blk_drewN ?_ _ | refine blk_drew ?_ | refine blk_alloc ?_ _)); exact BK102.out⟩, ⟨by repeat (first | (with_reducible first | exact HB.out | apply below_alloc | apply pw_below_drewN | apply below_drew1 | refine below_set ?_ GE101.out | refine below_set ?_ GE102.out) | exact HB.out)⟩⟩
          · rw [if_neg c35] at H
            have c35b0 : (a1_6.toList == ([] : List UInt8)) = false := beq_eq_false_iff_ne.mpr c35
            have c35b1 : (a1_6.toList != ([] : List UInt8)) = true := bne_iff_ne.mpr c35
            have H' := Aside0.mk H
            clear H
            have hnb41 := NB102_101.out
            have hnc41 := NB101_102.out
            have hcz42_0 : wc.cell? ⟨gb102, 0, none⟩ = some (.int .i64 a1_0) := (blk_cell BK102.out 0).trans rfl
            have hcz42_1 : wc.cell? ⟨gb102, 1, none⟩ = some (.int .i64 a1_1) := (blk_cell BK102.out 1).trans rfl
            have hcz42_2 : wc.cell? ⟨gb102, 2, none⟩ = some (.int .i64 a1_2) := (blk_cell BK102.out 2).trans rfl
            have hcz42_3 : wc.cell? ⟨gb102, 3, none⟩ = some (.int .i64 a1_3) := (blk_cell BK102.out 3).trans rfl
            have hcz42_4 : wc.cell? ⟨gb102, 4, none⟩ = some (.int .i64 a1_4) := (blk_cell BK102.out 4).trans rfl
            have hcz42_5 : wc.cell? ⟨gb102, 5, none⟩ = some (.int .i64 a1_5) := (blk_cell BK102.out 5).trans rfl
            have hcz42_6 : wc.cell? ⟨gb102, 6, none⟩ = some (.string a1_6) := (blk_cell BK102.out 6).trans rfl
            have hfz42_0 := blk_frozen BK102.out 0
            have hfz42_1 := blk_frozen BK102.out 1
            have hfz42_2 := blk_frozen BK102.out 2
            have hfz42_3 := blk_frozen BK102.out 3
            have hfz42_4 := blk_frozen BK102.out 4
            have hfz42_5 := blk_frozen BK102.out 5
            have hfz42_6 := blk_frozen BK102.out 6
            go_wp2
            go_meet
            case rel => exact ⟨_, (true), (by first | rfl | (simp; done) | (simp [*]; done)), H', ⟨by have := HJ5.out; first | omega | exact Nat.le_refl _⟩, ⟨by (with_reducible repeat (first | refine blk_drewN ?_ _ | refine blk_drew ?_ | refine blk_alloc ?_ _)); exact BK101.out⟩, ⟨by (with_reducible repeat (first | refine blk_drewN ?_ _ | refine blk_drew ?_ | refine blk_alloc ?_ _)); exact BK102.out⟩, ⟨by repeat (first | (with_reducible first | exact HB.out | apply below_alloc | apply pw_below_drewN | apply below_drew1 | refine below_set ?_ GE101.out | refine below_set ?_ GE102.out) | exact HB.out)⟩⟩
      case rest =>
        clear HC28
        try clear c1
        try clear c2
        try clear p2
        try clear c3
        try clear c4
        try clear c6
        try clear p6
        try clear c7
        try clear c9
        try clear c12
        try clear c13
        try clear c15
        try clear c18
        try clear c18b0
        try clear c18b1
        try clear c19
        try clear c21
        try clear c24
        try clear c26
        try clear c29
        try clear c29b0
        try clear c29b1
        try clear c30
        try clear c30b0
        try clear c30b1
        try clear c31
        try clear c33
        try clear c35
        try clear c35b0
        try clear c35b1
        try clear c36
        try clear c36b0
        try clear c36b1
        try clear c37
        try clear c39
        try clear c41
        try clear hcz10_0
        try clear hcz10_1
        try clear hcz10_2
        try clear hcz10_3
        try clear hcz10_4
        try clear hcz10_5
        try clear hcz10_6
        try clear hcz11_0
        try clear hcz11_1
        try clear hcz11_2
        try clear hcz11_3
        try clear hcz11_4
        try clear hcz16_0
        try clear hcz16_1
        try clear hcz16_2
        try clear hcz16_3
        try clear hcz16_4
        try clear hcz16_5
        try clear hcz16_6
        try clear hcz17_0
        try clear hcz17_1
        try clear hcz17_2
        try clear hcz17_3
        try clear hcz17_4
        try clear hcz22_0
        try clear hcz22_1
        try clear hcz22_2
        try clear hcz22_3
        try clear hcz22_4
        try clear hcz22_5
        try clear hcz22_6
        try clear hcz23_0
        try clear hcz23_1
        try clear hcz23_2
        try clear hcz23_3
        try clear hcz23_4
        try clear hcz25_0
        try clear hcz25_1
        try clear hcz25_2
        try clear hcz25_3
        try clear hcz25_4
        try clear hcz25_5
        try clear hcz25_6
        try clear hcz27_0
        try clear hcz27_1
        try clear hcz27_2
        try clear hcz27_3
        try clear hcz27_4
        try clear hcz27_5
        try clear hcz27_6
        try clear hcz32_0
        try clear hcz32_1
        try clear hcz32_2
        try clear hcz32_3
        try clear hcz32_4
        try clear hcz32_5
        try clear hcz32_6
        try clear hcz34_0
        try clear hcz34_1
        try clear hcz34_2
        try clear hcz34_3
        try clear hcz34_4
        try clear hcz34_5
        try clear hcz34_6
        try clear hcz38_0
        try clear hcz38_1
        try clear hcz38_2
        try clear hcz38_3
        try clear hcz38_4
        try clear hcz38_5
        try clear hcz38_6
        try clear hcz40_0
        try clear hcz40_1
        try clear hcz40_2
        try clear hcz40_3
        try clear hcz40_4
        try clear hcz40_5
        try clear hcz40_6
        try clear hcz42_0
        try clear hcz42_1
        try clear hcz42_2
        try clear hcz42_3
        try clear hcz42_4
        try clear hcz42_5
        try clear hcz42_6
        try clear hfz10_0
        try clear hfz10_1
        try clear hfz10_2
        try clear hfz10_3
        try clear hfz10_4
        try clear hfz10_5
        try clear hfz10_6
        try clear hfz11_0
        try clear hfz11_1
        try clear hfz11_2
        try clear hfz11_3
        try clear hfz11_4
        try clear hfz16_0
        try clear hfz16_1
        try clear hfz16_2
        try clear hfz16_3
        try clear hfz16_4
        try clear hfz16_5
        try clear hfz16_6
        try clear hfz17_0
        try clear hfz17_1
        try clear hfz17_2
        try clear hfz17_3
        try clear hfz17_4
        try clear hfz22_0
        try clear hfz22_1
        try clear hfz22_2
        try clear hfz22_3
        try clear hfz22_4
        try clear hfz22_5
        try clear hfz22_6
        try clear hfz23_0
        try clear hfz23_1
        try clear hfz23_2
        try clear hfz23_3
        try clear hfz23_4
        try clear hfz25_0
        try clear hfz25_1
        try clear hfz25_2
        try clear hfz25_3
        try clear hfz25_4
        try clear hfz25_5
        try clear hfz25_6
        try clear hfz27_0
        try clear hfz27_1
        try clear hfz27_2
        try clear hfz27_3
        try clear hfz27_4
        try clear hfz27_5
        try clear hfz27_6
        try clear hfz32_0
        try clear hfz32_1
        try clear hfz32_2
        try clear hfz32_3
        try clear hfz32_4
        try clear hfz32_5
        try clear hfz32_6
        try clear hfz34_0
        try clear hfz34_1
        try clear hfz34_2
        try clear hfz34_3
        try clear hfz34_4
        try clear hfz34_5
        try clear hfz34_6
        try clear hfz38_0
        try clear hfz38_1
        try clear hfz38_2
        try clear hfz38_3
        try clear hfz38_4
        try clear hfz38_5
        try clear hfz38_6
        try clear hfz40_0
        try clear hfz40_1
        try clear hfz40_2
        try clear hfz40_3
        try clear hfz40_4
        try clear hfz40_5
        try clear hfz40_6
        try clear hfz42_0
        try clear hfz42_1
        try clear hfz42_2
        try clear hfz42_3
        try clear hfz42_4
        try clear hfz42_5
        try clear hfz42_6
        try clear p2
        try clear p6
        obtain ⟨kq, x62_27, rfl, HA, HJ27, BK101, BK102, HB⟩ := hcut
        cases kq with
        | zero => exact absurd HA.out (by simp [spec_l04InstrOk.j1])
        | succ kj27 =>
          have H := HA.out
          clear HA
          simp only [spec_l04InstrOk.j1] at H
          by_cases c43 : x62_27 = true
          · subst c43
            have H1 : (some false) = some r := by rw [if_pos rfl] at H; exact H
            clear H
            have H := H1
            clear H1
            obtain rfl := Option.some.inj H
            go_wp2
            go_ret
            exact ⟨by first | rfl | (simp [errW_none, errW_some] <;> rfl) | (simp [*, errW_none, errW_some] <;> rfl), by repeat (first | (with_reducible first | exact HB.out | apply below_alloc | apply pw_below_drewN | apply below_drew1 | refine below_set ?_ GE101.out | refine below_set ?_ GE102.out) | exact HB.out)⟩
          · replace c43 := Bool.eq_false_iff.mpr c43
            subst c43
            have H1 : (if a1_0 = 0 then (if t103 = true then (if a1_2 = 0 then (some (a1_3 == 0)) else (some false)) else (some false)) else (if a1_0 = 1 then (if t103 = true then (if t104 = true then (if a1_3 = 0 then (some (a1_5 == 0)) else (some false)) else (some false)) else (some false)) else (if a1_0 = 2 then (if t103 = true then (if t104 = true then (if t105 = true then (if a1_5 = 0 then ((spec_l01Has.f kj27 (([(⟨#[61, 61]⟩ : ByteArray), (⟨#[60]⟩ : ByteArray), (⟨#[38]⟩ : ByteArray), (⟨#[43]⟩ : ByteArray), (⟨#[45]⟩ : ByteArray), (⟨#[42]⟩ : ByteArray)] : List ByteArray)) a1_6).bind fun t111 => (some t111)) else (some false)) else (some false)) else (some false)) else (some false)) else (if a1_0 = 3 then (if t103 = true then (some x8_5) else (some false)) else (if a1_0 = 4 then (if a1_1 = 0 then (if x8_5 = true then ((spec_l01In.f a1_4 0 (wrap64 (a0_3 - 1))).bind fun t112 => (some t112)) else (some false)) else (some false)) else (if a1_0 = 5 then (if t103 = true then (if a1_2 = 0 then (if a1_3 = 0 then (some (a1_5 == 0)) else (some false)) else (some false)) else (some false)) else (if a1_0 = 6 then (if a1_1 = 0 then (if t104 = true then (if a1_3 = 0 then (some (a1_5 == 0)) else (some false)) else (some false)) else (some false)) else (some false)))))))) = some r := by rw [if_neg (show ¬ (false = true) by decide)] at H; exact H
            clear H
            have H := H1
            clear H1
            by_cases c44 : a1_0 = 0
            · rw [if_pos c44] at H
              have c44b0 : (a1_0 == 0) = true := beq_iff_eq.mpr c44
              have c44b1 : (a1_0 != 0) = false := bne_eq_false_iff_eq.mpr c44
              clear c44
              by_cases c45 : t103 = true
              · subst c45
                have H1 : (if a1_2 = 0 then (some (a1_3 == 0)) else (some false)) = some r := by rw [if_pos rfl] at H; exact H
                clear H
                have H := H1
                clear H1
                by_cases c46 : a1_2 = 0
                · rw [if_pos c46] at H
                  have c46b0 : (a1_2 == 0) = true := beq_iff_eq.mpr c46
                  have c46b1 : (a1_2 != 0) = false := bne_eq_false_iff_eq.mpr c46
                  clear c46
                  obtain rfl := Option.some.inj H
                  have hnb47 := NB102_101.out
                  have hnc47 := NB101_102.out
                  have hcz48_0 : wc.cell? ⟨gb102, 0, none⟩ = some (.int .i64 a1_0) := (blk_cell BK102.out 0).trans rfl
                  have hcz48_1 : wc.cell? ⟨gb102, 1, none⟩ = some (.int .i64 a1_1) := (blk_cell BK102.out 1).trans rfl
                  have hcz48_2 : wc.cell? ⟨gb102, 2, none⟩ = some (.int .i64 a1_2) := (blk_cell BK102.out 2).trans rfl
                  have hcz48_3 : wc.cell? ⟨gb102, 3, none⟩ = some (.int .i64 a1_3) := (blk_cell BK102.out 3).trans rfl
                  have hcz48_4 : wc.cell? ⟨gb102, 4, none⟩ = some (.int .i64 a1_4) := (blk_cell BK102.out 4).trans rfl
                  have hcz48_5 : wc.cell? ⟨gb102, 5, none⟩ = some (.int .i64 a1_5) := (blk_cell BK102.out 5).trans rfl
                  have hcz48_6 : wc.cell? ⟨gb102, 6, none⟩ = some (.string a1_6) := (blk_cell BK102.out 6).trans rfl
                  have hfz48_0 := blk_frozen BK102.out 0
                  have hfz48_1 := blk_frozen BK102.out 1
                  have hfz48_2 := blk_frozen BK102.out 2
                  have hfz48_3 := blk_frozen BK102.out 3
                  have hfz48_4 := blk_frozen BK102.out 4
                  have hfz48_5 := blk_frozen BK102.out 5
                  have hfz48_6 := blk_frozen BK102.out 6
                  go_wp2
                  go_ret
                  exact ⟨by first | rfl | (simp [errW_none, errW_some] <;> rfl) | (simp [*, errW_none, errW_some] <;> rfl), by repeat (first | (with_reducible first | exact HB.out | apply below_alloc | apply pw_below_drewN | apply below_drew1 | refine below_set ?_ GE101.out | refine below_set ?_ GE102.out) | exact HB.out)⟩
                · rw [if_neg c46] at H
                  have c46b0 : (a1_2 == 0) = false := beq_eq_false_iff_ne.mpr c46
                  have c46b1 : (a1_2 != 0) = true := bne_iff_ne.mpr c46
                  obtain rfl := Option.some.inj H
                  have hnb49 := NB102_101.out
                  have hnc49 := NB101_102.out
                  have hcz50_0 : wc.cell? ⟨gb102, 0, none⟩ = some (.int .i64 a1_0) := (blk_cell BK102.out 0).trans rfl
                  have hcz50_1 : wc.cell? ⟨gb102, 1, none⟩ = some (.int .i64 a1_1) := (blk_cell BK102.out 1).trans rfl
                  have hcz50_2 : wc.cell? ⟨gb102, 2, none⟩ = some (.int .i64 a1_2) := (blk_cell BK102.out 2).trans rfl
                  have hcz50_3 : wc.cell? ⟨gb102, 3, none⟩ = some (.int .i64 a1_3) := (blk_cell BK102.out 3).trans rfl
                  have hcz50_4 : wc.cell? ⟨gb102, 4, none⟩ = some (.int .i64 a1_4) := (blk_cell BK102.out 4).trans rfl
                  have hcz50_5 : wc.cell? ⟨gb102, 5, none⟩ = some (.int .i64 a1_5) := (blk_cell BK102.out 5).trans rfl
                  have hcz50_6 : wc.cell? ⟨gb102, 6, none⟩ = some (.string a1_6) := (blk_cell BK102.out 6).trans rfl
                  have hfz50_0 := blk_frozen BK102.out 0
                  have hfz50_1 := blk_frozen BK102.out 1
                  have hfz50_2 := blk_frozen BK102.out 2
                  have hfz50_3 := blk_frozen BK102.out 3
                  have hfz50_4 := blk_frozen BK102.out 4
                  have hfz50_5 := blk_frozen BK102.out 5
                  have hfz50_6 := blk_frozen BK102.out 6
                  go_wp2
                  go_ret
                  exact ⟨by first | rfl | (simp [errW_none, errW_some] <;> rfl) | (simp [*, errW_none, errW_some] <;> rfl), by repeat (first | (with_reducible first | exact HB.out | apply below_alloc | apply pw_below_drewN | apply below_drew1 | refine below_set ?_ GE101.out | refine below_set ?_ GE102.out) | exact HB.out)⟩
              · replace c45 := Bool.eq_false_iff.mpr c45
                subst c45
                have H1 : (some false) = some r := by rw [if_neg (show ¬ (false = true) by decide)] at H; exact H
                clear H
                have H := H1
                clear H1
                obtain rfl := Option.some.inj H
                have hnb51 := NB102_101.out
                have hnc51 := NB101_102.out
                have hcz52_0 : wc.cell? ⟨gb102, 0, none⟩ = some (.int .i64 a1_0) := (blk_cell BK102.out 0).trans rfl
                have hcz52_1 : wc.cell? ⟨gb102, 1, none⟩ = some (.int .i64 a1_1) := (blk_cell BK102.out 1).trans rfl
                have hcz52_2 : wc.cell? ⟨gb102, 2, none⟩ = some (.int .i64 a1_2) := (blk_cell BK102.out 2).trans rfl
                have hcz52_3 : wc.cell? ⟨gb102, 3, none⟩ = some (.int .i64 a1_3) := (blk_cell BK102.out 3).trans rfl
                have hcz52_4 : wc.cell? ⟨gb102, 4, none⟩ = some (.int .i64 a1_4) := (blk_cell BK102.out 4).trans rfl
                have hcz52_5 : wc.cell? ⟨gb102, 5, none⟩ = some (.int .i64 a1_5) := (blk_cell BK102.out 5).trans rfl
                have hcz52_6 : wc.cell? ⟨gb102, 6, none⟩ = some (.string a1_6) := (blk_cell BK102.out 6).trans rfl
                have hfz52_0 := blk_frozen BK102.out 0
                have hfz52_1 := blk_frozen BK102.out 1
                have hfz52_2 := blk_frozen BK102.out 2
                have hfz52_3 := blk_frozen BK102.out 3
                have hfz52_4 := blk_frozen BK102.out 4
                have hfz52_5 := blk_frozen BK102.out 5
                have hfz52_6 := blk_frozen BK102.out 6
                go_wp2
                go_ret
                exact ⟨by first | rfl | (simp [errW_none, errW_some] <;> rfl) | (simp [*, errW_none, errW_some] <;> rfl), by repeat (first | (with_reducible first | exact HB.out | apply below_alloc | apply pw_below_drewN | apply below_drew1 | refine below_set ?_ GE101.out | refine below_set ?_ GE102.out) | exact HB.out)⟩
            · rw [if_neg c44] at H
              have c44b0 : (a1_0 == 0) = false := beq_eq_false_iff_ne.mpr c44
              have c44b1 : (a1_0 != 0) = true := bne_iff_ne.mpr c44
              by_cases c53 : a1_0 = 1
              · rw [if_pos c53] at H
                have c53b0 : (a1_0 == 1) = true := beq_iff_eq.mpr c53
                have c53b1 : (a1_0 != 1) = false := bne_eq_false_iff_eq.mpr c53
                clear c53
                by_cases c54 : t103 = true
                · subst c54
                  have H1 : (if t104 = true then (if a1_3 = 0 then (some (a1_5 == 0)) else (some false)) else (some false)) = some r := by rw [if_pos rfl] at H; exact H
                  clear H
                  have H := H1
                  clear H1
                  by_cases c55 : t104 = true
                  · subst c55
                    have H1 : (if a1_3 = 0 then (some (a1_5 == 0)) else (some false)) = some r := by rw [if_pos rfl] at H; exact H
                    clear H
                    have H := H1
                    clear H1
                    by_cases c56 : a1_3 = 0
                    · rw [if_pos c56] at H
                      have c56b0 : (a1_3 == 0) = true := beq_iff_eq.mpr c56
                      have c56b1 : (a1_3 != 0) = false := bne_eq_false_iff_eq.mpr c56
                      clear c56
                      obtain rfl := Option.some.inj H
                      have hnb57 := NB102_101.out
                      have hnc57 := NB101_102.out
                      have hcz58_0 : wc.cell? ⟨gb102, 0, none⟩ = some (.int .i64 a1_0) := (blk_cell BK102.out 0).trans rfl
                      have hcz58_1 : wc.cell? ⟨gb102, 1, none⟩ = some (.int .i64 a1_1) := (blk_cell BK102.out 1).trans rfl
                      have hcz58_2 : wc.cell? ⟨gb102, 2, none⟩ = some (.int .i64 a1_2) := (blk_cell BK102.out 2).trans rfl
                      have hcz58_3 : wc.cell? ⟨gb102, 3, none⟩ = some (.int .i64 a1_3) := (blk_cell BK102.out 3).trans rfl
                      have hcz58_4 : wc.cell? ⟨gb102, 4, none⟩ = some (.int .i64 a1_4) := (blk_cell BK102.out 4).trans rfl
                      have hcz58_5 : wc.cell? ⟨gb102, 5, none⟩ = some (.int .i64 a1_5) := (blk_cell BK102.out 5).trans rfl
                      have hcz58_6 : wc.cell? ⟨gb102, 6, none⟩ = some (.string a1_6) := (blk_cell BK102.out 6).trans rfl
                      have hfz58_0 := blk_frozen BK102.out 0
                      have hfz58_1 := blk_frozen BK102.out 1
                      have hfz58_2 := blk_frozen BK102.out 2
                      have hfz58_3 := blk_frozen BK102.out 3
                      have hfz58_4 := blk_frozen BK102.out 4
                      have hfz58_5 := blk_frozen BK102.out 5
                      have hfz58_6 := blk_frozen BK102.out 6
                      go_wp2
                      go_ret
                      exact ⟨by first | rfl | (simp [errW_none, errW_some] <;> rfl) | (simp [*, errW_none, errW_some] <;> rfl), by repeat (first | (with_reducible first | exact HB.out | apply below_alloc | apply pw_below_drewN | apply below_drew1 | refine below_set ?_ GE101.out | refine below_set ?_ GE102.out) | exact HB.out)⟩
                    · rw [if_neg c56] at H
                      have c56b0 : (a1_3 == 0) = false := beq_eq_false_iff_ne.mpr c56
                      have c56b1 : (a1_3 != 0) = true := bne_iff_ne.mpr c56
                      obtain rfl := Option.some.inj H
                      have hnb59 := NB102_101.out
                      have hnc59 := NB101_102.out
                      have hcz60_0 : wc.cell? ⟨gb102, 0, none⟩ = some (.int .i64 a1_0) := (blk_cell BK102.out 0).trans rfl
                      have hcz60_1 : wc.cell? ⟨gb102, 1, none⟩ = some (.int .i64 a1_1) := (blk_cell BK102.out 1).trans rfl
                      have hcz60_2 : wc.cell? ⟨gb102, 2, none⟩ = some (.int .i64 a1_2) := (blk_cell BK102.out 2).trans rfl
                      have hcz60_3 : wc.cell? ⟨gb102, 3, none⟩ = some (.int .i64 a1_3) := (blk_cell BK102.out 3).trans rfl
                      have hcz60_4 : wc.cell? ⟨gb102, 4, none⟩ = some (.int .i64 a1_4) := (blk_cell BK102.out 4).trans rfl
                      have hcz60_5 : wc.cell? ⟨gb102, 5, none⟩ = some (.int .i64 a1_5) := (blk_cell BK102.out 5).trans rfl
                      have hcz60_6 : wc.cell? ⟨gb102, 6, none⟩ = some (.string a1_6) := (blk_cell BK102.out 6).trans rfl
                      have hfz60_0 := blk_frozen BK102.out 0
                      have hfz60_1 := blk_frozen BK102.out 1
                      have hfz60_2 := blk_frozen BK102.out 2
                      have hfz60_3 := blk_frozen BK102.out 3
                      have hfz60_4 := blk_frozen BK102.out 4
                      have hfz60_5 := blk_frozen BK102.out 5
                      have hfz60_6 := blk_frozen BK102.out 6
                      go_wp2
                      go_ret
                      exact ⟨by first | rfl | (simp [errW_none, errW_some] <;> rfl) | (simp [*, errW_none, errW_some] <;> rfl), by repeat (first | (with_reducible first | exact HB.out | apply below_alloc | apply pw_below_drewN | apply below_drew1 | refine below_set ?_ GE101.out | refine below_set ?_ GE102.out) | exact HB.out)⟩
                  · replace c55 := Bool.eq_false_iff.mpr c55
                    subst c55
                    have H1 : (some false) = some r := by rw [if_neg (show ¬ (false = true) by decide)] at H; exact H
                    clear H
                    have H := H1
                    clear H1
                    obtain rfl := Option.some.inj H
                    have hnb61 := NB102_101.out
                    have hnc61 := NB101_102.out
                    have hcz62_0 : wc.cell? ⟨gb102, 0, none⟩ = some (.int .i64 a1_0) := (blk_cell BK102.out 0).trans rfl
                    have hcz62_1 : wc.cell? ⟨gb102, 1, none⟩ = some (.int .i64 a1_1) := (blk_cell BK102.out 1).trans rfl
                    have hcz62_2 : wc.cell? ⟨gb102, 2, none⟩ = some (.int .i64 a1_2) := (blk_cell BK102.out 2).trans rfl
                    have hcz62_3 : wc.cell? ⟨gb102, 3, none⟩ = some (.int .i64 a1_3) := (blk_cell BK102.out 3).trans rfl
                    have hcz62_4 : wc.cell? ⟨gb102, 4, none⟩ = some (.int .i64 a1_4) := (blk_cell BK102.out 4).trans rfl
                    have hcz62_5 : wc.cell? ⟨gb102, 5, none⟩ = some (.int .i64 a1_5) := (blk_cell BK102.out 5).trans rfl
                    have hcz62_6 : wc.cell? ⟨gb102, 6, none⟩ = some (.string a1_6) := (blk_cell BK102.out 6).trans rfl
                    have hfz62_0 := blk_frozen BK102.out 0
                    have hfz62_1 := blk_frozen BK102.out 1
                    have hfz62_2 := blk_frozen BK102.out 2
                    have hfz62_3 := blk_frozen BK102.out 3
                    have hfz62_4 := blk_frozen BK102.out 4
                    have hfz62_5 := blk_frozen BK102.out 5
                    have hfz62_6 := blk_frozen BK102.out 6
                    go_wp2
                    go_ret
                    exact ⟨by first | rfl | (simp [errW_none, errW_some] <;> rfl) | (simp [*, errW_none, errW_some] <;> rfl), by repeat (first | (with_reducible first | exact HB.out | apply below_alloc | apply pw_below_drewN | apply below_drew1 | refine below_set ?_ GE101.out | refine below_set ?_ GE102.out) | exact HB.out)⟩
                · replace c54 := Bool.eq_false_iff.mpr c54
                  subst c54
                  have H1 : (some false) = some r := by rw [if_neg (show ¬ (false = true) by decide)] at H; exact H
                  clear H
                  have H := H1
                  clear H1
                  obtain rfl := Option.some.inj H
                  have hnb63 := NB102_101.out
                  have hnc63 := NB101_102.out
                  have hcz64_0 : wc.cell? ⟨gb102, 0, none⟩ = some (.int .i64 a1_0) := (blk_cell BK102.out 0).trans rfl
                  have hcz64_1 : wc.cell? ⟨gb102, 1, none⟩ = some (.int .i64 a1_1) := (blk_cell BK102.out 1).trans rfl
                  have hcz64_2 : wc.cell? ⟨gb102, 2, none⟩ = some (.int .i64 a1_2) := (blk_cell BK102.out 2).trans rfl
                  have hcz64_3 : wc.cell? ⟨gb102, 3, none⟩ = some (.int .i64 a1_3) := (blk_cell BK102.out 3).trans rfl
                  have hcz64_4 : wc.cell? ⟨gb102, 4, none⟩ = some (.int .i64 a1_4) := (blk_cell BK102.out 4).trans rfl
                  have hcz64_5 : wc.cell? ⟨gb102, 5, none⟩ = some (.int .i64 a1_5) := (blk_cell BK102.out 5).trans rfl
                  have hcz64_6 : wc.cell? ⟨gb102, 6, none⟩ = some (.string a1_6) := (blk_cell BK102.out 6).trans rfl
                  have hfz64_0 := blk_frozen BK102.out 0
                  have hfz64_1 := blk_frozen BK102.out 1
                  have hfz64_2 := blk_frozen BK102.out 2
                  have hfz64_3 := blk_frozen BK102.out 3
                  have hfz64_4 := blk_frozen BK102.out 4
                  have hfz64_5 := blk_frozen BK102.out 5
                  have hfz64_6 := blk_frozen BK102.out 6
                  go_wp2
                  go_ret
                  exact ⟨by first | rfl | (simp [errW_none, errW_some] <;> rfl) | (simp [*, errW_none, errW_some] <;> rfl), by repeat (first | (with_reducible first | exact HB.out | apply below_alloc | apply pw_below_drewN | apply below_drew1 | refine below_set ?_ GE101.out | refine below_set ?_ GE102.out) | exact HB.out)⟩
              · rw [if_neg c53] at H
                have c53b0 : (a1_0 == 1) = false := beq_eq_false_iff_ne.mpr c53
                have c53b1 : (a1_0 != 1) = true := bne_iff_ne.mpr c53
                by_cases c65 : a1_0 = 2
                · rw [if_pos c65] at H
                  have c65b0 : (a1_0 == 2) = true := beq_iff_eq.mpr c65
                  have c65b1 : (a1_0 != 2) = false := bne_eq_false_iff_eq.mpr c65
                  clear c65
                  by_cases c66 : t103 = true
                  · subst c66
                    have H1 : (if t104 = true then (if t105 = true then (if a1_5 = 0 then ((spec_l01Has.f kj27 (([(⟨#[61, 61]⟩ : ByteArray), (⟨#[60]⟩ : ByteArray), (⟨#[38]⟩ : ByteArray), (⟨#[43]⟩ : ByteArray), (⟨#[45]⟩ : ByteArray), (⟨#[42]⟩ : ByteArray)] : List ByteArray)) a1_6).bind fun t111 => (some t111)) else (some false)) else (some false)) else (some false)) = some r := by rw [if_pos rfl] at H; exact H
                    clear H
                    have H := H1
                    clear H1
                    by_cases c67 : t104 = true
                    · subst c67
                      have H1 : (if t105 = true then (if a1_5 = 0 then ((spec_l01Has.f kj27 (([(⟨#[61, 61]⟩ : ByteArray), (⟨#[60]⟩ : ByteArray), (⟨#[38]⟩ : ByteArray), (⟨#[43]⟩ : ByteArray), (⟨#[45]⟩ : ByteArray), (⟨#[42]⟩ : ByteArray)] : List ByteArray)) a1_6).bind fun t111 => (some t111)) else (some false)) else (some false)) = some r := by rw [if_pos rfl] at H; exact H
                      clear H
                      have H := H1
                      clear H1
                      by_cases c68 : t105 = true
                      · subst c68
                        have H1 : (if a1_5 = 0 then ((spec_l01Has.f kj27 (([(⟨#[61, 61]⟩ : ByteArray), (⟨#[60]⟩ : ByteArray), (⟨#[38]⟩ : ByteArray), (⟨#[43]⟩ : ByteArray), (⟨#[45]⟩ : ByteArray), (⟨#[42]⟩ : ByteArray)] : List ByteArray)) a1_6).bind fun t111 => (some t111)) else (some false)) = some r := by rw [if_pos rfl] at H; exact H
                        clear H
                        have H := H1
                        clear H1
                        by_cases c69 : a1_5 = 0
                        · rw [if_pos c69] at H
                          have c69b0 : (a1_5 == 0) = true := beq_iff_eq.mpr c69
                          have c69b1 : (a1_5 != 0) = false := bne_eq_false_iff_eq.mpr c69
                          clear c69
                          obtain ⟨y108, hy108⟩ : ∃ y_ : List ByteArray, y_ = (([(⟨#[61, 61]⟩ : ByteArray), (⟨#[60]⟩ : ByteArray), (⟨#[38]⟩ : ByteArray), (⟨#[43]⟩ : ByteArray), (⟨#[45]⟩ : ByteArray), (⟨#[42]⟩ : ByteArray)] : List ByteArray)) := ⟨_, rfl⟩
                          replace H : ((spec_l01Has.f kj27 y108 a1_6).bind fun t111 => (some t111)) = some r := by first | (rw [hy108]; with_reducible exact H) | (have H2_ := (Option.bind_some _ _).symm.trans H; rw [hy108]; with_reducible exact H2_) | (have H2_ := (Option.bind_some _ _).symm.trans H; with_reducible exact H2_) | with_reducible exact H | (rw [hy108]; exact H) | exact H
                          have Ny108 := Aside0.mk hy108
                          clear hy108
                          replace H := Option.bind_eq_some_iff.mp H
                          obtain ⟨t111, A700, H⟩ := H
                          replace H : (some t111) = some r := H
                          have A70 := Aside0.mk A700
                          clear A700
                          obtain rfl := Option.some.inj H
                          have hnb71 := NB102_101.out
                          have hnc71 := NB101_102.out
                          have hcz72_0 : wc.cell? ⟨gb102, 0, none⟩ = some (.int .i64 a1_0) := (blk_cell BK102.out 0).trans rfl
                          have hcz72_1 : wc.cell? ⟨gb102, 1, none⟩ = some (.int .i64 a1_1) := (blk_cell BK102.out 1).trans rfl
                          have hcz72_2 : wc.cell? ⟨gb102, 2, none⟩ = some (.int .i64 a1_2) := (blk_cell BK102.out 2).trans rfl
                          have hcz72_3 : wc.cell? ⟨gb102, 3, none⟩ = some (.int .i64 a1_3) := (blk_cell BK102.out 3).trans rfl
                          have hcz72_4 : wc.cell? ⟨gb102, 4, none⟩ = some (.int .i64 a1_4) := (blk_cell BK102.out 4).trans rfl
                          have hcz72_5 : wc.cell? ⟨gb102, 5, none⟩ = some (.int .i64 a1_5) := (blk_cell BK102.out 5).trans rfl
                          have hcz72_6 : wc.cell? ⟨gb102, 6, none⟩ = some (.string a1_6) := (blk_cell BK102.out 6).trans rfl
                          have hfz72_0 := blk_frozen BK102.out 0
                          have hfz72_1 := blk_frozen BK102.out 1
                          have hfz72_2 := blk_frozen BK102.out 2
                          have hfz72_3 := blk_frozen BK102.out 3
                          have hfz72_4 := blk_frozen BK102.out 4
                          have hfz72_5 := blk_frozen BK102.out 5
                          have hfz72_6 := blk_frozen BK102.out 6
                          go_wp2_with (first | ((with_reducible refine gate_dst (N := 109) rfl ?_); (try (refine gate_guard (by rfl) ?_; dsimp only)); refine Kd.R_lit Kd.string _ 9 ?hg (N := 109) ?hd (xs := ([(⟨#[61, 61]⟩ : ByteArray), (⟨#[60]⟩ : ByteArray), (⟨#[38]⟩ : ByteArray), (⟨#[43]⟩ : ByteArray), (⟨#[45]⟩ : ByteArray), (⟨#[42]⟩ : ByteArray)] : List ByteArray)) (inner := [.string (⟨#[61, 61]⟩ : ByteArray), .string (⟨#[60]⟩ : ByteArray), .string (⟨#[38]⟩ : ByteArray), .string (⟨#[43]⟩ : ByteArray), .string (⟨#[45]⟩ : ByteArray), .string (⟨#[42]⟩ : ByteArray)]) (ok := fun _ => True) (okp := fun _ => True) ?hr ?hp (fun _ hk => hk) trivial (Below.refl _ _) (Nat.le_refl _) (by simp) ?_; (case hd => rfl); (case hg => rfl); (case hr => first | (go_simp; done) | (go_simp; rfl)); (case hp => exact (Reps.one (show Kd.M Kd.string _ _ _ (⟨#[61, 61]⟩ : ByteArray) [.string (⟨#[61, 61]⟩ : ByteArray)] from rfl) (Reps.one (show Kd.M Kd.string _ _ _ (⟨#[60]⟩ : ByteArray) [.string (⟨#[60]⟩ : ByteArray)] from rfl) (Reps.one (show Kd.M Kd.string _ _ _ (⟨#[38]⟩ : ByteArray) [.string (⟨#[38]⟩ : ByteArray)] from rfl) (Reps.one (show Kd.M Kd.string _ _ _ (⟨#[43]⟩ : ByteArray) [.string (⟨#[43]⟩ : ByteArray)] from rfl) (Reps.one (show Kd.M Kd.string _ _ _ (⟨#[45]⟩ : ByteArray) [.string (⟨#[45]⟩ : ByteArray)] from rfl) (Reps.one (show Kd.M Kd.string _ _ _ (⟨#[42]⟩ : ByteArray) [.string (⟨#[42]⟩ : ByteArray)] from rfl) (Reps.none _ _)))))))); intro v109 w73 ho74 hb hg_ hnew_; clear hg_ hnew_; (first | rw [← Ny108.out] at ho74 | (simp only [Int.reduceToNat] at ho74; rw [← Ny108.out] at ho74)); have n0_ := Aside0.mk (Kd.R_lower ho74 (below_size (by repeat (first | (with_reducible first | exact HB.out | apply below_alloc | apply pw_below_drewN | apply below_drew1 | refine below_set ?_ GE101.out | refine below_set ?_ GE102.out) | exact HB.out)))); have n1_ := Aside0.mk (blk_below (g := gb101) (o := .cells #[.slice A0_0 l0_0.length c0_0, .int .i64 a0_1, .int .i64 a0_2, .int .i64 a0_3, .slice A0_4 l0_4.length c0_4] 30 (0, 0)) (by (with_reducible repeat (first | refine blk_drewN ?_ _ | refine blk_drew ?_ | refine blk_alloc ?_ _)); exact BK101.out) hb); have n2_ := Aside0.mk (blk_below (g := gb102) (o := .cells #[.int .i64 a1_0, .int .i64 a1_1, .int .i64 a1_2, .int .i64 a1_3, .int .i64 a1_4, .int .i64 a1_5, .string a1_6] 39 (0, 0)) (by (with_reducible repeat (first | refine blk_drewN ?_ _ | refine blk_drew ?_ | refine blk_alloc ?_ _)); exact BK102.out) hb); have n3_ := Aside0.mk (below_step (by repeat (first | (with_reducible first | exact HB.out | apply below_alloc | apply pw_below_drewN | apply below_drew1 | refine below_set ?_ GE101.out | refine below_set ?_ GE102.out) | exact HB.out)) hb); clear BK101; clear BK102; clear HB; have HO110 := n0_; have BK101 := n1_; have BK102 := n2_; have HB := n3_; clear n0_ n1_ n2_ n3_; clear hb ho74; have hcz75_0 : w73.cell? ⟨gb102, 0, none⟩ = some (.int .i64 a1_0) := (blk_cell BK102.out 0).trans rfl; have hcz75_1 : w73.cell? ⟨gb102, 1, none⟩ = some (.int .i64 a1_1) := (blk_cell BK102.out 1).trans rfl; have hcz75_2 : w73.cell? ⟨gb102, 2, none⟩ = some (.int .i64 a1_2) := (blk_cell BK102.out 2).trans rfl; have hcz75_3 : w73.cell? ⟨gb102, 3, none⟩ = some (.int .i64 a1_3) := (blk_cell BK102.out 3).trans rfl; have hcz75_4 : w73.cell? ⟨gb102, 4, none⟩ = some (.int .i64 a1_4) := (blk_cell BK102.out 4).trans rfl; have hcz75_5 : w73.cell? ⟨gb102, 5, none⟩ = some (.int .i64 a1_5) := (blk_cell BK102.out 5).trans rfl; have hcz75_6 : w73.cell? ⟨gb102, 6, none⟩ = some (.string a1_6) := (blk_cell BK102.out 6).trans rfl; have hfz75_0 := blk_frozen BK102.out 0; have hfz75_1 := blk_frozen BK102.out 1; have hfz75_2 := blk_frozen BK102.out 2; have hfz75_3 := blk_frozen BK102.out 3; have hfz75_4 := blk_frozen BK102.out 4; have hfz75_5 := blk_frozen BK102.out 5; have hfz75_6 := blk_frozen BK102.out 6; obtain ⟨Ao76, co76, eo76⟩ := Kd.R_slice HO110.out; subst eo76) | (go_at_call 103; (with_reducible refine (spec_l01Has.calls kj27 _ _ y108 a1_6 t111 _ ?side1 ?side2 A70.out).mono ?_); (case side1 => repeat (first | exact (Kd.R_reads' HO110.out).2.2 | (with_reducible refine Kd.C_alloc ?_ _) | (with_reducible refine Kd.C_drewN ?_ _) | (with_reducible refine Kd.C_drew ?_))); (case side2 => exact (Kd.R_reads' HO110.out).2.1); rintro e w' ⟨rfl, ⟨nd, rfl⟩⟩))
                          go_ret
                          exact ⟨by first | rfl | (simp [errW_none, errW_some] <;> rfl) | (simp [*, errW_none, errW_some] <;> rfl), by repeat (first | (with_reducible first | exact HB.out | apply below_alloc | apply pw_below_drewN | apply below_drew1 | refine below_set ?_ GE101.out | refine below_set ?_ GE102.out) | exact HB.out)⟩
                        · rw [if_neg c69] at H
                          have c69b0 : (a1_5 == 0) = false := beq_eq_false_iff_ne.mpr c69
                          have c69b1 : (a1_5 != 0) = true := bne_iff_ne.mpr c69
                          obtain rfl := Option.some.inj H
                          have hnb77 := NB102_101.out
                          have hnc77 := NB101_102.out
                          have hcz78_0 : wc.cell? ⟨gb102, 0, none⟩ = some (.int .i64 a1_0) := (blk_cell BK102.out 0).trans rfl
                          have hcz78_1 : wc.cell? ⟨gb102, 1, none⟩ = some (.int .i64 a1_1) := (blk_cell BK102.out 1).trans rfl
                          have hcz78_2 : wc.cell? ⟨gb102, 2, none⟩ = some (.int .i64 a1_2) := (blk_cell BK102.out 2).trans rfl
                          have hcz78_3 : wc.cell? ⟨gb102, 3, none⟩ = some (.int .i64 a1_3) := (blk_cell BK102.out 3).trans rfl
                          have hcz78_4 : wc.cell? ⟨gb102, 4, none⟩ = some (.int .i64 a1_4) := (blk_cell BK102.out 4).trans rfl
                          have hcz78_5 : wc.cell? ⟨gb102, 5, none⟩ = some (.int .i64 a1_5) := (blk_cell BK102.out 5).trans rfl
                          have hcz78_6 : wc.cell? ⟨gb102, 6, none⟩ = some (.string a1_6) := (blk_cell BK102.out 6).trans rfl
                          have hfz78_0 := blk_frozen BK102.out 0
                          have hfz78_1 := blk_frozen BK102.out 1
                          have hfz78_2 := blk_frozen BK102.out 2
                          have hfz78_3 := blk_frozen BK102.out 3
                          have hfz78_4 := blk_frozen BK102.out 4
                          have hfz78_5 := blk_frozen BK102.out 5
                          have hfz78_6 := blk_frozen BK102.out 6
                          go_wp2
                          go_ret
                          exact ⟨by first | rfl | (simp [errW_none, errW_some] <;> rfl) | (simp [*, errW_none, errW_some] <;> rfl), by repeat (first | (with_reducible first | exact HB.out | apply below_alloc | apply pw_below_drewN | apply below_drew1 | refine below_set ?_ GE101.out | refine below_set ?_ GE102.out) | exact HB.out)⟩
                      · replace c68 := Bool.eq_false_iff.mpr c68
                        subst c68
                        have H1 : (some false) = some r := by rw [if_neg (show ¬ (false = true) by decide)] at H; exact H
                        clear H
                        have H := H1
                        clear H1
                        obtain rfl := Option.some.inj H
                        have hnb79 := NB102_101.out
                        have hnc79 := NB101_102.out
                        have hcz80_0 : wc.cell? ⟨gb102, 0, none⟩ = some (.int .i64 a1_0) := (blk_cell BK102.out 0).trans rfl
                        have hcz80_1 : wc.cell? ⟨gb102, 1, none⟩ = some (.int .i64 a1_1) := (blk_cell BK102.out 1).trans rfl
                        have hcz80_2 : wc.cell? ⟨gb102, 2, none⟩ = some (.int .i64 a1_2) := (blk_cell BK102.out 2).trans rfl
                        have hcz80_3 : wc.cell? ⟨gb102, 3, none⟩ = some (.int .i64 a1_3) := (blk_cell BK102.out 3).trans rfl
                        have hcz80_4 : wc.cell? ⟨gb102, 4, none⟩ = some (.int .i64 a1_4) := (blk_cell BK102.out 4).trans rfl
                        have hcz80_5 : wc.cell? ⟨gb102, 5, none⟩ = some (.int .i64 a1_5) := (blk_cell BK102.out 5).trans rfl
                        have hcz80_6 : wc.cell? ⟨gb102, 6, none⟩ = some (.string a1_6) := (blk_cell BK102.out 6).trans rfl
                        have hfz80_0 := blk_frozen BK102.out 0
                        have hfz80_1 := blk_frozen BK102.out 1
                        have hfz80_2 := blk_frozen BK102.out 2
                        have hfz80_3 := blk_frozen BK102.out 3
                        have hfz80_4 := blk_frozen BK102.out 4
                        have hfz80_5 := blk_frozen BK102.out 5
                        have hfz80_6 := blk_frozen BK102.out 6
                        go_wp2
                        go_ret
                        exact ⟨by first | rfl | (simp [errW_none, errW_some] <;> rfl) | (simp [*, errW_none, errW_some] <;> rfl), by repeat (first | (with_reducible first | exact HB.out | apply below_alloc | apply pw_below_drewN | apply below_drew1 | refine below_set ?_ GE101.out | refine below_set ?_ GE102.out) | exact HB.out)⟩
                    · replace c67 := Bool.eq_false_iff.mpr c67
                      subst c67
                      have H1 : (some false) = some r := by rw [if_neg (show ¬ (false = true) by decide)] at H; exact H
                      clear H
                      have H := H1
                      clear H1
                      obtain rfl := Option.some.inj H
                      have hnb81 := NB102_101.out
                      have hnc81 := NB101_102.out
                      have hcz82_0 : wc.cell? ⟨gb102, 0, none⟩ = some (.int .i64 a1_0) := (blk_cell BK102.out 0).trans rfl
                      have hcz82_1 : wc.cell? ⟨gb102, 1, none⟩ = some (.int .i64 a1_1) := (blk_cell BK102.out 1).trans rfl
                      have hcz82_2 : wc.cell? ⟨gb102, 2, none⟩ = some (.int .i64 a1_2) := (blk_cell BK102.out 2).trans rfl
                      have hcz82_3 : wc.cell? ⟨gb102, 3, none⟩ = some (.int .i64 a1_3) := (blk_cell BK102.out 3).trans rfl
                      have hcz82_4 : wc.cell? ⟨gb102, 4, none⟩ = some (.int .i64 a1_4) := (blk_cell BK102.out 4).trans rfl
                      have hcz82_5 : wc.cell? ⟨gb102, 5, none⟩ = some (.int .i64 a1_5) := (blk_cell BK102.out 5).trans rfl
                      have hcz82_6 : wc.cell? ⟨gb102, 6, none⟩ = some (.string a1_6) := (blk_cell BK102.out 6).trans rfl
                      have hfz82_0 := blk_frozen BK102.out 0
                      have hfz82_1 := blk_frozen BK102.out 1
                      have hfz82_2 := blk_frozen BK102.out 2
                      have hfz82_3 := blk_frozen BK102.out 3
                      have hfz82_4 := blk_frozen BK102.out 4
                      have hfz82_5 := blk_frozen BK102.out 5
                      have hfz82_6 := blk_frozen BK102.out 6
                      go_wp2
                      go_ret
                      exact ⟨by first | rfl | (simp [errW_none, errW_some] <;> rfl) | (simp [*, errW_none, errW_some] <;> rfl), by repeat (first | (with_reducible first | exact HB.out | apply below_alloc | apply pw_below_drewN | apply below_drew1 | refine below_set ?_ GE101.out | refine below_set ?_ GE102.out) | exact HB.out)⟩
                  · replace c66 := Bool.eq_false_iff.mpr c66
                    subst c66
                    have H1 : (some false) = some r := by rw [if_neg (show ¬ (false = true) by decide)] at H; exact H
                    clear H
                    have H := H1
                    clear H1
                    obtain rfl := Option.some.inj H
                    have hnb83 := NB102_101.out
                    have hnc83 := NB101_102.out
                    have hcz84_0 : wc.cell? ⟨gb102, 0, none⟩ = some (.int .i64 a1_0) := (blk_cell BK102.out 0).trans rfl
                    have hcz84_1 : wc.cell? ⟨gb102, 1, none⟩ = some (.int .i64 a1_1) := (blk_cell BK102.out 1).trans rfl
                    have hcz84_2 : wc.cell? ⟨gb102, 2, none⟩ = some (.int .i64 a1_2) := (blk_cell BK102.out 2).trans rfl
                    have hcz84_3 : wc.cell? ⟨gb102, 3, none⟩ = some (.int .i64 a1_3) := (blk_cell BK102.out 3).trans rfl
                    have hcz84_4 : wc.cell? ⟨gb102, 4, none⟩ = some (.int .i64 a1_4) := (blk_cell BK102.out 4).trans rfl
                    have hcz84_5 : wc.cell? ⟨gb102, 5, none⟩ = some (.int .i64 a1_5) := (blk_cell BK102.out 5).trans rfl
                    have hcz84_6 : wc.cell? ⟨gb102, 6, none⟩ = some (.string a1_6) := (blk_cell BK102.out 6).trans rfl
                    have hfz84_0 := blk_frozen BK102.out 0
                    have hfz84_1 := blk_frozen BK102.out 1
                    have hfz84_2 := blk_frozen BK102.out 2
                    have hfz84_3 := blk_frozen BK102.out 3
                    have hfz84_4 := blk_frozen BK102.out 4
                    have hfz84_5 := blk_frozen BK102.out 5
                    have hfz84_6 := blk_frozen BK102.out 6
                    go_wp2
                    go_ret
                    exact ⟨by first | rfl | (simp [errW_none, errW_some] <;> rfl) | (simp [*, errW_none, errW_some] <;> rfl), by repeat (first | (with_reducible first | exact HB.out | apply below_alloc | apply pw_below_drewN | apply below_drew1 | refine below_set ?_ GE101.out | refine below_set ?_ GE102.out) | exact HB.out)⟩
                · rw [if_neg c65] at H
                  have c65b0 : (a1_0 == 2) = false := beq_eq_false_iff_ne.mpr c65
                  have c65b1 : (a1_0 != 2) = true := bne_iff_ne.mpr c65
                  by_cases c85 : a1_0 = 3
                  · rw [if_pos c85] at H
                    have c85b0 : (a1_0 == 3) = true := beq_iff_eq.mpr c85
                    have c85b1 : (a1_0 != 3) = false := bne_eq_false_iff_eq.mpr c85
                    clear c85
                    by_cases c86 : t103 = true
                    · subst c86
                      have H1 : (some x8_5) = some r := by rw [if_pos rfl] at H; exact H
                      clear H
                      have H := H1
                      clear H1
                      obtain rfl := Option.some.inj H
                      have hnb87 := NB102_101.out
                      have hnc87 := NB101_102.out
                      have hcz88_0 : wc.cell? ⟨gb102, 0, none⟩ = some (.int .i64 a1_0) := (blk_cell BK102.out 0).trans rfl
                      have hcz88_1 : wc.cell? ⟨gb102, 1, none⟩ = some (.int .i64 a1_1) := (blk_cell BK102.out 1).trans rfl
                      have hcz88_2 : wc.cell? ⟨gb102, 2, none⟩ = some (.int .i64 a1_2) := (blk_cell BK102.out 2).trans rfl
                      have hcz88_3 : wc.cell? ⟨gb102, 3, none⟩ = some (.int .i64 a1_3) := (blk_cell BK102.out 3).trans rfl
                      have hcz88_4 : wc.cell? ⟨gb102, 4, none⟩ = some (.int .i64 a1_4) := (blk_cell BK102.out 4).trans rfl
                      have hcz88_5 : wc.cell? ⟨gb102, 5, none⟩ = some (.int .i64 a1_5) := (blk_cell BK102.out 5).trans rfl
                      have hcz88_6 : wc.cell? ⟨gb102, 6, none⟩ = some (.string a1_6) := (blk_cell BK102.out 6).trans rfl
                      have hfz88_0 := blk_frozen BK102.out 0
                      have hfz88_1 := blk_frozen BK102.out 1
                      have hfz88_2 := blk_frozen BK102.out 2
                      have hfz88_3 := blk_frozen BK102.out 3
                      have hfz88_4 := blk_frozen BK102.out 4
                      have hfz88_5 := blk_frozen BK102.out 5
                      have hfz88_6 := blk_frozen BK102.out 6
                      go_wp2
                      go_ret
                      exact ⟨by first | rfl | (simp [errW_none, errW_some] <;> rfl) | (simp [*, errW_none, errW_some] <;> rfl), by repeat (first | (with_reducible first | exact HB.out | apply below_alloc | apply pw_below_drewN | apply below_drew1 | refine below_set ?_ GE101.out | refine below_set ?_ GE102.out) | exact HB.out)⟩
                    · replace c86 := Bool.eq_false_iff.mpr c86
                      subst c86
                      have H1 : (some false) = some r := by rw [if_neg (show ¬ (false = true) by decide)] at H; exact H
                      clear H
                      have H := H1
                      clear H1
                      obtain rfl := Option.some.inj H
                      have hnb89 := NB102_101.out
                      have hnc89 := NB101_102.out
                      have hcz90_0 : wc.cell? ⟨gb102, 0, none⟩ = some (.int .i64 a1_0) := (blk_cell BK102.out 0).trans rfl
                      have hcz90_1 : wc.cell? ⟨gb102, 1, none⟩ = some (.int .i64 a1_1) := (blk_cell BK102.out 1).trans rfl
                      have hcz90_2 : wc.cell? ⟨gb102, 2, none⟩ = some (.int .i64 a1_2) := (blk_cell BK102.out 2).trans rfl
                      have hcz90_3 : wc.cell? ⟨gb102, 3, none⟩ = some (.int .i64 a1_3) := (blk_cell BK102.out 3).trans rfl
                      have hcz90_4 : wc.cell? ⟨gb102, 4, none⟩ = some (.int .i64 a1_4) := (blk_cell BK102.out 4).trans rfl
                      have hcz90_5 : wc.cell? ⟨gb102, 5, none⟩ = some (.int .i64 a1_5) := (blk_cell BK102.out 5).trans rfl
                      have hcz90_6 : wc.cell? ⟨gb102, 6, none⟩ = some (.string a1_6) := (blk_cell BK102.out 6).trans rfl
                      have hfz90_0 := blk_frozen BK102.out 0
                      have hfz90_1 := blk_frozen BK102.out 1
                      have hfz90_2 := blk_frozen BK102.out 2
                      have hfz90_3 := blk_frozen BK102.out 3
                      have hfz90_4 := blk_frozen BK102.out 4
                      have hfz90_5 := blk_frozen BK102.out 5
                      have hfz90_6 := blk_frozen BK102.out 6
                      go_wp2
                      go_ret
                      exact ⟨by first | rfl | (simp [errW_none, errW_some] <;> rfl) | (simp [*, errW_none, errW_some] <;> rfl), by repeat (first | (with_reducible first | exact HB.out | apply below_alloc | apply pw_below_drewN | apply below_drew1 | refine below_set ?_ GE101.out | refine below_set ?_ GE102.out) | exact HB.out)⟩
                  · rw [if_neg c85] at H
                    have c85b0 : (a1_0 == 3) = false := beq_eq_false_iff_ne.mpr c85
                    have c85b1 : (a1_0 != 3) = true := bne_iff_ne.mpr c85
                    by_cases c91 : a1_0 = 4
                    · rw [if_pos c91] at H
                      have c91b0 : (a1_0 == 4) = true := beq_iff_eq.mpr c91
                      have c91b1 : (a1_0 != 4) = false := bne_eq_false_iff_eq.mpr c91
                      clear c91
                      by_cases c92 : a1_1 = 0
                      · rw [if_pos c92] at H
                        have c92b0 : (a1_1 == 0) = true := beq_iff_eq.mpr c92
                        have c92b1 : (a1_1 != 0) = false := bne_eq_false_iff_eq.mpr c92
                        clear c92
                        by_cases c93 : x8_5 = true
                        · subst c93
                          have H1 : ((spec_l01In.f a1_4 0 (wrap64 (a0_3 - 1))).bind fun t112 => (some t112)) = some r := by rw [if_pos rfl] at H; exact H
                          clear H
                          have H := H1
                          clear H1
                          replace H := Option.bind_eq_some_iff.mp H
                          obtain ⟨t112, A940, H⟩ := H
                          replace H : (some t112) = some r := H
                          have A94 := Aside0.mk A940
                          clear A940
                          obtain rfl := Option.some.inj H
                          have hnb95 := NB102_101.out
                          have hnc95 := NB101_102.out
                          have hcz96_0 : wc.cell? ⟨gb102, 0, none⟩ = some (.int .i64 a1_0) := (blk_cell BK102.out 0).trans rfl
                          have hcz96_1 : wc.cell? ⟨gb102, 1, none⟩ = some (.int .i64 a1_1) := (blk_cell BK102.out 1).trans rfl
                          have hcz96_2 : wc.cell? ⟨gb102, 2, none⟩ = some (.int .i64 a1_2) := (blk_cell BK102.out 2).trans rfl
                          have hcz96_3 : wc.cell? ⟨gb102, 3, none⟩ = some (.int .i64 a1_3) := (blk_cell BK102.out 3).trans rfl
                          have hcz96_4 : wc.cell? ⟨gb102, 4, none⟩ = some (.int .i64 a1_4) := (blk_cell BK102.out 4).trans rfl
                          have hcz96_5 : wc.cell? ⟨gb102, 5, none⟩ = some (.int .i64 a1_5) := (blk_cell BK102.out 5).trans rfl
                          have hcz96_6 : wc.cell? ⟨gb102, 6, none⟩ = some (.string a1_6) := (blk_cell BK102.out 6).trans rfl
                          have hfz96_0 := blk_frozen BK102.out 0
                          have hfz96_1 := blk_frozen BK102.out 1
                          have hfz96_2 := blk_frozen BK102.out 2
                          have hfz96_3 := blk_frozen BK102.out 3
                          have hfz96_4 := blk_frozen BK102.out 4
                          have hfz96_5 := blk_frozen BK102.out 5
                          have hfz96_6 := blk_frozen BK102.out 6
                          have hcz97_0 : wc.cell? ⟨gb101, 0, none⟩ = some (.slice A0_0 l0_0.length c0_0) := (blk_cell BK101.out 0).trans rfl
                          have hcz97_1 : wc.cell? ⟨gb101, 1, none⟩ = some (.int .i64 a0_1) := (blk_cell BK101.out 1).trans rfl
                          have hcz97_2 : wc.cell? ⟨gb101, 2, none⟩ = some (.int .i64 a0_2) := (blk_cell BK101.out 2).trans rfl
                          have hcz97_3 : wc.cell? ⟨gb101, 3, none⟩ = some (.int .i64 a0_3) := (blk_cell BK101.out 3).trans rfl
                          have hcz97_4 : wc.cell? ⟨gb101, 4, none⟩ = some (.slice A0_4 l0_4.length c0_4) := (blk_cell BK101.out 4).trans rfl
                          have hfz97_0 := blk_frozen BK101.out 0
                          have hfz97_1 := blk_frozen BK101.out 1
                          have hfz97_2 := blk_frozen BK101.out 2
                          have hfz97_3 := blk_frozen BK101.out 3
                          have hfz97_4 := blk_frozen BK101.out 4
                          go_wp2_with (first | (go_at_call 76; (with_reducible refine (spec_l01In.calls a1_4 0 (wrap64 (a0_3 - 1)) t112 _ A94.out).mono ?_); rintro e w' ⟨rfl, ⟨nd, rfl⟩⟩))
                          go_ret
                          exact ⟨by first | rfl | (simp [errW_none, errW_some] <;> rfl) | (simp [*, errW_none, errW_some] <;> rfl), by repeat (first | (with_reducible first | exact HB.out | apply below_alloc | apply pw_below_drewN | apply below_drew1 | refine below_set ?_ GE101.out | refine below_set ?_ GE102.out) | exact HB.out)⟩
                        · replace c93 := Bool.eq_false_iff.mpr c93
                          subst c93
                          have H1 : (some false) = some r := by rw [if_neg (show ¬ (false = true) by decide)] at H; exact H
                          clear H
                          have H := H1
                          clear H1
                          obtain rfl := Option.some.inj H
                          have hnb98 := NB102_101.out
                          have hnc98 := NB101_102.out
                          have hcz99_0 : wc.cell? ⟨gb102, 0, none⟩ = some (.int .i64 a1_0) := (blk_cell BK102.out 0).trans rfl
                          have hcz99_1 : wc.cell? ⟨gb102, 1, none⟩ = some (.int .i64 a1_1) := (blk_cell BK102.out 1).trans rfl
                          have hcz99_2 : wc.cell? ⟨gb102, 2, none⟩ = some (.int .i64 a1_2) := (blk_cell BK102.out 2).trans rfl
                          have hcz99_3 : wc.cell? ⟨gb102, 3, none⟩ = some (.int .i64 a1_3) := (blk_cell BK102.out 3).trans rfl
                          have hcz99_4 : wc.cell? ⟨gb102, 4, none⟩ = some (.int .i64 a1_4) := (blk_cell BK102.out 4).trans rfl
                          have hcz99_5 : wc.cell? ⟨gb102, 5, none⟩ = some (.int .i64 a1_5) := (blk_cell BK102.out 5).trans rfl
                          have hcz99_6 : wc.cell? ⟨gb102, 6, none⟩ = some (.string a1_6) := (blk_cell BK102.out 6).trans rfl
                          have hfz99_0 := blk_frozen BK102.out 0
                          have hfz99_1 := blk_frozen BK102.out 1
                          have hfz99_2 := blk_frozen BK102.out 2
                          have hfz99_3 := blk_frozen BK102.out 3
                          have hfz99_4 := blk_frozen BK102.out 4
                          have hfz99_5 := blk_frozen BK102.out 5
                          have hfz99_6 := blk_frozen BK102.out 6
                          go_wp2
                          go_ret
                          exact ⟨by first | rfl | (simp [errW_none, errW_some] <;> rfl) | (simp [*, errW_none, errW_some] <;> rfl), by repeat (first | (with_reducible first | exact HB.out | apply below_alloc | apply pw_below_drewN | apply below_drew1 | refine below_set ?_ GE101.out | refine below_set ?_ GE102.out) | exact HB.out)⟩
                      · rw [if_neg c92] at H
                        have c92b0 : (a1_1 == 0) = false := beq_eq_false_iff_ne.mpr c92
                        have c92b1 : (a1_1 != 0) = true := bne_iff_ne.mpr c92
                        obtain rfl := Option.some.inj H
                        have hnb100 := NB102_101.out
                        have hnc100 := NB101_102.out
                        have hcz101_0 : wc.cell? ⟨gb102, 0, none⟩ = some (.int .i64 a1_0) := (blk_cell BK102.out 0).trans rfl
                        have hcz101_1 : wc.cell? ⟨gb102, 1, none⟩ = some (.int .i64 a1_1) := (blk_cell BK102.out 1).trans rfl
                        have hcz101_2 : wc.cell? ⟨gb102, 2, none⟩ = some (.int .i64 a1_2) := (blk_cell BK102.out 2).trans rfl
                        have hcz101_3 : wc.cell? ⟨gb102, 3, none⟩ = some (.int .i64 a1_3) := (blk_cell BK102.out 3).trans rfl
                        have hcz101_4 : wc.cell? ⟨gb102, 4, none⟩ = some (.int .i64 a1_4) := (blk_cell BK102.out 4).trans rfl
                        have hcz101_5 : wc.cell? ⟨gb102, 5, none⟩ = some (.int .i64 a1_5) := (blk_cell BK102.out 5).trans rfl
                        have hcz101_6 : wc.cell? ⟨gb102, 6, none⟩ = some (.string a1_6) := (blk_cell BK102.out 6).trans rfl
                        have hfz101_0 := blk_frozen BK102.out 0
                        have hfz101_1 := blk_frozen BK102.out 1
                        have hfz101_2 := blk_frozen BK102.out 2
                        have hfz101_3 := blk_frozen BK102.out 3
                        have hfz101_4 := blk_frozen BK102.out 4
                        have hfz101_5 := blk_frozen BK102.out 5
                        have hfz101_6 := blk_frozen BK102.out 6
                        go_wp2
                        go_ret
                        exact ⟨by first | rfl | (simp [errW_none, errW_some] <;> rfl) | (simp [*, errW_none, errW_some] <;> rfl), by repeat (first | (with_reducible first | exact HB.out | apply below_alloc | apply pw_below_drewN | apply below_drew1 | refine below_set ?_ GE101.out | refine below_set ?_ GE102.out) | exact HB.out)⟩
                    · rw [if_neg c91] at H
                      have c91b0 : (a1_0 == 4) = false := beq_eq_false_iff_ne.mpr c91
                      have c91b1 : (a1_0 != 4) = true := bne_iff_ne.mpr c91
                      by_cases c102 : a1_0 = 5
                      · rw [if_pos c102] at H
                        have c102b0 : (a1_0 == 5) = true := beq_iff_eq.mpr c102
                        have c102b1 : (a1_0 != 5) = false := bne_eq_false_iff_eq.mpr c102
                        clear c102
                        by_cases c103 : t103 = true
                        · subst c103
                          have H1 : (if a1_2 = 0 then (if a1_3 = 0 then (some (a1_5 == 0)) else (some false)) else (some false)) = some r := by rw [if_pos rfl] at H; exact H
                          clear H
                          have H := H1
                          clear H1
                          by_cases c104 : a1_2 = 0
                          · rw [if_pos c104] at H
                            have c104b0 : (a1_2 == 0) = true := beq_iff_eq.mpr c104
                            have c104b1 : (a1_2 != 0) = false := bne_eq_false_iff_eq.mpr c104
                            clear c104
                            by_cases c105 : a1_3 = 0
                            · rw [if_pos c105] at H
                              have c105b0 : (a1_3 == 0) = true := beq_iff_eq.mpr c105
                              have c105b1 : (a1_3 != 0) = false := bne_eq_false_iff_eq.mpr c105
                              clear c105
                              obtain rfl := Option.some.inj H
                              have hnb106 := NB102_101.out
                              have hnc106 := NB101_102.out
                              have hcz107_0 : wc.cell? ⟨gb102, 0, none⟩ = some (.int .i64 a1_0) := (blk_cell BK102.out 0).trans rfl
                              have hcz107_1 : wc.cell? ⟨gb102, 1, none⟩ = some (.int .i64 a1_1) := (blk_cell BK102.out 1).trans rfl
                              have hcz107_2 : wc.cell? ⟨gb102, 2, none⟩ = some (.int .i64 a1_2) := (blk_cell BK102.out 2).trans rfl
                              have hcz107_3 : wc.cell? ⟨gb102, 3, none⟩ = some (.int .i64 a1_3) := (blk_cell BK102.out 3).trans rfl
                              have hcz107_4 : wc.cell? ⟨gb102, 4, none⟩ = some (.int .i64 a1_4) := (blk_cell BK102.out 4).trans rfl
                              have hcz107_5 : wc.cell? ⟨gb102, 5, none⟩ = some (.int .i64 a1_5) := (blk_cell BK102.out 5).trans rfl
                              have hcz107_6 : wc.cell? ⟨gb102, 6, none⟩ = some (.string a1_6) := (blk_cell BK102.out 6).trans rfl
                              have hfz107_0 := blk_frozen BK102.out 0
                              have hfz107_1 := blk_frozen BK102.out 1
                              have hfz107_2 := blk_frozen BK102.out 2
                              have hfz107_3 := blk_frozen BK102.out 3
                              have hfz107_4 := blk_frozen BK102.out 4
                              have hfz107_5 := blk_frozen BK102.out 5
                              have hfz107_6 := blk_frozen BK102.out 6
                              go_wp2
                              go_ret
                              exact ⟨by first | rfl | (simp [errW_none, errW_some] <;> rfl) | (simp [*, errW_none, errW_some] <;> rfl), by repeat (first | (with_reducible first | exact HB.out | apply below_alloc | apply pw_below_drewN | apply below_drew1 | refine below_set ?_ GE101.out | refine below_set ?_ GE102.out) | exact HB.out)⟩
                            · rw [if_neg c105] at H
                              have c105b0 : (a1_3 == 0) = false := beq_eq_false_iff_ne.mpr c105
                              have c105b1 : (a1_3 != 0) = true := bne_iff_ne.mpr c105
                              obtain rfl := Option.some.inj H
                              have hnb108 := NB102_101.out
                              have hnc108 := NB101_102.out
                              have hcz109_0 : wc.cell? ⟨gb102, 0, none⟩ = some (.int .i64 a1_0) := (blk_cell BK102.out 0).trans rfl
                              have hcz109_1 : wc.cell? ⟨gb102, 1, none⟩ = some (.int .i64 a1_1) := (blk_cell BK102.out 1).trans rfl
                              have hcz109_2 : wc.cell? ⟨gb102, 2, none⟩ = some (.int .i64 a1_2) := (blk_cell BK102.out 2).trans rfl
                              have hcz109_3 : wc.cell? ⟨gb102, 3, none⟩ = some (.int .i64 a1_3) := (blk_cell BK102.out 3).trans rfl
                              have hcz109_4 : wc.cell? ⟨gb102, 4, none⟩ = some (.int .i64 a1_4) := (blk_cell BK102.out 4).trans rfl
                              have hcz109_5 : wc.cell? ⟨gb102, 5, none⟩ = some (.int .i64 a1_5) := (blk_cell BK102.out 5).trans rfl
                              have hcz109_6 : wc.cell? ⟨gb102, 6, none⟩ = some (.string a1_6) := (blk_cell BK102.out 6).trans rfl
                              have hfz109_0 := blk_frozen BK102.out 0
                              have hfz109_1 := blk_frozen BK102.out 1
                              have hfz109_2 := blk_frozen BK102.out 2
                              have hfz109_3 := blk_frozen BK102.out 3
                              have hfz109_4 := blk_frozen BK102.out 4
                              have hfz109_5 := blk_frozen BK102.out 5
                              have hfz109_6 := blk_frozen BK102.out 6
                              go_wp2
                              go_ret
                              exact ⟨by first | rfl | (simp [errW_none, errW_some] <;> rfl) | (simp [*, errW_none, errW_some] <;> rfl), by repeat (first | (with_reducible first | exact HB.out | apply below_alloc | apply pw_below_drewN | apply below_drew1 | refine below_set ?_ GE101.out | refine below_set ?_ GE102.out) | exact HB.out)⟩
                          · rw [if_neg c104] at H
                            have c104b0 : (a1_2 == 0) = false := beq_eq_false_iff_ne.mpr c104
                            have c104b1 : (a1_2 != 0) = true := bne_iff_ne.mpr c104
                            obtain rfl := Option.some.inj H
                            have hnb110 := NB102_101.out
                            have hnc110 := NB101_102.out
                            have hcz111_0 : wc.cell? ⟨gb102, 0, none⟩ = some (.int .i64 a1_0) := (blk_cell BK102.out 0).trans rfl
                            have hcz111_1 : wc.cell? ⟨gb102, 1, none⟩ = some (.int .i64 a1_1) := (blk_cell BK102.out 1).trans rfl
                            have hcz111_2 : wc.cell? ⟨gb102, 2, none⟩ = some (.int .i64 a1_2) := (blk_cell BK102.out 2).trans rfl
                            have hcz111_3 : wc.cell? ⟨gb102, 3, none⟩ = some (.int .i64 a1_3) := (blk_cell BK102.out 3).trans rfl
                            have hcz111_4 : wc.cell? ⟨gb102, 4, none⟩ = some (.int .i64 a1_4) := (blk_cell BK102.out 4).trans rfl
                            have hcz111_5 : wc.cell? ⟨gb102, 5, none⟩ = some (.int .i64 a1_5) := (blk_cell BK102.out 5).trans rfl
                            have hcz111_6 : wc.cell? ⟨gb102, 6, none⟩ = some (.string a1_6) := (blk_cell BK102.out 6).trans rfl
                            have hfz111_0 := blk_frozen BK102.out 0
                            have hfz111_1 := blk_frozen BK102.out 1
                            have hfz111_2 := blk_frozen BK102.out 2
                            have hfz111_3 := blk_frozen BK102.out 3
                            have hfz111_4 := blk_frozen BK102.out 4
                            have hfz111_5 := blk_frozen BK102.out 5
                            have hfz111_6 := blk_frozen BK102.out 6
                            go_wp2
                            go_ret
                            exact ⟨by first | rfl | (simp [errW_none, errW_some] <;> rfl) | (simp [*, errW_none, errW_some] <;> rfl), by repeat (first | (with_reducible first | exact HB.out | apply below_alloc | apply pw_below_drewN | apply below_drew1 | refine below_set ?_ GE101.out | refine below_set ?_ GE102.out) | exact HB.out)⟩
                        · replace c103 := Bool.eq_false_iff.mpr c103
                          subst c103
                          have H1 : (some false) = some r := by rw [if_neg (show ¬ (false = true) by decide)] at H; exact H
                          clear H
                          have H := H1
                          clear H1
                          obtain rfl := Option.some.inj H
                          have hnb112 := NB102_101.out
                          have hnc112 := NB101_102.out
                          have hcz113_0 : wc.cell? ⟨gb102, 0, none⟩ = some (.int .i64 a1_0) := (blk_cell BK102.out 0).trans rfl
                          have hcz113_1 : wc.cell? ⟨gb102, 1, none⟩ = some (.int .i64 a1_1) := (blk_cell BK102.out 1).trans rfl
                          have hcz113_2 : wc.cell? ⟨gb102, 2, none⟩ = some (.int .i64 a1_2) := (blk_cell BK102.out 2).trans rfl
                          have hcz113_3 : wc.cell? ⟨gb102, 3, none⟩ = some (.int .i64 a1_3) := (blk_cell BK102.out 3).trans rfl
                          have hcz113_4 : wc.cell? ⟨gb102, 4, none⟩ = some (.int .i64 a1_4) := (blk_cell BK102.out 4).trans rfl
                          have hcz113_5 : wc.cell? ⟨gb102, 5, none⟩ = some (.int .i64 a1_5) := (blk_cell BK102.out 5).trans rfl
                          have hcz113_6 : wc.cell? ⟨gb102, 6, none⟩ = some (.string a1_6) := (blk_cell BK102.out 6).trans rfl
                          have hfz113_0 := blk_frozen BK102.out 0
                          have hfz113_1 := blk_frozen BK102.out 1
                          have hfz113_2 := blk_frozen BK102.out 2
                          have hfz113_3 := blk_frozen BK102.out 3
                          have hfz113_4 := blk_frozen BK102.out 4
                          have hfz113_5 := blk_frozen BK102.out 5
                          have hfz113_6 := blk_frozen BK102.out 6
                          go_wp2
                          go_ret
                          exact ⟨by first | rfl | (simp [errW_none, errW_some] <;> rfl) | (simp [*, errW_none, errW_some] <;> rfl), by repeat (first | (with_reducible first | exact HB.out | apply below_alloc | apply pw_below_drewN | apply below_drew1 | refine below_set ?_ GE101.out | refine below_set ?_ GE102.out) | exact HB.out)⟩
                      · rw [if_neg c102] at H
                        have c102b0 : (a1_0 == 5) = false := beq_eq_false_iff_ne.mpr c102
                        have c102b1 : (a1_0 != 5) = true := bne_iff_ne.mpr c102
                        by_cases c114 : a1_0 = 6
                        · rw [if_pos c114] at H
                          have c114b0 : (a1_0 == 6) = true := beq_iff_eq.mpr c114
                          have c114b1 : (a1_0 != 6) = false := bne_eq_false_iff_eq.mpr c114
                          clear c114
                          by_cases c115 : a1_1 = 0
                          · rw [if_pos c115] at H
                            have c115b0 : (a1_1 == 0) = true := beq_iff_eq.mpr c115
                            have c115b1 : (a1_1 != 0) = false := bne_eq_false_iff_eq.mpr c115
                            clear c115
                            by_cases c116 : t104 = true
                            · subst c116
                              have H1 : (if a1_3 = 0 then (some (a1_5 == 0)) else (some false)) = some r := by rw [if_pos rfl] at H; exact H
                              clear H
                              have H := H1
                              clear H1
                              by_cases c117 : a1_3 = 0
                              · rw [if_pos c117] at H
                                have c117b0 : (a1_3 == 0) = true := beq_iff_eq.mpr c117
                                have c117b1 : (a1_3 != 0) = false := bne_eq_false_iff_eq.mpr c117
                                clear c117
                                obtain rfl := Option.some.inj H
                                have hnb118 := NB102_101.out
                                have hnc118 := NB101_102.out
                                have hcz119_0 : wc.cell? ⟨gb102, 0, none⟩ = some (.int .i64 a1_0) := (blk_cell BK102.out 0).trans rfl
                                have hcz119_1 : wc.cell? ⟨gb102, 1, none⟩ = some (.int .i64 a1_1) := (blk_cell BK102.out 1).trans rfl
                                have hcz119_2 : wc.cell? ⟨gb102, 2, none⟩ = some (.int .i64 a1_2) := (blk_cell BK102.out 2).trans rfl
                                have hcz119_3 : wc.cell? ⟨gb102, 3, none⟩ = some (.int .i64 a1_3) := (blk_cell BK102.out 3).trans rfl
                                have hcz119_4 : wc.cell? ⟨gb102, 4, none⟩ = some (.int .i64 a1_4) := (blk_cell BK102.out 4).trans rfl
                                have hcz119_5 : wc.cell? ⟨gb102, 5, none⟩ = some (.int .i64 a1_5) := (blk_cell BK102.out 5).trans rfl
                                have hcz119_6 : wc.cell? ⟨gb102, 6, none⟩ = some (.string a1_6) := (blk_cell BK102.out 6).trans rfl
                                have hfz119_0 := blk_frozen BK102.out 0
                                have hfz119_1 := blk_frozen BK102.out 1
                                have hfz119_2 := blk_frozen BK102.out 2
                                have hfz119_3 := blk_frozen BK102.out 3
                                have hfz119_4 := blk_frozen BK102.out 4
                                have hfz119_5 := blk_frozen BK102.out 5
                                have hfz119_6 := blk_frozen BK102.out 6
                                go_wp2
                                go_ret
                                exact ⟨by first | rfl | (simp [errW_none, errW_some] <;> rfl) | (simp [*, errW_none, errW_some] <;> rfl), by repeat (first | (with_reducible first | exact HB.out | apply below_alloc | apply pw_below_drewN | apply below_drew1 | refine below_set ?_ GE101.out | refine below_set ?_ GE102.out) | exact HB.out)⟩
                              · rw [if_neg c117] at H
                                have c117b0 : (a1_3 == 0) = false := beq_eq_false_iff_ne.mpr c117
                                have c117b1 : (a1_3 != 0) = true := bne_iff_ne.mpr c117
                                obtain rfl := Option.some.inj H
                                have hnb120 := NB102_101.out
                                have hnc120 := NB101_102.out
                                have hcz121_0 : wc.cell? ⟨gb102, 0, none⟩ = some (.int .i64 a1_0) := (blk_cell BK102.out 0).trans rfl
                                have hcz121_1 : wc.cell? ⟨gb102, 1, none⟩ = some (.int .i64 a1_1) := (blk_cell BK102.out 1).trans rfl
                                have hcz121_2 : wc.cell? ⟨gb102, 2, none⟩ = some (.int .i64 a1_2) := (blk_cell BK102.out 2).trans rfl
                                have hcz121_3 : wc.cell? ⟨gb102, 3, none⟩ = some (.int .i64 a1_3) := (blk_cell BK102.out 3).trans rfl
                                have hcz121_4 : wc.cell? ⟨gb102, 4, none⟩ = some (.int .i64 a1_4) := (blk_cell BK102.out 4).trans rfl
                                have hcz121_5 : wc.cell? ⟨gb102, 5, none⟩ = some (.int .i64 a1_5) := (blk_cell BK102.out 5).trans rfl
                                have hcz121_6 : wc.cell? ⟨gb102, 6, none⟩ = some (.string a1_6) := (blk_cell BK102.out 6).trans rfl
                                have hfz121_0 := blk_frozen BK102.out 0
                                have hfz121_1 := blk_frozen BK102.out 1
                                have hfz121_2 := blk_frozen BK102.out 2
                                have hfz121_3 := blk_frozen BK102.out 3
                                have hfz121_4 := blk_frozen BK102.out 4
                                have hfz121_5 := blk_frozen BK102.out 5
                                have hfz121_6 := blk_frozen BK102.out 6
                                go_wp2
                                go_ret
                                exact ⟨by first | rfl | (simp [errW_none, errW_some] <;> rfl) | (simp [*, errW_none, errW_some] <;> rfl), by repeat (first | (with_reducible first | exact HB.out | apply below_alloc | apply pw_below_drewN | apply below_drew1 | refine below_set ?_ GE101.out | refine below_set ?_ GE102.out) | exact HB.out)⟩
                            · replace c116 := Bool.eq_false_iff.mpr c116
                              subst c116
                              have H1 : (some false) = some r := by rw [if_neg (show ¬ (false = true) by decide)] at H; exact H
                              clear H
                              have H := H1
                              clear H1
                              obtain rfl := Option.some.inj H
                              have hnb122 := NB102_101.out
                              have hnc122 := NB101_102.out
                              have hcz123_0 : wc.cell? ⟨gb102, 0, none⟩ = some (.int .i64 a1_0) := (blk_cell BK102.out 0).trans rfl
                              have hcz123_1 : wc.cell? ⟨gb102, 1, none⟩ = some (.int .i64 a1_1) := (blk_cell BK102.out 1).trans rfl
                              have hcz123_2 : wc.cell? ⟨gb102, 2, none⟩ = some (.int .i64 a1_2) := (blk_cell BK102.out 2).trans rfl
                              have hcz123_3 : wc.cell? ⟨gb102, 3, none⟩ = some (.int .i64 a1_3) := (blk_cell BK102.out 3).trans rfl
                              have hcz123_4 : wc.cell? ⟨gb102, 4, none⟩ = some (.int .i64 a1_4) := (blk_cell BK102.out 4).trans rfl
                              have hcz123_5 : wc.cell? ⟨gb102, 5, none⟩ = some (.int .i64 a1_5) := (blk_cell BK102.out 5).trans rfl
                              have hcz123_6 : wc.cell? ⟨gb102, 6, none⟩ = some (.string a1_6) := (blk_cell BK102.out 6).trans rfl
                              have hfz123_0 := blk_frozen BK102.out 0
                              have hfz123_1 := blk_frozen BK102.out 1
                              have hfz123_2 := blk_frozen BK102.out 2
                              have hfz123_3 := blk_frozen BK102.out 3
                              have hfz123_4 := blk_frozen BK102.out 4
                              have hfz123_5 := blk_frozen BK102.out 5
                              have hfz123_6 := blk_frozen BK102.out 6
                              go_wp2
                              go_ret
                              exact ⟨by first | rfl | (simp [errW_none, errW_some] <;> rfl) | (simp [*, errW_none, errW_some] <;> rfl), by repeat (first | (with_reducible first | exact HB.out | apply below_alloc | apply pw_below_drewN | apply below_drew1 | refine below_set ?_ GE101.out | refine below_set ?_ GE102.out) | exact HB.out)⟩
                          · rw [if_neg c115] at H
                            have c115b0 : (a1_1 == 0) = false := beq_eq_false_iff_ne.mpr c115
                            have c115b1 : (a1_1 != 0) = true := bne_iff_ne.mpr c115
                            obtain rfl := Option.some.inj H
                            have hnb124 := NB102_101.out
                            have hnc124 := NB101_102.out
                            have hcz125_0 : wc.cell? ⟨gb102, 0, none⟩ = some (.int .i64 a1_0) := (blk_cell BK102.out 0).trans rfl
                            have hcz125_1 : wc.cell? ⟨gb102, 1, none⟩ = some (.int .i64 a1_1) := (blk_cell BK102.out 1).trans rfl
                            have hcz125_2 : wc.cell? ⟨gb102, 2, none⟩ = some (.int .i64 a1_2) := (blk_cell BK102.out 2).trans rfl
                            have hcz125_3 : wc.cell? ⟨gb102, 3, none⟩ = some (.int .i64 a1_3) := (blk_cell BK102.out 3).trans rfl
                            have hcz125_4 : wc.cell? ⟨gb102, 4, none⟩ = some (.int .i64 a1_4) := (blk_cell BK102.out 4).trans rfl
                            have hcz125_5 : wc.cell? ⟨gb102, 5, none⟩ = some (.int .i64 a1_5) := (blk_cell BK102.out 5).trans rfl
                            have hcz125_6 : wc.cell? ⟨gb102, 6, none⟩ = some (.string a1_6) := (blk_cell BK102.out 6).trans rfl
                            have hfz125_0 := blk_frozen BK102.out 0
                            have hfz125_1 := blk_frozen BK102.out 1
                            have hfz125_2 := blk_frozen BK102.out 2
                            have hfz125_3 := blk_frozen BK102.out 3
                            have hfz125_4 := blk_frozen BK102.out 4
                            have hfz125_5 := blk_frozen BK102.out 5
                            have hfz125_6 := blk_frozen BK102.out 6
                            go_wp2
                            go_ret
                            exact ⟨by first | rfl | (simp [errW_none, errW_some] <;> rfl) | (simp [*, errW_none, errW_some] <;> rfl), by repeat (first | (with_reducible first | exact HB.out | apply below_alloc | apply pw_below_drewN | apply below_drew1 | refine below_set ?_ GE101.out | refine below_set ?_ GE102.out) | exact HB.out)⟩
                        · rw [if_neg c114] at H
                          have c114b0 : (a1_0 == 6) = false := beq_eq_false_iff_ne.mpr c114
                          have c114b1 : (a1_0 != 6) = true := bne_iff_ne.mpr c114
                          obtain rfl := Option.some.inj H
                          have hnb126 := NB102_101.out
                          have hnc126 := NB101_102.out
                          have hcz127_0 : wc.cell? ⟨gb102, 0, none⟩ = some (.int .i64 a1_0) := (blk_cell BK102.out 0).trans rfl
                          have hcz127_1 : wc.cell? ⟨gb102, 1, none⟩ = some (.int .i64 a1_1) := (blk_cell BK102.out 1).trans rfl
                          have hcz127_2 : wc.cell? ⟨gb102, 2, none⟩ = some (.int .i64 a1_2) := (blk_cell BK102.out 2).trans rfl
                          have hcz127_3 : wc.cell? ⟨gb102, 3, none⟩ = some (.int .i64 a1_3) := (blk_cell BK102.out 3).trans rfl
                          have hcz127_4 : wc.cell? ⟨gb102, 4, none⟩ = some (.int .i64 a1_4) := (blk_cell BK102.out 4).trans rfl
                          have hcz127_5 : wc.cell? ⟨gb102, 5, none⟩ = some (.int .i64 a1_5) := (blk_cell BK102.out 5).trans rfl
                          have hcz127_6 : wc.cell? ⟨gb102, 6, none⟩ = some (.string a1_6) := (blk_cell BK102.out 6).trans rfl
                          have hfz127_0 := blk_frozen BK102.out 0
                          have hfz127_1 := blk_frozen BK102.out 1
                          have hfz127_2 := blk_frozen BK102.out 2
                          have hfz127_3 := blk_frozen BK102.out 3
                          have hfz127_4 := blk_frozen BK102.out 4
                          have hfz127_5 := blk_frozen BK102.out 5
                          have hfz127_6 := blk_frozen BK102.out 6
                          go_wp2
                          go_ret
                          exact ⟨by first | rfl | (simp [errW_none, errW_some] <;> rfl) | (simp [*, errW_none, errW_some] <;> rfl), by repeat (first | (with_reducible first | exact HB.out | apply below_alloc | apply pw_below_drewN | apply below_drew1 | refine below_set ?_ GE101.out | refine below_set ?_ GE102.out) | exact HB.out)⟩

end Go.Proofs.Ytbbpmcignfhfmaa.P
