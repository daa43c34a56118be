/- Printed by a program over this seat's translation: a Lean function for each Go function, and that the Go code comes to its answers. -/
import Derived.Test.YtbbpmcignfhfmaaDoorMShowGraph0a
import Derived.Test.YtbbpmcignfhfmaaDoorMShowGraph0ta
import Derived.Test.YtbbpmcignfhfmaaDoorMShowGraphxF21
import Derived.Test.YtbbpmcignfhfmaaDoorMShowGraph1va
namespace Go.Proofs.YtbbpmcignfhfmaaDoor.P
open Go.RowKit Go.Proofs.YtbbpmcignfhfmaaDoorW.PrintWords Go.Proofs.YtbbpmcignfhfmaaDoorW.PrintLast Go.Proofs.YtbbpmcignfhfmaaDoorW.PrintMore
attribute [local go_sem] max2_int min2_int max_two min_two max_three min_three max_four min_four   -- for this text's walks alone
set_option linter.unusedVariables false
set_option linter.unusedSimpArgs false

/-! ### impl_ShowGraph: function 13 -/
mutual
def impl_ShowGraph.l0 : Nat → ByteArray → List (S52) → Int → Int → Option (ByteArray)
  | 0, _, _, _, _ => none
  | k + 1, x3, x12, x13, x14 => if x14 < x13 then (if 0 ≤ x14 then (if x14 < (x12.length : Int) then ((strconv_Itoa_27.f x14).bind fun t105 => (if 1 + t105.size ≤ 9223372036854775807 then (if ((⟨#[98]⟩ : ByteArray) ++ t105).size + 2 ≤ 9223372036854775807 then (if x3.size + (((⟨#[98]⟩ : ByteArray) ++ t105) ++ (⟨#[58, 10]⟩ : ByteArray)).size ≤ 9223372036854775807 then (impl_ShowGraph.l1 k (x3 ++ (((⟨#[98]⟩ : ByteArray) ++ t105) ++ (⟨#[58, 10]⟩ : ByteArray))) x12 x13 x14 ((rd_T52 x12 x14).f0) (((rd_T52 x12 x14).f0).length : Int) 0 ((rd_T52 x12 x14).f0) ((rd_T52 x12 x14).f1) ((rd_T52 x12 x14).f2) ((rd_T52 x12 x14).f3) ((rd_T52 x12 x14).f4)) else (none)) else (none)) else (none))) else (none)) else (none)) else (some x3)
def impl_ShowGraph.l1 : Nat → ByteArray → List (S52) → Int → Int → List (S35) → Int → Int → List (S35) → Int → Int → Int → Int → Option (ByteArray)
  | 0, _, _, _, _, _, _, _, _, _, _, _, _ => none
  | k + 1, x3, x12, x13, x14, x26, x27, x28, x105000, x105001, x105002, x105003, x105004 => if x28 < x27 then (if 0 ≤ x28 then (if x28 < (x26.length : Int) then ((impl_showInstr.f k ((rd_T35 x26 x28).f0) ((rd_T35 x26 x28).f1) ((rd_T35 x26 x28).f2) ((rd_T35 x26 x28).f3) ((rd_T35 x26 x28).f4) ((rd_T35 x26 x28).f5) ((rd_T35 x26 x28).f6)).bind fun t108 => (if t108.size + 1 ≤ 9223372036854775807 then (if x3.size + (t108 ++ (⟨#[10]⟩ : ByteArray)).size ≤ 9223372036854775807 then (impl_ShowGraph.l1 k (x3 ++ (t108 ++ (⟨#[10]⟩ : ByteArray))) x12 x13 x14 x26 x27 (wrap64 (x28 + 1)) x105000 x105001 x105002 x105003 x105004) else (none)) else (none))) else (none)) else (none)) else (if x105001 = 0 then ((strconv_Itoa_27.f x105003).bind fun t109 => (if 4 + t109.size ≤ 9223372036854775807 then (if ((⟨#[103, 111, 32, 98]⟩ : ByteArray) ++ t109).size + 1 ≤ 9223372036854775807 then (if x3.size + (((⟨#[103, 111, 32, 98]⟩ : ByteArray) ++ t109) ++ (⟨#[10]⟩ : ByteArray)).size ≤ 9223372036854775807 then (impl_ShowGraph.l0 k (x3 ++ (((⟨#[103, 111, 32, 98]⟩ : ByteArray) ++ t109) ++ (⟨#[10]⟩ : ByteArray))) x12 x13 (wrap64 (x14 + 1))) else (none)) else (none)) else (none))) else (if x105001 = 1 then ((impl_slot.f x105002).bind fun t110 => (if 3 + t110.size ≤ 9223372036854775807 then (if ((⟨#[105, 102, 32]⟩ : ByteArray) ++ t110).size + 2 ≤ 9223372036854775807 then ((strconv_Itoa_27.f x105003).bind fun t111 => (if (((⟨#[105, 102, 32]⟩ : ByteArray) ++ t110) ++ (⟨#[32, 98]⟩ : ByteArray)).size + t111.size ≤ 9223372036854775807 then (if ((((⟨#[105, 102, 32]⟩ : ByteArray) ++ t110) ++ (⟨#[32, 98]⟩ : ByteArray)) ++ t111).size + 2 ≤ 9223372036854775807 then ((strconv_Itoa_27.f x105004).bind fun t112 => (if (((((⟨#[105, 102, 32]⟩ : ByteArray) ++ t110) ++ (⟨#[32, 98]⟩ : ByteArray)) ++ t111) ++ (⟨#[32, 98]⟩ : ByteArray)).size + t112.size ≤ 9223372036854775807 then (if ((((((⟨#[105, 102, 32]⟩ : ByteArray) ++ t110) ++ (⟨#[32, 98]⟩ : ByteArray)) ++ t111) ++ (⟨#[32, 98]⟩ : ByteArray)) ++ t112).size + 1 ≤ 9223372036854775807 then (if x3.size + (((((((⟨#[105, 102, 32]⟩ : ByteArray) ++ t110) ++ (⟨#[32, 98]⟩ : ByteArray)) ++ t111) ++ (⟨#[32, 98]⟩ : ByteArray)) ++ t112) ++ (⟨#[10]⟩ : ByteArray)).size ≤ 9223372036854775807 then (impl_ShowGraph.l0 k (x3 ++ (((((((⟨#[105, 102, 32]⟩ : ByteArray) ++ t110) ++ (⟨#[32, 98]⟩ : ByteArray)) ++ t111) ++ (⟨#[32, 98]⟩ : ByteArray)) ++ t112) ++ (⟨#[10]⟩ : ByteArray))) x12 x13 (wrap64 (x14 + 1))) else (none)) else (none)) else (none))) else (none)) else (none))) else (none)) else (none))) else ((impl_slot.f x105002).bind fun t113 => (if 4 + t113.size ≤ 9223372036854775807 then (if ((⟨#[114, 101, 116, 32]⟩ : ByteArray) ++ t113).size + 1 ≤ 9223372036854775807 then (if x3.size + (((⟨#[114, 101, 116, 32]⟩ : ByteArray) ++ t113) ++ (⟨#[10]⟩ : ByteArray)).size ≤ 9223372036854775807 then (impl_ShowGraph.l0 k (x3 ++ (((⟨#[114, 101, 116, 32]⟩ : ByteArray) ++ t113) ++ (⟨#[10]⟩ : ByteArray))) x12 x13 (wrap64 (x14 + 1))) else (none)) else (none)) else (none)))))
end
def impl_ShowGraph.f (k : Nat) (l0_0 : List Int) (a0_1 : Int) (a0_2 : Int) (a0_3 : Int) (l0_4 : List (S52)) : Option (ByteArray) := (impl_isGraph.f k l0_0 a0_1 a0_2 a0_3 l0_4).bind fun t102 => (if t102 = true then (impl_ShowGraph.l0 k (⟨#[]⟩ : ByteArray) l0_4 (l0_4.length : Int) 0) else (some (⟨#[]⟩ : ByteArray)))
theorem impl_ShowGraph.mono_l : ∀ k, (∀ y0 y1 y2 y3, LeO (impl_ShowGraph.l0 k y0 y1 y2 y3) (impl_ShowGraph.l0 (k + 1) y0 y1 y2 y3)) ∧ (∀ y0 y1 y2 y3 y4 y5 y6 y7 y8 y9 y10 y11, LeO (impl_ShowGraph.l1 k y0 y1 y2 y3 y4 y5 y6 y7 y8 y9 y10 y11) (impl_ShowGraph.l1 (k + 1) y0 y1 y2 y3 y4 y5 y6 y7 y8 y9 y10 y11))
  | 0 => ⟨fun _ _ _ _ r h => by simp [impl_ShowGraph.l0] at h, fun _ _ _ _ _ _ _ _ _ _ _ _ r h => by simp [impl_ShowGraph.l1] at h⟩
  | k + 1 => by
    obtain ⟨ih0, ih1⟩ := impl_ShowGraph.mono_l k
    refine ⟨?_, ?_⟩
    · intro y0 y1 y2 y3
      unfold impl_ShowGraph.l0
      repeat' first
      | (with_reducible exact ih0 _ _ _ _)
      | (with_reducible exact ih1 _ _ _ _ _ _ _ _ _ _ _ _)
      | (with_reducible exact impl_isGraph.mono _ _ _ _ _ _)
      | (with_reducible exact impl_showInstr.mono _ _ _ _ _ _ _ _)
      | (with_reducible exact LeO.refl _)
      | (with_reducible exact LeO.none _)
      | (with_reducible refine LeO.ite ?_ ?_)
      | (with_reducible refine LeO.bind ?_ (fun _ => ?_))
      | exact ih0 _ _ _ _
      | exact ih1 _ _ _ _ _ _ _ _ _ _ _ _
      | exact impl_isGraph.mono _ _ _ _ _ _
      | exact impl_showInstr.mono _ _ _ _ _ _ _ _
      | exact LeO.none _
      | refine LeO.ite ?_ ?_
      | refine LeO.bind ?_ (fun _ => ?_)
    · intro y0 y1 y2 y3 y4 y5 y6 y7 y8 y9 y10 y11
      unfold impl_ShowGraph.l1
      repeat' first
      | (with_reducible exact ih0 _ _ _ _)
      | (with_reducible exact ih1 _ _ _ _ _ _ _ _ _ _ _ _)
      | (with_reducible exact impl_isGraph.mono _ _ _ _ _ _)
      | (with_reducible exact impl_showInstr.mono _ _ _ _ _ _ _ _)
      | (with_reducible exact LeO.refl _)
      | (with_reducible exact LeO.none _)
      | (with_reducible refine LeO.ite ?_ ?_)
      | (with_reducible refine LeO.bind ?_ (fun _ => ?_))
      | exact ih0 _ _ _ _
      | exact ih1 _ _ _ _ _ _ _ _ _ _ _ _
      | exact impl_isGraph.mono _ _ _ _ _ _
      | exact impl_showInstr.mono _ _ _ _ _ _ _ _
      | exact LeO.none _
      | refine LeO.ite ?_ ?_
      | refine LeO.bind ?_ (fun _ => ?_)
theorem impl_ShowGraph.mono : ∀ a0 a1 a2 a3 a4 k, LeO (impl_ShowGraph.f k a0 a1 a2 a3 a4) (impl_ShowGraph.f (k + 1) a0 a1 a2 a3 a4) := by
  intro a0 a1 a2 a3 a4 k
  obtain ⟨ih0, ih1⟩ := impl_ShowGraph.mono_l k
  unfold impl_ShowGraph.f
  repeat' first
      | (with_reducible exact ih0 _ _ _ _)
      | (with_reducible exact ih1 _ _ _ _ _ _ _ _ _ _ _ _)
      | (with_reducible exact impl_isGraph.mono _ _ _ _ _ _)
      | (with_reducible exact impl_showInstr.mono _ _ _ _ _ _ _ _)
      | (with_reducible exact LeO.refl _)
      | (with_reducible exact LeO.none _)
      | (with_reducible refine LeO.ite ?_ ?_)
      | (with_reducible refine LeO.bind ?_ (fun _ => ?_))
      | exact ih0 _ _ _ _
      | exact ih1 _ _ _ _ _ _ _ _ _ _ _ _
      | exact impl_isGraph.mono _ _ _ _ _ _
      | exact impl_showInstr.mono _ _ _ _ _ _ _ _
      | exact LeO.none _
      | refine LeO.ite ?_ ?_
      | refine LeO.bind ?_ (fun _ => ?_)
def impl_ShowGraph.T18 : Bool × List (List Nat × List Nat) := (true, [([], []), ([], []), ([1], [1]), ([2], [2]), ([3], [3]), ([4], [4]), ([], []), ([6], [6]), ([7, 3], [7]), ([5, 8], [5, 8]), ([9], [9]), ([], []), ([11], [11]), ([12, 8], [12]), ([10, 13], [10, 13]), ([14], [14]), ([0, 15], [0, 15]), ([16, 13, 0, 1, 2, 3, 4, 5, 6, 7, 8, 9, 10, 11, 12, 13, 14, 15, 16], [0, 16])])
def impl_ShowGraph.B18 : List Nat := [0, 0, 2, 6, 14, 30, 0, 64, 206, 510, 1022, 0, 2048, 6606, 16382, 32766, 65535, 131071]
theorem impl_ShowGraph.tab18 : rtab .any (opsOf Tryd.f13 18) = impl_ShowGraph.T18 := by kernel_rfl
theorem impl_ShowGraph.bits18 : waitsOk impl_ShowGraph.T18.2 impl_ShowGraph.B18 = true := by kernel_rfl
set_option maxHeartbeats 8000000 in
set_option maxRecDepth 100000 in
theorem impl_ShowGraph.calls (k : Nat) (A0_0 : Option Addr) (c0_0 : Nat) (l0_0 : List Int) (a0_1 : Int) (a0_2 : Int) (a0_3 : Int) (A0_4 : Option Addr) (c0_4 : Nat) (l0_4 : List (S52)) (r : ByteArray) (w : World) (hr0_0 : Kd.C (Kd.int .i64) w A0_0 l0_0.length l0_0) (hc0_0 : l0_0.length ≤ c0_0) (hr0_4 : Kd.C k52 w A0_4 l0_4.length l0_4) (hc0_4 : l0_4.length ≤ c0_4) (h : impl_ShowGraph.f k l0_0 a0_1 a0_2 a0_3 l0_4 = some r) (ht : Tab w) :
    Calls Tryd.prog 13 #[.agg #[.slice A0_0 l0_0.length c0_0, .int .i64 a0_1, .int .i64 a0_2, .int .i64 a0_3, .slice A0_4 l0_4.length c0_4]] w fun e w' => e = .returned (.string r) ∧ Below w.heap.size w w' := by
  have hu33 := Tryd.underlying33
  have hu52 := Tryd.underlying52
  have hu35 := Tryd.underlying35
  have HR0_0 := Zs0.mk hr0_0
  have HC0_0 := Zs0.mk hc0_0
  clear hr0_0 hc0_0
  have HR0_4 := Zs0.mk hr0_4
  have HC0_4 := Zs0.mk hc0_4
  clear hr0_4 hc0_4
  have HB := Zs0.mk (Below.refl w.heap.size w)
  have HT := Zs0.mk ht
  clear ht
  have H : ((impl_isGraph.f k l0_0 a0_1 a0_2 a0_3 l0_4).bind fun t102 => (if t102 = true then (impl_ShowGraph.l0 k (⟨#[]⟩ : ByteArray) l0_4 (l0_4.length : Int) 0) else (some (⟨#[]⟩ : ByteArray)))) = some r := h
  clear h
  replace H := Option.bind_eq_some_iff.mp H
  obtain ⟨t102, A20, H⟩ := H
  replace H : (if t102 = true then (impl_ShowGraph.l0 k (⟨#[]⟩ : ByteArray) l0_4 (l0_4.length : Int) 0) else (some (⟨#[]⟩ : ByteArray))) = some r := H
  have A2 := Zs0.mk A20
  clear A20
  by_cases c3 : t102 = true
  · subst c3
    have H1 : (impl_ShowGraph.l0 k (⟨#[]⟩ : ByteArray) l0_4 (l0_4.length : Int) 0) = some r := by rw [if_pos rfl] at H; exact H
    clear H
    have H := H1
    clear H1
    have H' := Zs0.mk H
    clear H
    go_enter Tryd.func13, Tryd.ntmps13
    go_wp2_with (first | ((with_reducible refine gtD (N := 1) rfl ?_); refine box_event ?hg (N := 1) ?hd (cs := #[.slice A0_0 l0_0.length c0_0, .int .i64 a0_1, .int .i64 a0_2, .int .i64 a0_3, .slice A0_4 l0_4.length c0_4]) (t := 33) ?hr ?_; (case hd => rfl); (case hg => rfl); (case hr => first | (go_simp; done) | (go_simp; rfl)); intro gb101 hg w4 hbox hb; have n0_ := Zs0.mk (blT (by repeat (first | (with_reducible first | exact HB.out | apply blA | apply pbN | apply bl1) | exact HB.out)) hb); have n1_ := Zs0.mk (hbox); have n2_ := Zs0.mk ((by rw [hg]; exact (blZ (by repeat (first | (with_reducible first | exact HB.out | apply blA | apply pbN | apply bl1) | exact HB.out))) : w.heap.size ≤ gb101)); have n3_ := Zs0.mk ((by rw [hg]; exact (blZ (by repeat (first | (with_reducible first | exact HB.out | apply blA | apply pbN | apply bl1) | exact HB.out))) : w.heap.size ≤ gb101)); clear HB; have HB := n0_; have BK101 := n1_; have GW101 := n2_; have GE101 := n3_; clear n0_ n1_ n2_ n3_; clear hb hbox hg; obtain ⟨hcz5_0, hcz5_1, hcz5_2, hcz5_3, hcz5_4, hfz5_0, hfz5_1, hfz5_2, hfz5_3, hfz5_4⟩ := bx5 BK101.out) | ((with_reducible refine gtC (f := 26) rfl ?_); refine goesL_ (some 9) rfl rfl Tryd.func26 (by kernel_rfl) rfl #[.agg #[.slice A0_0 l0_0.length c0_0, .int .i64 a0_1, .int .i64 a0_2, .int .i64 a0_3, .slice A0_4 l0_4.length c0_4]] rfl (by (try simp only [List.map_toArray, List.map_cons, List.map_nil]); first | done | rfl | (simp only [List.length_drop, List.length_take]; rfl)) ?_; (with_reducible refine (impl_isGraph.calls k _ _ l0_0 a0_1 a0_2 a0_3 _ _ l0_4 true _ ?side1 ?side2 ?side3 ?side4 A2.out).mono ?_); (case side1 => repeat (first | exact (Kd.C_below HR0_0.out HB.out) | (with_reducible refine Kd.C_alloc ?_ _) | (with_reducible refine Kd.C_drewN ?_ _) | (with_reducible refine Kd.C_drew ?_))); (case side2 => exact HC0_0.out); (case side3 => repeat (first | exact (Kd.C_below HR0_4.out HB.out) | (with_reducible refine Kd.C_alloc ?_ _) | (with_reducible refine Kd.C_drewN ?_ _) | (with_reducible refine Kd.C_drew ?_))); (case side4 => exact HC0_4.out); rintro e w6 ⟨rfl, hb⟩; refine ⟨_, rfl, ?_⟩; have n0_ := Zs0.mk (blk_below (g := gb101) (o := .cells #[.slice A0_0 l0_0.length c0_0, .int .i64 a0_1, .int .i64 a0_2, .int .i64 a0_3, .slice A0_4 l0_4.length c0_4] 33 (0, 0)) (by (with_reducible repeat (first | refine bkN ?_ _ | refine bk1 ?_ | refine bkA ?_ _)); exact BK101.out) hb); have n1_ := Zs0.mk (blT (by repeat (first | (with_reducible first | exact HB.out | apply blA | apply pbN | apply bl1 | refine blS ?_ GE101.out) | exact HB.out)) hb); clear BK101; clear HB; have BK101 := n0_; have HB := n1_; clear n0_ n1_; (try clear hb); (try clear hb2); (try clear hk); (try clear hi); obtain ⟨hcz7_0, hcz7_1, hcz7_2, hcz7_3, hcz7_4, hfz7_0, hfz7_1, hfz7_2, hfz7_3, hfz7_4⟩ := bx5 BK101.out))
    go_loopg [3, 14] k (fun kq v3 v14 w' => ∃ (x3_1 : ByteArray) (x14_1 : Int), v3 = .string x3_1 ∧ v14 = .int .i64 x14_1 ∧ Zs0 (impl_ShowGraph.l0 kq x3_1 l0_4 (l0_4.length : Int) x14_1 = some r) ∧ Zs0 (kq ≤ k) ∧ Zs0 (w'.heap[gb101]? = some (.cells #[(.slice A0_0 l0_0.length c0_0), .int .i64 a0_1, .int .i64 a0_2, .int .i64 a0_3, (.slice A0_4 l0_4.length c0_4)] 33 (0, 0))) ∧ Zs0 (Below w.heap.size w w'))
    case atStart => exact ⟨((⟨#[]⟩ : ByteArray)), (0), (by first | rfl | (simp; done) | (simp [*]; done)), (by first | rfl | (simp; done) | (simp [*]; done)), H', ⟨Nat.le_refl _⟩, ⟨by (with_reducible repeat (first | refine bkN ?_ _ | refine bk1 ?_ | refine bkA ?_ _)); exact BK101.out⟩, ⟨by repeat (first | (with_reducible first | exact HB.out | apply blA | apply pbN | apply bl1 | refine blS ?_ GE101.out) | exact HB.out)⟩⟩
    case round =>
      clear H'
      try clear c1
      try clear c2
      try clear p2
      try clear c3
      try clear hcz5_0
      try clear hcz5_1
      try clear hcz5_2
      try clear hcz5_3
      try clear hcz5_4
      try clear hcz7_0
      try clear hcz7_1
      try clear hcz7_2
      try clear hcz7_3
      try clear hcz7_4
      try clear hfz5_0
      try clear hfz5_1
      try clear hfz5_2
      try clear hfz5_3
      try clear hfz5_4
      try clear hfz7_0
      try clear hfz7_1
      try clear hfz7_2
      try clear hfz7_3
      try clear hfz7_4
      obtain ⟨x3_1, x14_1, rfl, rfl, HA, HK1, BK101, HB⟩ := hrel
      cases gk with
      | zero => exact absurd HA.out (by simp [impl_ShowGraph.l0])
      | succ k1 =>
        have H := HA.out
        clear HA
        simp only [impl_ShowGraph.l0] at H
        by_cases c8 : x14_1 < (l0_4.length : Int)
        · rw [if_pos c8] at H
          have c8b0 : decide (x14_1 < (l0_4.length : Int)) = true := decide_eq_true c8
          clear c8
          have c9 := ipos H
          rw [if_pos c9] at H
          have c9b0 := decide_eq_true c9
          clear c9
          have c10 := ipos H
          rw [if_pos c10] at H
          have c10b0 := decide_eq_true c10
          clear c10
          replace H := Option.bind_eq_some_iff.mp H
          obtain ⟨t105, A110, H⟩ := H
          replace H : (if 1 + t105.size ≤ 9223372036854775807 then (if ((⟨#[98]⟩ : ByteArray) ++ t105).size + 2 ≤ 9223372036854775807 then (if x3_1.size + (((⟨#[98]⟩ : ByteArray) ++ t105) ++ (⟨#[58, 10]⟩ : ByteArray)).size ≤ 9223372036854775807 then (impl_ShowGraph.l1 k1 (x3_1 ++ (((⟨#[98]⟩ : ByteArray) ++ t105) ++ (⟨#[58, 10]⟩ : ByteArray))) l0_4 (l0_4.length : Int) x14_1 ((rd_T52 l0_4 x14_1).f0) (((rd_T52 l0_4 x14_1).f0).length : Int) 0 ((rd_T52 l0_4 x14_1).f0) ((rd_T52 l0_4 x14_1).f1) ((rd_T52 l0_4 x14_1).f2) ((rd_T52 l0_4 x14_1).f3) ((rd_T52 l0_4 x14_1).f4)) else (none)) else (none)) else (none)) = some r := H
          have A11 := Zs0.mk A110
          clear A110
          have c12 := ipos H
          rw [if_pos c12] at H
          have c12b0 := eq_true c12
          have c12b1 := decide_eq_true c12
          try have c12b2 := eq_false (Nat.not_lt.2 c12)
          have c13 := ipos H
          rw [if_pos c13] at H
          have c13b0 := eq_true c13
          have c13b1 := decide_eq_true c13
          try have c13b2 := eq_false (Nat.not_lt.2 c13)
          have c13n0 : 1 + t105.size + 2 ≤ 9223372036854775807 := by have h_ := c13; simp only [ByteArray.size_append] at h_; exact h_
          have c13n1 := eq_true c13n0
          have c13n2 := eq_false (Nat.not_lt.2 c13n0)
          have c14 := ipos H
          rw [if_pos c14] at H
          have c14b0 := eq_true c14
          have c14b1 := decide_eq_true c14
          try have c14b2 := eq_false (Nat.not_lt.2 c14)
          have c14n0 : x3_1.size + (1 + t105.size + 2) ≤ 9223372036854775807 := by have h_ := c14; simp only [ByteArray.size_append] at h_; exact h_
          have c14n1 := eq_true c14n0
          have c14n2 := eq_false (Nat.not_lt.2 c14n0)
          have H' := Zs0.mk H
          clear H
          have p103 : 0 ≤ (x14_1 : Int) := of_decide_eq_true (by first | (with_reducible assumption) | assumption)
          have q103 : x14_1 < (l0_4.length : Int) := of_decide_eq_true (by first | (with_reducible assumption) | assumption)
          obtain ⟨ad103, A103_0, c103_0, e103, hx103_0, hx103_1, hx103_2, hx103_3, hx103_4, hl103_0, hi103_0⟩ := at_T52 HR0_4.out x14_1 p103 q103
          cases e103
          replace hx103_0 := (HB.out.cell (World.block_lt_of_cell? w _ hx103_0)).trans hx103_0
          replace hx103_1 := (HB.out.cell (World.block_lt_of_cell? w _ hx103_1)).trans hx103_1
          replace hx103_2 := (HB.out.cell (World.block_lt_of_cell? w _ hx103_2)).trans hx103_2
          replace hx103_3 := (HB.out.cell (World.block_lt_of_cell? w _ hx103_3)).trans hx103_3
          replace hx103_4 := (HB.out.cell (World.block_lt_of_cell? w _ hx103_4)).trans hx103_4
          have HR103_0 := Zs0.mk hi103_0
          have HC103_0 := Zs0.mk hl103_0
          clear hi103_0 hl103_0
          replace p103 := eq_true p103
          replace q103 := eq_true q103
          go_wp2_with (first | ((with_reducible refine gtD (N := 5) rfl ?_); refine box_event ?hg (N := 5) ?hd (cs := #[.slice none 0 0, .int .i64 0, .int .i64 0, .int .i64 0, .int .i64 0]) (t := 52) ?hr ?_; (case hd => rfl); (case hg => rfl); (case hr => first | (go_simp; done) | (go_simp; rfl)); intro gb104 hg w15 hbox hb; have n0_ := Zs0.mk (blk_below (g := gb101) (o := .cells #[.slice A0_0 l0_0.length c0_0, .int .i64 a0_1, .int .i64 a0_2, .int .i64 a0_3, .slice (some ad103) l0_4.length c0_4] 33 (0, 0)) (by (with_reducible repeat (first | refine bkN ?_ _ | refine bk1 ?_ | refine bkA ?_ _)); exact BK101.out) hb); have n1_ := Zs0.mk (blT (by repeat (first | (with_reducible first | exact HB.out | apply blA | apply pbN | apply bl1 | refine blS ?_ GE101.out) | exact HB.out)) hb); have n2_ := Zs0.mk (hbox); have n3_ := Zs0.mk ((by rw [hg]; exact (blZ (by repeat (first | (with_reducible first | exact HB.out | apply blA | apply pbN | apply bl1 | refine blS ?_ GE101.out) | exact HB.out))) : w.heap.size ≤ gb104)); have n4_ := Zs0.mk ((by rw [hg]; exact (blZ (by repeat (first | (with_reducible first | exact HB.out | apply blA | apply pbN | apply bl1 | refine blS ?_ GE101.out) | exact HB.out))) : w.heap.size ≤ gb104)); have n5_ := Zs0.mk ((by rw [hg]; exact Nat.ne_of_lt (blk_lt (g := gb101) (o := .cells #[.slice A0_0 l0_0.length c0_0, .int .i64 a0_1, .int .i64 a0_2, .int .i64 a0_3, .slice (some ad103) l0_4.length c0_4] 33 (0, 0)) (by (with_reducible repeat (first | refine bkN ?_ _ | refine bk1 ?_ | refine bkA ?_ _)); exact BK101.out)) : gb101 ≠ gb104)); have n6_ := Zs0.mk ((by rw [hg]; exact Nat.ne_of_gt (blk_lt (g := gb101) (o := .cells #[.slice A0_0 l0_0.length c0_0, .int .i64 a0_1, .int .i64 a0_2, .int .i64 a0_3, .slice (some ad103) l0_4.length c0_4] 33 (0, 0)) (by (with_reducible repeat (first | refine bkN ?_ _ | refine bk1 ?_ | refine bkA ?_ _)); exact BK101.out)) : gb104 ≠ gb101)); clear BK101; clear HB; have BK101 := n0_; have HB := n1_; have BK104 := n2_; have GW104 := n3_; have GE104 := n4_; have NB101_104 := n5_; have NB104_101 := n6_; clear n0_ n1_ n2_ n3_ n4_ n5_ n6_; clear hb hbox hg; have hnb16 := NB104_101.out; have hnc16 := NB101_104.out; obtain ⟨hcz17_0, hcz17_1, hcz17_2, hcz17_3, hcz17_4, hfz17_0, hfz17_1, hfz17_2, hfz17_3, hfz17_4⟩ := bx5 BK104.out) | ((with_reducible refine gtC (f := 27) rfl ?_); refine goesL_ (some 21) rfl rfl Tryd.func27 (by kernel_rfl) rfl #[.int .i64 x14_1] rfl (by (try simp only [List.map_toArray, List.map_cons, List.map_nil]); first | done | rfl | (simp only [List.length_drop, List.length_take]; rfl)) ?_; (with_reducible refine (strconv_Itoa_27.calls x14_1 t105 _ A11.out (tabB HT.out (by repeat (first | (with_reducible first | exact HB.out | apply blA | apply pbN | apply bl1 | refine blS ?_ GE101.out | refine blS ?_ GE104.out) | exact HB.out)))).mono ?_); rintro e w18 ⟨rfl, hb⟩; refine ⟨_, rfl, ?_⟩; have n0_ := Zs0.mk (blk_below (g := gb101) (o := .cells #[.slice A0_0 l0_0.length c0_0, .int .i64 a0_1, .int .i64 a0_2, .int .i64 a0_3, .slice (some ad103) l0_4.length c0_4] 33 (0, 0)) (by (with_reducible repeat (first | refine bkN ?_ _ | refine bk1 ?_ | refine bkA ?_ _)); refine blk_far ?_ NB101_104.out _; (with_reducible repeat (first | refine bkN ?_ _ | refine bk1 ?_ | refine bkA ?_ _)); refine blk_far ?_ NB101_104.out _; (with_reducible repeat (first | refine bkN ?_ _ | refine bk1 ?_ | refine bkA ?_ _)); refine blk_far ?_ NB101_104.out _; (with_reducible repeat (first | refine bkN ?_ _ | refine bk1 ?_ | refine bkA ?_ _)); refine blk_far ?_ NB101_104.out _; (with_reducible repeat (first | refine bkN ?_ _ | refine bk1 ?_ | refine bkA ?_ _)); refine blk_far ?_ NB101_104.out _; (with_reducible repeat (first | refine bkN ?_ _ | refine bk1 ?_ | refine bkA ?_ _)); exact BK101.out) hb); have n1_ := Zs0.mk (blk_below (g := gb104) (o := .cells #[.slice A103_0 ((rd_T52 l0_4 x14_1).f0).length c103_0, .int .i64 ((rd_T52 l0_4 x14_1).f1), .int .i64 ((rd_T52 l0_4 x14_1).f2), .int .i64 ((rd_T52 l0_4 x14_1).f3), .int .i64 ((rd_T52 l0_4 x14_1).f4)] 52 (0, 0)) (by (with_reducible repeat (first | refine bkN ?_ _ | refine bk1 ?_ | refine bkA ?_ _)); refine blk_put (cs := #[.slice A103_0 ((rd_T52 l0_4 x14_1).f0).length c103_0, .int .i64 ((rd_T52 l0_4 x14_1).f1), .int .i64 ((rd_T52 l0_4 x14_1).f2), .int .i64 ((rd_T52 l0_4 x14_1).f3), .int .i64 0]) ?_ 4 _ rfl; (with_reducible repeat (first | refine bkN ?_ _ | refine bk1 ?_ | refine bkA ?_ _)); refine blk_put (cs := #[.slice A103_0 ((rd_T52 l0_4 x14_1).f0).length c103_0, .int .i64 ((rd_T52 l0_4 x14_1).f1), .int .i64 ((rd_T52 l0_4 x14_1).f2), .int .i64 0, .int .i64 0]) ?_ 3 _ rfl; (with_reducible repeat (first | refine bkN ?_ _ | refine bk1 ?_ | refine bkA ?_ _)); refine blk_put (cs := #[.slice A103_0 ((rd_T52 l0_4 x14_1).f0).length c103_0, .int .i64 ((rd_T52 l0_4 x14_1).f1), .int .i64 0, .int .i64 0, .int .i64 0]) ?_ 2 _ rfl; (with_reducible repeat (first | refine bkN ?_ _ | refine bk1 ?_ | refine bkA ?_ _)); refine blk_put (cs := #[.slice A103_0 ((rd_T52 l0_4 x14_1).f0).length c103_0, .int .i64 0, .int .i64 0, .int .i64 0, .int .i64 0]) ?_ 1 _ rfl; (with_reducible repeat (first | refine bkN ?_ _ | refine bk1 ?_ | refine bkA ?_ _)); refine blk_put (cs := #[.slice none 0 0, .int .i64 0, .int .i64 0, .int .i64 0, .int .i64 0]) ?_ 0 _ rfl; (with_reducible repeat (first | refine bkN ?_ _ | refine bk1 ?_ | refine bkA ?_ _)); exact BK104.out) hb); have n2_ := Zs0.mk (blT (by repeat (first | (with_reducible first | exact HB.out | apply blA | apply pbN | apply bl1 | refine blS ?_ GE101.out | refine blS ?_ GE104.out) | exact HB.out)) hb); clear BK101; clear BK104; clear HB; have BK101 := n0_; have BK104 := n1_; have HB := n2_; clear n0_ n1_ n2_; (try clear hb); (try clear hb2); (try clear hk); (try clear hi); obtain ⟨hcz19_0, hcz19_1, hcz19_2, hcz19_3, hcz19_4, hfz19_0, hfz19_1, hfz19_2, hfz19_3, hfz19_4⟩ := bx5 BK104.out))
          go_loopg [3, 28] k1 (fun kq v3 v28 w' => ∃ (x3_2 : ByteArray) (x28_2 : Int), v3 = .string x3_2 ∧ v28 = .int .i64 x28_2 ∧ Zs0 (impl_ShowGraph.l1 kq x3_2 l0_4 (l0_4.length : Int) x14_1 ((rd_T52 l0_4 x14_1).f0) (((rd_T52 l0_4 x14_1).f0).length : Int) x28_2 ((rd_T52 l0_4 x14_1).f0) ((rd_T52 l0_4 x14_1).f1) ((rd_T52 l0_4 x14_1).f2) ((rd_T52 l0_4 x14_1).f3) ((rd_T52 l0_4 x14_1).f4) = some r) ∧ Zs0 (kq ≤ k1) ∧ Zs0 (w'.heap[gb101]? = some (.cells #[(.slice A0_0 l0_0.length c0_0), .int .i64 a0_1, .int .i64 a0_2, .int .i64 a0_3, (.slice (some ad103) l0_4.length c0_4)] 33 (0, 0))) ∧ Zs0 (w'.heap[gb104]? = some (.cells #[(.slice A103_0 ((rd_T52 l0_4 x14_1).f0).length c103_0), .int .i64 ((rd_T52 l0_4 x14_1).f1), .int .i64 ((rd_T52 l0_4 x14_1).f2), .int .i64 ((rd_T52 l0_4 x14_1).f3), .int .i64 ((rd_T52 l0_4 x14_1).f4)] 52 (0, 0))) ∧ Zs0 (Below w.heap.size w w'))
          case atStart => exact ⟨(x3_1 ++ (((⟨#[98]⟩ : ByteArray) ++ t105) ++ (⟨#[58, 10]⟩ : ByteArray))), (0), (by first | rfl | (simp; done) | (simp [*]; done)), (by first | rfl | (simp; done) | (simp [*]; done)), H', ⟨Nat.le_refl _⟩, ⟨by (with_reducible repeat (first | refine bkN ?_ _ | refine bk1 ?_ | refine bkA ?_ _)); exact BK101.out⟩, ⟨by (with_reducible repeat (first | refine bkN ?_ _ | refine bk1 ?_ | refine bkA ?_ _)); exact BK104.out⟩, ⟨by repeat (first | (with_reducible first | exact HB.out | apply blA | apply pbN | apply bl1 | refine blS ?_ GE101.out | refine blS ?_ GE104.out) | exact HB.out)⟩⟩
          case round =>
            clear H'
            try clear c1
            try clear p1
            try clear q1
            try clear hx1
            try clear c2
            try clear p2
            try clear c3
            try clear c8
            try clear c8b0
            try clear c9
            try clear c9b0
            try clear c10
            try clear c10b0
            try clear p10
            try clear q10
            try clear hx10
            try clear c12
            try clear c12b0
            try clear c12b1
            try clear c12b2
            try clear c13
            try clear c13b0
            try clear c13b1
            try clear c13b2
            try clear c14
            try clear c14b0
            try clear c14b1
            try clear c14b2
            try clear c16
            try clear hcz17_0
            try clear hcz17_1
            try clear hcz17_2
            try clear hcz17_3
            try clear hcz17_4
            try clear hcz19_0
            try clear hcz19_1
            try clear hcz19_2
            try clear hcz19_3
            try clear hcz19_4
            try clear hcz5_0
            try clear hcz5_1
            try clear hcz5_2
            try clear hcz5_3
            try clear hcz5_4
            try clear hcz7_0
            try clear hcz7_1
            try clear hcz7_2
            try clear hcz7_3
            try clear hcz7_4
            try clear hfz17_0
            try clear hfz17_1
            try clear hfz17_2
            try clear hfz17_3
            try clear hfz17_4
            try clear hfz19_0
            try clear hfz19_1
            try clear hfz19_2
            try clear hfz19_3
            try clear hfz19_4
            try clear hfz5_0
            try clear hfz5_1
            try clear hfz5_2
            try clear hfz5_3
            try clear hfz5_4
            try clear hfz7_0
            try clear hfz7_1
            try clear hfz7_2
            try clear hfz7_3
            try clear hfz7_4
            try clear hx103_0
            try clear hx103_1
            try clear hx103_2
            try clear hx103_3
            try clear hx103_4
            try clear p103
            try clear p2
            try clear q103
            obtain ⟨x3_2, x28_2, rfl, rfl, HA, HK2, BK101, BK104, HB⟩ := hrel
            cases gk with
            | zero => exact absurd HA.out (by simp [impl_ShowGraph.l1])
            | succ k2 =>
              have H := HA.out
              clear HA
              simp only [impl_ShowGraph.l1] at H
              by_cases c20 : x28_2 < (((rd_T52 l0_4 x14_1).f0).length : Int)
              · rw [if_pos c20] at H
                have c20b0 : decide (x28_2 < (((rd_T52 l0_4 x14_1).f0).length : Int)) = true := decide_eq_true c20
                clear c20
                have c21 := ipos H
                rw [if_pos c21] at H
                have c21b0 := decide_eq_true c21
                clear c21
                have c22 := ipos H
                rw [if_pos c22] at H
                have c22b0 := decide_eq_true c22
                clear c22
                replace H := Option.bind_eq_some_iff.mp H
                obtain ⟨t108, A230, H⟩ := H
                replace H : (if t108.size + 1 ≤ 9223372036854775807 then (if x3_2.size + (t108 ++ (⟨#[10]⟩ : ByteArray)).size ≤ 9223372036854775807 then (impl_ShowGraph.l1 k2 (x3_2 ++ (t108 ++ (⟨#[10]⟩ : ByteArray))) l0_4 (l0_4.length : Int) x14_1 ((rd_T52 l0_4 x14_1).f0) (((rd_T52 l0_4 x14_1).f0).length : Int) (wrap64 (x28_2 + 1)) ((rd_T52 l0_4 x14_1).f0) ((rd_T52 l0_4 x14_1).f1) ((rd_T52 l0_4 x14_1).f2) ((rd_T52 l0_4 x14_1).f3) ((rd_T52 l0_4 x14_1).f4)) else (none)) else (none)) = some r := H
                have A23 := Zs0.mk A230
                clear A230
                have c24 := ipos H
                rw [if_pos c24] at H
                have c24b0 := eq_true c24
                have c24b1 := decide_eq_true c24
                try have c24b2 := eq_false (Nat.not_lt.2 c24)
                have c25 := ipos H
                rw [if_pos c25] at H
                have c25b0 := eq_true c25
                have c25b1 := decide_eq_true c25
                try have c25b2 := eq_false (Nat.not_lt.2 c25)
                have c25n0 : x3_2.size + (t108.size + 1) ≤ 9223372036854775807 := by have h_ := c25; simp only [ByteArray.size_append] at h_; exact h_
                have c25n1 := eq_true c25n0
                have c25n2 := eq_false (Nat.not_lt.2 c25n0)
                have H' := Zs0.mk H
                clear H
                have p106 : 0 ≤ (x28_2 : Int) := of_decide_eq_true (by first | (with_reducible assumption) | assumption)
                have q106 : x28_2 < (((rd_T52 l0_4 x14_1).f0).length : Int) := of_decide_eq_true (by first | (with_reducible assumption) | assumption)
                obtain ⟨ad106, e106, hx106_0, hx106_1, hx106_2, hx106_3, hx106_4, hx106_5, hx106_6⟩ := at_T35 HR103_0.out x28_2 p106 q106
                cases e106
                replace hx106_0 := (HB.out.cell (World.block_lt_of_cell? w _ hx106_0)).trans hx106_0
                replace hx106_1 := (HB.out.cell (World.block_lt_of_cell? w _ hx106_1)).trans hx106_1
                replace hx106_2 := (HB.out.cell (World.block_lt_of_cell? w _ hx106_2)).trans hx106_2
                replace hx106_3 := (HB.out.cell (World.block_lt_of_cell? w _ hx106_3)).trans hx106_3
                replace hx106_4 := (HB.out.cell (World.block_lt_of_cell? w _ hx106_4)).trans hx106_4
                replace hx106_5 := (HB.out.cell (World.block_lt_of_cell? w _ hx106_5)).trans hx106_5
                replace hx106_6 := (HB.out.cell (World.block_lt_of_cell? w _ hx106_6)).trans hx106_6
                replace p106 := eq_true p106
                replace q106 := eq_true q106
                go_wp2_with (first | ((with_reducible refine gtD (N := 7) rfl ?_); refine box_event ?hg (N := 7) ?hd (cs := #[.int .i64 0, .int .i64 0, .int .i64 0, .int .i64 0, .int .i64 0, .int .i64 0, .string (⟨#[]⟩ : ByteArray)]) (t := 35) ?hr ?_; (case hd => rfl); (case hg => rfl); (case hr => first | (go_simp; done) | (go_simp; rfl)); intro gb107 hg w26 hbox hb; have n0_ := Zs0.mk (blk_below (g := gb101) (o := .cells #[.slice A0_0 l0_0.length c0_0, .int .i64 a0_1, .int .i64 a0_2, .int .i64 a0_3, .slice (some ad103) l0_4.length c0_4] 33 (0, 0)) (by (with_reducible repeat (first | refine bkN ?_ _ | refine bk1 ?_ | refine bkA ?_ _)); exact BK101.out) hb); have n1_ := Zs0.mk (blk_below (g := gb104) (o := .cells #[.slice (some ad106) ((rd_T52 l0_4 x14_1).f0).length c103_0, .int .i64 ((rd_T52 l0_4 x14_1).f1), .int .i64 ((rd_T52 l0_4 x14_1).f2), .int .i64 ((rd_T52 l0_4 x14_1).f3), .int .i64 ((rd_T52 l0_4 x14_1).f4)] 52 (0, 0)) (by (with_reducible repeat (first | refine bkN ?_ _ | refine bk1 ?_ | refine bkA ?_ _)); exact BK104.out) hb); have n2_ := Zs0.mk (blT (by repeat (first | (with_reducible first | exact HB.out | apply blA | apply pbN | apply bl1 | refine blS ?_ GE101.out | refine blS ?_ GE104.out) | exact HB.out)) hb); have n3_ := Zs0.mk (hbox); have n4_ := Zs0.mk ((by rw [hg]; exact (blZ (by repeat (first | (with_reducible first | exact HB.out | apply blA | apply pbN | apply bl1 | refine blS ?_ GE101.out | refine blS ?_ GE104.out) | exact HB.out))) : w.heap.size ≤ gb107)); have n5_ := Zs0.mk ((by rw [hg]; exact (blZ (by repeat (first | (with_reducible first | exact HB.out | apply blA | apply pbN | apply bl1 | refine blS ?_ GE101.out | refine blS ?_ GE104.out) | exact HB.out))) : w.heap.size ≤ gb107)); have n6_ := Zs0.mk ((by rw [hg]; exact Nat.ne_of_lt (blk_lt (g := gb101) (o := .cells #[.slice A0_0 l0_0.length c0_0, .int .i64 a0_1, .int .i64 a0_2, .int .i64 a0_3, .slice (some ad103) l0_4.length c0_4] 33 (0, 0)) (by (with_reducible repeat (first | refine bkN ?_ _ | refine bk1 ?_ | refine bkA ?_ _)); exact BK101.out)) : gb101 ≠ gb107)); have n7_ := Zs0.mk ((by rw [hg]; exact Nat.ne_of_gt (blk_lt (g := gb101) (o := .cells #[.slice A0_0 l0_0.length c0_0, .int .i64 a0_1, .int .i64 a0_2, .int .i64 a0_3, .slice (some ad103) l0_4.length c0_4] 33 (0, 0)) (by (with_reducible repeat (first | refine bkN ?_ _ | refine bk1 ?_ | refine bkA ?_ _)); exact BK101.out)) : gb107 ≠ gb101)); have n8_ := Zs0.mk ((by rw [hg]; exact Nat.ne_of_lt (blk_lt (g := gb104) (o := .cells #[.slice (some ad106) ((rd_T52 l0_4 x14_1).f0).length c103_0, .int .i64 ((rd_T52 l0_4 x14_1).f1), .int .i64 ((rd_T52 l0_4 x14_1).f2), .int .i64 ((rd_T52 l0_4 x14_1).f3), .int .i64 ((rd_T52 l0_4 x14_1).f4)] 52 (0, 0)) (by (with_reducible repeat (first | refine bkN ?_ _ | refine bk1 ?_ | refine bkA ?_ _)); exact BK104.out)) : gb104 ≠ gb107)); have n9_ := Zs0.mk ((by rw [hg]; exact Nat.ne_of_gt (blk_lt (g := gb104) (o := .cells #[.slice (some ad106) ((rd_T52 l0_4 x14_1).f0).length c103_0, .int .i64 ((rd_T52 l0_4 x14_1).f1), .int .i64 ((rd_T52 l0_4 x14_1).f2), .int .i64 ((rd_T52 l0_4 x14_1).f3), .int .i64 ((rd_T52 l0_4 x14_1).f4)] 52 (0, 0)) (by (with_reducible repeat (first | refine bkN ?_ _ | refine bk1 ?_ | refine bkA ?_ _)); exact BK104.out)) : gb107 ≠ gb104)); clear BK101; clear BK104; clear HB; have BK101 := n0_; have BK104 := n1_; have HB := n2_; have BK107 := n3_; have GW107 := n4_; have GE107 := n5_; have NB101_107 := n6_; have NB107_101 := n7_; have NB104_107 := n8_; have NB107_104 := n9_; clear n0_ n1_ n2_ n3_ n4_ n5_ n6_ n7_ n8_ n9_; clear hb hbox hg; have hnb27 := NB107_101.out; have hnc27 := NB101_107.out; have hnb28 := NB107_104.out; have hnc28 := NB104_107.out; obtain ⟨hcz29_0, hcz29_1, hcz29_2, hcz29_3, hcz29_4, hcz29_5, hcz29_6, hfz29_0, hfz29_1, hfz29_2, hfz29_3, hfz29_4, hfz29_5, hfz29_6⟩ := bx7 BK107.out) | ((with_reducible refine gtC (f := 21) rfl ?_); refine goesL_ (some 34) rfl rfl Tryd.func21 (by kernel_rfl) rfl #[.agg #[.int .i64 ((rd_T35 ((rd_T52 l0_4 x14_1).f0) x28_2).f0), .int .i64 ((rd_T35 ((rd_T52 l0_4 x14_1).f0) x28_2).f1), .int .i64 ((rd_T35 ((rd_T52 l0_4 x14_1).f0) x28_2).f2), .int .i64 ((rd_T35 ((rd_T52 l0_4 x14_1).f0) x28_2).f3), .int .i64 ((rd_T35 ((rd_T52 l0_4 x14_1).f0) x28_2).f4), .int .i64 ((rd_T35 ((rd_T52 l0_4 x14_1).f0) x28_2).f5), .string ((rd_T35 ((rd_T52 l0_4 x14_1).f0) x28_2).f6)]] rfl (by (try simp only [List.map_toArray, List.map_cons, List.map_nil]); first | done | rfl | (simp only [List.length_drop, List.length_take]; rfl)) ?_; (with_reducible refine (impl_showInstr.calls k2 ((rd_T35 ((rd_T52 l0_4 x14_1).f0) x28_2).f0) ((rd_T35 ((rd_T52 l0_4 x14_1).f0) x28_2).f1) ((rd_T35 ((rd_T52 l0_4 x14_1).f0) x28_2).f2) ((rd_T35 ((rd_T52 l0_4 x14_1).f0) x28_2).f3) ((rd_T35 ((rd_T52 l0_4 x14_1).f0) x28_2).f4) ((rd_T35 ((rd_T52 l0_4 x14_1).f0) x28_2).f5) ((rd_T35 ((rd_T52 l0_4 x14_1).f0) x28_2).f6) t108 _ A23.out (tabB HT.out (by repeat (first | (with_reducible first | exact HB.out | apply blA | apply pbN | apply bl1 | refine blS ?_ GE101.out | refine blS ?_ GE104.out | refine blS ?_ GE107.out) | exact HB.out)))).mono ?_); rintro e w30 ⟨rfl, hb⟩; refine ⟨_, rfl, ?_⟩; have n0_ := Zs0.mk (blk_below (g := gb101) (o := .cells #[.slice A0_0 l0_0.length c0_0, .int .i64 a0_1, .int .i64 a0_2, .int .i64 a0_3, .slice (some ad103) l0_4.length c0_4] 33 (0, 0)) (by (with_reducible repeat (first | refine bkN ?_ _ | refine bk1 ?_ | refine bkA ?_ _)); refine blk_far ?_ NB101_107.out _; (with_reducible repeat (first | refine bkN ?_ _ | refine bk1 ?_ | refine bkA ?_ _)); refine blk_far ?_ NB101_107.out _; (with_reducible repeat (first | refine bkN ?_ _ | refine bk1 ?_ | refine bkA ?_ _)); refine blk_far ?_ NB101_107.out _; (with_reducible repeat (first | refine bkN ?_ _ | refine bk1 ?_ | refine bkA ?_ _)); refine blk_far ?_ NB101_107.out _; (with_reducible repeat (first | refine bkN ?_ _ | refine bk1 ?_ | refine bkA ?_ _)); refine blk_far ?_ NB101_107.out _; (with_reducible repeat (first | refine bkN ?_ _ | refine bk1 ?_ | refine bkA ?_ _)); refine blk_far ?_ NB101_107.out _; (with_reducible repeat (first | refine bkN ?_ _ | refine bk1 ?_ | refine bkA ?_ _)); refine blk_far ?_ NB101_107.out _; (with_reducible repeat (first | refine bkN ?_ _ | refine bk1 ?_ | refine bkA ?_ _)); exact BK101.out) hb); have n1_ := Zs0.mk (blk_below (g := gb104) (o := .cells #[.slice (some ad106) ((rd_T52 l0_4 x14_1).f0).length c103_0, .int .i64 ((rd_T52 l0_4 x14_1).f1), .int .i64 ((rd_T52 l0_4 x14_1).f2), .int .i64 ((rd_T52 l0_4 x14_1).f3), .int .i64 ((rd_T52 l0_4 x14_1).f4)] 52 (0, 0)) (by (with_reducible repeat (first | refine bkN ?_ _ | refine bk1 ?_ | refine bkA ?_ _)); refine blk_far ?_ NB104_107.out _; (with_reducible repeat (first | refine bkN ?_ _ | refine bk1 ?_ | refine bkA ?_ _)); refine blk_far ?_ NB104_107.out _; (with_reducible repeat (first | refine bkN ?_ _ | refine bk1 ?_ | refine bkA ?_ _)); refine blk_far ?_ NB104_107.out _; (with_reducible repeat (first | refine bkN ?_ _ | refine bk1 ?_ | refine bkA ?_ _)); refine blk_far ?_ NB104_107.out _; (with_reducible repeat (first | refine bkN ?_ _ | refine bk1 ?_ | refine bkA ?_ _)); refine blk_far ?_ NB104_107.out _; (with_reducible repeat (first | refine bkN ?_ _ | refine bk1 ?_ | refine bkA ?_ _)); refine blk_far ?_ NB104_107.out _; (with_reducible repeat (first | refine bkN ?_ _ | refine bk1 ?_ | refine bkA ?_ _)); refine blk_far ?_ NB104_107.out _; (with_reducible repeat (first | refine bkN ?_ _ | refine bk1 ?_ | refine bkA ?_ _)); exact BK104.out) hb); have n2_ := Zs0.mk (blk_below (g := gb107) (o := .cells #[.int .i64 ((rd_T35 ((rd_T52 l0_4 x14_1).f0) x28_2).f0), .int .i64 ((rd_T35 ((rd_T52 l0_4 x14_1).f0) x28_2).f1), .int .i64 ((rd_T35 ((rd_T52 l0_4 x14_1).f0) x28_2).f2), .int .i64 ((rd_T35 ((rd_T52 l0_4 x14_1).f0) x28_2).f3), .int .i64 ((rd_T35 ((rd_T52 l0_4 x14_1).f0) x28_2).f4), .int .i64 ((rd_T35 ((rd_T52 l0_4 x14_1).f0) x28_2).f5), .string ((rd_T35 ((rd_T52 l0_4 x14_1).f0) x28_2).f6)] 35 (0, 0)) (by (with_reducible repeat (first | refine bkN ?_ _ | refine bk1 ?_ | refine bkA ?_ _)); refine blk_put (cs := #[.int .i64 ((rd_T35 ((rd_T52 l0_4 x14_1).f0) x28_2).f0), .int .i64 ((rd_T35 ((rd_T52 l0_4 x14_1).f0) x28_2).f1), .int .i64 ((rd_T35 ((rd_T52 l0_4 x14_1).f0) x28_2).f2), .int .i64 ((rd_T35 ((rd_T52 l0_4 x14_1).f0) x28_2).f3), .int .i64 ((rd_T35 ((rd_T52 l0_4 x14_1).f0) x28_2).f4), .int .i64 ((rd_T35 ((rd_T52 l0_4 x14_1).f0) x28_2).f5), .string (⟨#[]⟩ : ByteArray)]) ?_ 6 _ rfl; (with_reducible repeat (first | refine bkN ?_ _ | refine bk1 ?_ | refine bkA ?_ _)); refine blk_put (cs := #[.int .i64 ((rd_T35 ((rd_T52 l0_4 x14_1).f0) x28_2).f0), .int .i64 ((rd_T35 ((rd_T52 l0_4 x14_1).f0) x28_2).f1), .int .i64 ((rd_T35 ((rd_T52 l0_4 x14_1).f0) x28_2).f2), .int .i64 ((rd_T35 ((rd_T52 l0_4 x14_1).f0) x28_2).f3), .int .i64 ((rd_T35 ((rd_T52 l0_4 x14_1).f0) x28_2).f4), .int .i64 0, .string (⟨#[]⟩ : ByteArray)]) ?_ 5 _ rfl; (with_reducible repeat (first | refine bkN ?_ _ | refine bk1 ?_ | refine bkA ?_ _)); refine blk_put (cs := #[.int .i64 ((rd_T35 ((rd_T52 l0_4 x14_1).f0) x28_2).f0), .int .i64 ((rd_T35 ((rd_T52 l0_4 x14_1).f0) x28_2).f1), .int .i64 ((rd_T35 ((rd_T52 l0_4 x14_1).f0) x28_2).f2), .int .i64 ((rd_T35 ((rd_T52 l0_4 x14_1).f0) x28_2).f3), .int .i64 0, .int .i64 0, .string (⟨#[]⟩ : ByteArray)]) ?_ 4 _ rfl; (with_reducible repeat (first | refine bkN ?_ _ | refine bk1 ?_ | refine bkA ?_ _)); refine blk_put (cs := #[.int .i64 ((rd_T35 ((rd_T52 l0_4 x14_1).f0) x28_2).f0), .int .i64 ((rd_T35 ((rd_T52 l0_4 x14_1).f0) x28_2).f1), .int .i64 ((rd_T35 ((rd_T52 l0_4 x14_1).f0) x28_2).f2), .int .i64 0, .int .i64 0, .int .i64 0, .string (⟨#[]⟩ : ByteArray)]) ?_ 3 _ rfl; (with_reducible repeat (first | refine bkN ?_ _ | refine bk1 ?_ | refine bkA ?_ _)); refine blk_put (cs := #[.int .i64 ((rd_T35 ((rd_T52 l0_4 x14_1).f0) x28_2).f0), .int .i64 ((rd_T35 ((rd_T52 l0_4 x14_1).f0) x28_2).f1), .int .i64 0, .int .i64 0, .int .i64 0, .int .i64 0, .string (⟨#[]⟩ : ByteArray)]) ?_ 2 _ rfl; (with_reducible repeat (first | refine bkN ?_ _ | refine bk1 ?_ | refine bkA ?_ _)); refine blk_put (cs := #[.int .i64 ((rd_T35 ((rd_T52 l0_4 x14_1).f0) x28_2).f0), .int .i64 0, .int .i64 0, .int .i64 0, .int .i64 0, .int .i64 0, .string (⟨#[]⟩ : ByteArray)]) ?_ 1 _ rfl; (with_reducible repeat (first | refine bkN ?_ _ | refine bk1 ?_ | refine bkA ?_ _)); refine blk_put (cs := #[.int .i64 0, .int .i64 0, .int .i64 0, .int .i64 0, .int .i64 0, .int .i64 0, .string (⟨#[]⟩ : ByteArray)]) ?_ 0 _ rfl; (with_reducible repeat (first | refine bkN ?_ _ | refine bk1 ?_ | refine bkA ?_ _)); exact BK107.out) hb); have n3_ := Zs0.mk (blT (by repeat (first | (with_reducible first | exact HB.out | apply blA | apply pbN | apply bl1 | refine blS ?_ GE101.out | refine blS ?_ GE104.out | refine blS ?_ GE107.out) | exact HB.out)) hb); clear BK101; clear BK104; clear BK107; clear HB; have BK101 := n0_; have BK104 := n1_; have BK107 := n2_; have HB := n3_; clear n0_ n1_ n2_ n3_; (try clear hb); (try clear hb2); (try clear hk); (try clear hi)))
                go_roundg k2
                case measure => have := HK1.out; have := HK2.out; omega
                case rel => exact ⟨(x3_2 ++ (t108 ++ (⟨#[10]⟩ : ByteArray))), (wrap64 (x28_2 + 1)), (by first | rfl | (simp; done) | (simp [*]; done)), (by first | rfl | (simp; done) | (simp [*]; done)), H', ⟨by have := HK1.out; have := HK2.out; omega⟩, ⟨by (with_reducible repeat (first | refine bkN ?_ _ | refine bk1 ?_ | refine bkA ?_ _)); exact BK101.out⟩, ⟨by (with_reducible repeat (first | refine bkN ?_ _ | refine bk1 ?_ | refine bkA ?_ _)); exact BK104.out⟩, ⟨by repeat (first | (with_reducible first | exact HB.out | apply blA | apply pbN | apply bl1 | refine blS ?_ GE101.out | refine blS ?_ GE104.out | refine blS ?_ GE107.out) | exact HB.out)⟩⟩
              · rw [if_neg c20] at H
                have c20b0 : decide (x28_2 < (((rd_T52 l0_4 x14_1).f0).length : Int)) = false := decide_eq_false c20
                clear c20
                by_cases c31 : ((rd_T52 l0_4 x14_1).f1) = 0
                · rw [if_pos c31] at H
                  have c31b0 : (((rd_T52 l0_4 x14_1).f1) == 0) = true := beq_iff_eq.mpr c31
                  have c31b1 : (((rd_T52 l0_4 x14_1).f1) != 0) = false := bne_eq_false_iff_eq.mpr c31
                  clear c31
                  replace H := Option.bind_eq_some_iff.mp H
                  obtain ⟨t109, A320, H⟩ := H
                  replace H : (if 4 + t109.size ≤ 9223372036854775807 then (if ((⟨#[103, 111, 32, 98]⟩ : ByteArray) ++ t109).size + 1 ≤ 9223372036854775807 then (if x3_2.size + (((⟨#[103, 111, 32, 98]⟩ : ByteArray) ++ t109) ++ (⟨#[10]⟩ : ByteArray)).size ≤ 9223372036854775807 then (impl_ShowGraph.l0 k2 (x3_2 ++ (((⟨#[103, 111, 32, 98]⟩ : ByteArray) ++ t109) ++ (⟨#[10]⟩ : ByteArray))) l0_4 (l0_4.length : Int) (wrap64 (x14_1 + 1))) else (none)) else (none)) else (none)) = some r := H
                  have A32 := Zs0.mk A320
                  clear A320
                  have c33 := ipos H
                  rw [if_pos c33] at H
                  have c33b0 := eq_true c33
                  have c33b1 := decide_eq_true c33
                  try have c33b2 := eq_false (Nat.not_lt.2 c33)
                  have c34 := ipos H
                  rw [if_pos c34] at H
                  have c34b0 := eq_true c34
                  have c34b1 := decide_eq_true c34
                  try have c34b2 := eq_false (Nat.not_lt.2 c34)
                  have c34n0 : 4 + t109.size + 1 ≤ 9223372036854775807 := by have h_ := c34; simp only [ByteArray.size_append] at h_; exact h_
                  have c34n1 := eq_true c34n0
                  have c34n2 := eq_false (Nat.not_lt.2 c34n0)
                  have c35 := ipos H
                  rw [if_pos c35] at H
                  have c35b0 := eq_true c35
                  have c35b1 := decide_eq_true c35
                  try have c35b2 := eq_false (Nat.not_lt.2 c35)
                  have c35n0 : x3_2.size + (4 + t109.size + 1) ≤ 9223372036854775807 := by have h_ := c35; simp only [ByteArray.size_append] at h_; exact h_
                  have c35n1 := eq_true c35n0
                  have c35n2 := eq_false (Nat.not_lt.2 c35n0)
                  have H' := Zs0.mk H
                  clear H
                  have hnb36 := NB104_101.out
                  have hnc36 := NB101_104.out
                  obtain ⟨hcz37_0, hcz37_1, hcz37_2, hcz37_3, hcz37_4, hfz37_0, hfz37_1, hfz37_2, hfz37_3, hfz37_4⟩ := bx5 BK104.out
                  go_wp2_with (first | ((with_reducible refine gtC (f := 27) rfl ?_); refine goesL_ (some 52) rfl rfl Tryd.func27 (by kernel_rfl) rfl #[.int .i64 ((rd_T52 l0_4 x14_1).f3)] rfl (by (try simp only [List.map_toArray, List.map_cons, List.map_nil]); first | done | rfl | (simp only [List.length_drop, List.length_take]; rfl)) ?_; (with_reducible refine (strconv_Itoa_27.calls ((rd_T52 l0_4 x14_1).f3) t109 _ A32.out (tabB HT.out (by repeat (first | (with_reducible first | exact HB.out | apply blA | apply pbN | apply bl1 | refine blS ?_ GE101.out | refine blS ?_ GE104.out) | exact HB.out)))).mono ?_); rintro e w38 ⟨rfl, hb⟩; refine ⟨_, rfl, ?_⟩; have n0_ := Zs0.mk (blk_below (g := gb101) (o := .cells #[.slice A0_0 l0_0.length c0_0, .int .i64 a0_1, .int .i64 a0_2, .int .i64 a0_3, .slice (some ad103) l0_4.length c0_4] 33 (0, 0)) (by (with_reducible repeat (first | refine bkN ?_ _ | refine bk1 ?_ | refine bkA ?_ _)); exact BK101.out) hb); have n1_ := Zs0.mk (blk_below (g := gb104) (o := .cells #[.slice A103_0 ((rd_T52 l0_4 x14_1).f0).length c103_0, .int .i64 ((rd_T52 l0_4 x14_1).f1), .int .i64 ((rd_T52 l0_4 x14_1).f2), .int .i64 ((rd_T52 l0_4 x14_1).f3), .int .i64 ((rd_T52 l0_4 x14_1).f4)] 52 (0, 0)) (by (with_reducible repeat (first | refine bkN ?_ _ | refine bk1 ?_ | refine bkA ?_ _)); exact BK104.out) hb); have n2_ := Zs0.mk (blT (by repeat (first | (with_reducible first | exact HB.out | apply blA | apply pbN | apply bl1 | refine blS ?_ GE101.out | refine blS ?_ GE104.out) | exact HB.out)) hb); clear BK101; clear BK104; clear HB; have BK101 := n0_; have BK104 := n1_; have HB := n2_; clear n0_ n1_ n2_; (try clear hb); (try clear hb2); (try clear hk); (try clear hi)))
                  go_roundg k2
                  case measure => have := HK1.out; have := HK2.out; omega
                  case rel => exact ⟨(x3_2 ++ (((⟨#[103, 111, 32, 98]⟩ : ByteArray) ++ t109) ++ (⟨#[10]⟩ : ByteArray))), (wrap64 (x14_1 + 1)), (by first | rfl | (simp; done) | (simp [*]; done)), (by first | rfl | (simp; done) | (simp [*]; done)), H', ⟨by have := HK1.out; have := HK2.out; omega⟩, ⟨by (with_reducible repeat (first | refine bkN ?_ _ | refine bk1 ?_ | refine bkA ?_ _)); exact BK101.out⟩, ⟨by repeat (first | (with_reducible first | exact HB.out | apply blA | apply pbN | apply bl1 | refine blS ?_ GE101.out | refine blS ?_ GE104.out) | exact HB.out)⟩⟩
                · rw [if_neg c31] at H
                  have c31b0 : (((rd_T52 l0_4 x14_1).f1) == 0) = false := beq_eq_false_iff_ne.mpr c31
                  have c31b1 : (((rd_T52 l0_4 x14_1).f1) != 0) = true := bne_iff_ne.mpr c31
                  by_cases c39 : ((rd_T52 l0_4 x14_1).f1) = 1
                  · rw [if_pos c39] at H
                    have c39b0 : (((rd_T52 l0_4 x14_1).f1) == 1) = true := beq_iff_eq.mpr c39
                    have c39b1 : (((rd_T52 l0_4 x14_1).f1) != 1) = false := bne_eq_false_iff_eq.mpr c39
                    clear c39
                    replace H := Option.bind_eq_some_iff.mp H
                    obtain ⟨t110, A400, H⟩ := H
                    replace H : (if 3 + t110.size ≤ 9223372036854775807 then (if ((⟨#[105, 102, 32]⟩ : ByteArray) ++ t110).size + 2 ≤ 9223372036854775807 then ((strconv_Itoa_27.f ((rd_T52 l0_4 x14_1).f3)).bind fun t111 => (if (((⟨#[105, 102, 32]⟩ : ByteArray) ++ t110) ++ (⟨#[32, 98]⟩ : ByteArray)).size + t111.size ≤ 9223372036854775807 then (if ((((⟨#[105, 102, 32]⟩ : ByteArray) ++ t110) ++ (⟨#[32, 98]⟩ : ByteArray)) ++ t111).size + 2 ≤ 9223372036854775807 then ((strconv_Itoa_27.f ((rd_T52 l0_4 x14_1).f4)).bind fun t112 => (if (((((⟨#[105, 102, 32]⟩ : ByteArray) ++ t110) ++ (⟨#[32, 98]⟩ : ByteArray)) ++ t111) ++ (⟨#[32, 98]⟩ : ByteArray)).size + t112.size ≤ 9223372036854775807 then (if ((((((⟨#[105, 102, 32]⟩ : ByteArray) ++ t110) ++ (⟨#[32, 98]⟩ : ByteArray)) ++ t111) ++ (⟨#[32, 98]⟩ : ByteArray)) ++ t112).size + 1 ≤ 9223372036854775807 then (if x3_2.size + (((((((⟨#[105, 102, 32]⟩ : ByteArray) ++ t110) ++ (⟨#[32, 98]⟩ : ByteArray)) ++ t111) ++ (⟨#[32, 98]⟩ : ByteArray)) ++ t112) ++ (⟨#[10]⟩ : ByteArray)).size ≤ 9223372036854775807 then (impl_ShowGraph.l0 k2 (x3_2 ++ (((((((⟨#[105, 102, 32]⟩ : ByteArray) ++ t110) ++ (⟨#[32, 98]⟩ : ByteArray)) ++ t111) ++ (⟨#[32, 98]⟩ : ByteArray)) ++ t112) ++ (⟨#[10]⟩ : ByteArray))) l0_4 (l0_4.length : Int) (wrap64 (x14_1 + 1))) else (none)) else (none)) else (none))) else (none)) else (none))) else (none)) else (none)) = some r := H
                    have A40 := Zs0.mk A400
                    clear A400
                    have c41 := ipos H
                    rw [if_pos c41] at H
                    have c41b0 := eq_true c41
                    have c41b1 := decide_eq_true c41
                    try have c41b2 := eq_false (Nat.not_lt.2 c41)
                    have c42 := ipos H
                    rw [if_pos c42] at H
                    have c42b0 := eq_true c42
                    have c42b1 := decide_eq_true c42
                    try have c42b2 := eq_false (Nat.not_lt.2 c42)
                    have c42n0 : 3 + t110.size + 2 ≤ 9223372036854775807 := by have h_ := c42; simp only [ByteArray.size_append] at h_; exact h_
                    have c42n1 := eq_true c42n0
                    have c42n2 := eq_false (Nat.not_lt.2 c42n0)
                    replace H := Option.bind_eq_some_iff.mp H
                    obtain ⟨t111, A430, H⟩ := H
                    replace H : (if (((⟨#[105, 102, 32]⟩ : ByteArray) ++ t110) ++ (⟨#[32, 98]⟩ : ByteArray)).size + t111.size ≤ 9223372036854775807 then (if ((((⟨#[105, 102, 32]⟩ : ByteArray) ++ t110) ++ (⟨#[32, 98]⟩ : ByteArray)) ++ t111).size + 2 ≤ 9223372036854775807 then ((strconv_Itoa_27.f ((rd_T52 l0_4 x14_1).f4)).bind fun t112 => (if (((((⟨#[105, 102, 32]⟩ : ByteArray) ++ t110) ++ (⟨#[32, 98]⟩ : ByteArray)) ++ t111) ++ (⟨#[32, 98]⟩ : ByteArray)).size + t112.size ≤ 9223372036854775807 then (if ((((((⟨#[105, 102, 32]⟩ : ByteArray) ++ t110) ++ (⟨#[32, 98]⟩ : ByteArray)) ++ t111) ++ (⟨#[32, 98]⟩ : ByteArray)) ++ t112).size + 1 ≤ 9223372036854775807 then (if x3_2.size + (((((((⟨#[105, 102, 32]⟩ : ByteArray) ++ t110) ++ (⟨#[32, 98]⟩ : ByteArray)) ++ t111) ++ (⟨#[32, 98]⟩ : ByteArray)) ++ t112) ++ (⟨#[10]⟩ : ByteArray)).size ≤ 9223372036854775807 then (impl_ShowGraph.l0 k2 (x3_2 ++ (((((((⟨#[105, 102, 32]⟩ : ByteArray) ++ t110) ++ (⟨#[32, 98]⟩ : ByteArray)) ++ t111) ++ (⟨#[32, 98]⟩ : ByteArray)) ++ t112) ++ (⟨#[10]⟩ : ByteArray))) l0_4 (l0_4.length : Int) (wrap64 (x14_1 + 1))) else (none)) else (none)) else (none))) else (none)) else (none)) = some r := H
                    have A43 := Zs0.mk A430
                    clear A430
                    have c44 := ipos H
                    rw [if_pos c44] at H
                    have c44b0 := eq_true c44
                    have c44b1 := decide_eq_true c44
                    try have c44b2 := eq_false (Nat.not_lt.2 c44)
                    have c44n0 : 3 + t110.size + 2 + t111.size ≤ 9223372036854775807 := by have h_ := c44; simp only [ByteArray.size_append] at h_; exact h_
                    have c44n1 := eq_true c44n0
                    have c44n2 := eq_false (Nat.not_lt.2 c44n0)
                    have c45 := ipos H
                    rw [if_pos c45] at H
                    have c45b0 := eq_true c45
                    have c45b1 := decide_eq_true c45
                    try have c45b2 := eq_false (Nat.not_lt.2 c45)
                    have c45n0 : 3 + t110.size + 2 + t111.size + 2 ≤ 9223372036854775807 := by have h_ := c45; simp only [ByteArray.size_append] at h_; exact h_
                    have c45n1 := eq_true c45n0
                    have c45n2 := eq_false (Nat.not_lt.2 c45n0)
                    replace H := Option.bind_eq_some_iff.mp H
                    obtain ⟨t112, A460, H⟩ := H
                    replace H : (if (((((⟨#[105, 102, 32]⟩ : ByteArray) ++ t110) ++ (⟨#[32, 98]⟩ : ByteArray)) ++ t111) ++ (⟨#[32, 98]⟩ : ByteArray)).size + t112.size ≤ 9223372036854775807 then (if ((((((⟨#[105, 102, 32]⟩ : ByteArray) ++ t110) ++ (⟨#[32, 98]⟩ : ByteArray)) ++ t111) ++ (⟨#[32, 98]⟩ : ByteArray)) ++ t112).size + 1 ≤ 9223372036854775807 then (if x3_2.size + (((((((⟨#[105, 102, 32]⟩ : ByteArray) ++ t110) ++ (⟨#[32, 98]⟩ : ByteArray)) ++ t111) ++ (⟨#[32, 98]⟩ : ByteArray)) ++ t112) ++ (⟨#[10]⟩ : ByteArray)).size ≤ 9223372036854775807 then (impl_ShowGraph.l0 k2 (x3_2 ++ (((((((⟨#[105, 102, 32]⟩ : ByteArray) ++ t110) ++ (⟨#[32, 98]⟩ : ByteArray)) ++ t111) ++ (⟨#[32, 98]⟩ : ByteArray)) ++ t112) ++ (⟨#[10]⟩ : ByteArray))) l0_4 (l0_4.length : Int) (wrap64 (x14_1 + 1))) else (none)) else (none)) else (none)) = some r := H
                    have A46 := Zs0.mk A460
                    clear A460
                    have c47 := ipos H
                    rw [if_pos c47] at H
                    have c47b0 := eq_true c47
                    have c47b1 := decide_eq_true c47
                    try have c47b2 := eq_false (Nat.not_lt.2 c47)
                    have c47n0 : 3 + t110.size + 2 + t111.size + 2 + t112.size ≤ 9223372036854775807 := by have h_ := c47; simp only [ByteArray.size_append] at h_; exact h_
                    have c47n1 := eq_true c47n0
                    have c47n2 := eq_false (Nat.not_lt.2 c47n0)
                    have c48 := ipos H
                    rw [if_pos c48] at H
                    have c48b0 := eq_true c48
                    have c48b1 := decide_eq_true c48
                    try have c48b2 := eq_false (Nat.not_lt.2 c48)
                    have c48n0 : 3 + t110.size + 2 + t111.size + 2 + t112.size + 1 ≤ 9223372036854775807 := by have h_ := c48; simp only [ByteArray.size_append] at h_; exact h_
                    have c48n1 := eq_true c48n0
                    have c48n2 := eq_false (Nat.not_lt.2 c48n0)
                    have c49 := ipos H
                    rw [if_pos c49] at H
                    have c49b0 := eq_true c49
                    have c49b1 := decide_eq_true c49
                    try have c49b2 := eq_false (Nat.not_lt.2 c49)
                    have c49n0 : x3_2.size + (3 + t110.size + 2 + t111.size + 2 + t112.size + 1) ≤ 9223372036854775807 := by have h_ := c49; simp only [ByteArray.size_append] at h_; exact h_
                    have c49n1 := eq_true c49n0
                    have c49n2 := eq_false (Nat.not_lt.2 c49n0)
                    have H' := Zs0.mk H
                    clear H
                    have hnb50 := NB104_101.out
                    have hnc50 := NB101_104.out
                    obtain ⟨hcz51_0, hcz51_1, hcz51_2, hcz51_3, hcz51_4, hfz51_0, hfz51_1, hfz51_2, hfz51_3, hfz51_4⟩ := bx5 BK104.out
                    try go_wp2
                    have n0_ := Zs0.mk (bk1 BK101.out)
                    have n1_ := Zs0.mk (bk1 BK104.out)
                    have n2_ := Zs0.mk (bl1 HB.out)
                    clear BK101
                    clear BK104
                    clear HB
                    have BK101 := n0_
                    have BK104 := n1_
                    have HB := n2_
                    clear n0_ n1_ n2_
                    refine start_ (n := 18) (S := fun w' => w'.cell? ⟨gb104, 0, none⟩ = some (.slice A103_0 ((rd_T52 l0_4 x14_1).f0).length c103_0) ∧ w'.cell? ⟨gb104, 1, none⟩ = some (.int .i64 ((rd_T52 l0_4 x14_1).f1)) ∧ w'.cell? ⟨gb104, 2, none⟩ = some (.int .i64 ((rd_T52 l0_4 x14_1).f2)) ∧ w'.cell? ⟨gb104, 3, none⟩ = some (.int .i64 ((rd_T52 l0_4 x14_1).f3)) ∧ w'.cell? ⟨gb104, 4, none⟩ = some (.int .i64 ((rd_T52 l0_4 x14_1).f4))) (ds := []) #[false, false, false, false, false, false, false, false, false, false, false, false, false, false, false, false, false, false] (by kernel_rfl) rfl rfl ⟨(blk_cell BK104.out 0).trans rfl, (blk_cell BK104.out 1).trans rfl, (blk_cell BK104.out 2).trans rfl, (blk_cell BK104.out 3).trans rfl, (blk_cell BK104.out 4).trans rfl⟩ (fun hHeld => ?_); refine with_tabW impl_ShowGraph.tab18 impl_ShowGraph.bits18 (fun HT_ HW_ => ?_)
                    generalize wr.drew = w52 at BK101 BK104 HB hHeld ⊢
                    refine pure_ (i := 0) (N := some 58) (v := ?_) (a' := ?_) #[true, false, false, false, false, false, false, false, false, false, false, false, false, false, false, false, false, false] rfl rfl (any_of HT_.out (by kernel_rfl)) (fun _ _ _ h => h) (Or.inl ⟨by rfl, ?_⟩) ?_ ?_
                    rotate_left
                    · intro w'
                      go_simp
                      with_reducible rfl
                    rotate_left
                    · simp only [Act.put, List.setIfInBounds_toArray, List.set_cons_zero, List.set_cons_succ, i64_w, i32_w]
                      rfl
                    refine pure_ (i := 1) (N := some 59) (v := ?_) (a' := ?_) #[true, true, false, false, false, false, false, false, false, false, false, false, false, false, false, false, false, false] rfl rfl (any_of HT_.out (by kernel_rfl)) (fun _ _ _ h => h) (Or.inl ⟨by rfl, ?_⟩) ?_ ?_
                    rotate_left
                    · intro w'
                      go_simp
                      with_reducible rfl
                    rotate_left
                    · simp only [Act.put, List.setIfInBounds_toArray, List.set_cons_zero, List.set_cons_succ, i64_w, i32_w]
                      rfl
                    refine pure_ (i := 6) (N := some 64) (v := ?_) (a' := ?_) #[true, true, false, false, false, false, true, false, false, false, false, false, false, false, false, false, false, false] rfl rfl (any_of HT_.out (by kernel_rfl)) (fun _ _ _ h => h) (Or.inl ⟨by rfl, ?_⟩) ?_ ?_
                    rotate_left
                    · intro w'
                      go_simp
                      with_reducible rfl
                    rotate_left
                    · simp only [Act.put, List.setIfInBounds_toArray, List.set_cons_zero, List.set_cons_succ, i64_w, i32_w]
                      rfl
                    refine pure_ (i := 11) (N := some 69) (v := ?_) (a' := ?_) #[true, true, false, false, false, false, true, false, false, false, false, true, false, false, false, false, false, false] rfl rfl (any_of HT_.out (by kernel_rfl)) (fun _ _ _ h => h) (Or.inl ⟨by rfl, ?_⟩) ?_ ?_
                    rotate_left
                    · intro w'
                      go_simp
                      with_reducible rfl
                    rotate_left
                    · simp only [Act.put, List.setIfInBounds_toArray, List.set_cons_zero, List.set_cons_succ, i64_w, i32_w]
                      rfl
                    refine take_ (i := 2) (N := some 60) (v := ?_) (a' := ?_) #[true, true, true, false, false, false, true, false, false, false, false, true, false, false, false, false, false, false] rfl rfl (take_ofW HT_.out HW_.out (by kernel_rfl)) (fun _ _ _ h => h) (Or.inl ⟨by rfl, ?_⟩) hHeld ?_ ?_
                    rotate_left
                    · rintro w' ⟨s0, s1, s2, s3, s4⟩
                      go_simp
                      with_reducible rfl
                    rotate_left
                    · simp only [Act.put, List.setIfInBounds_toArray, List.set_cons_zero, List.set_cons_succ, i64_w, i32_w]
                      rfl
                    refine take_ (i := 7) (N := some 65) (v := ?_) (a' := ?_) #[true, true, true, false, false, false, true, true, false, false, false, true, false, false, false, false, false, false] rfl rfl (take_ofW HT_.out HW_.out (by kernel_rfl)) (fun _ _ _ h => h) (Or.inl ⟨by rfl, ?_⟩) hHeld ?_ ?_
                    rotate_left
                    · rintro w' ⟨s0, s1, s2, s3, s4⟩
                      go_simp
                      with_reducible rfl
                    rotate_left
                    · simp only [Act.put, List.setIfInBounds_toArray, List.set_cons_zero, List.set_cons_succ, i64_w, i32_w]
                      rfl
                    refine take_ (i := 12) (N := some 70) (v := ?_) (a' := ?_) #[true, true, true, false, false, false, true, true, false, false, false, true, true, false, false, false, false, false] rfl rfl (take_ofW HT_.out HW_.out (by kernel_rfl)) (fun _ _ _ h => h) (Or.inl ⟨by rfl, ?_⟩) hHeld ?_ ?_
                    rotate_left
                    · rintro w' ⟨s0, s1, s2, s3, s4⟩
                      go_simp
                      with_reducible rfl
                    rotate_left
                    · simp only [Act.put, List.setIfInBounds_toArray, List.set_cons_zero, List.set_cons_succ, i64_w, i32_w]
                      rfl
                    refine one_ (i := 3) (N := some 61) #[true, true, true, true, false, false, true, true, false, false, false, true, true, false, false, false, false, false] rfl rfl (one_of HT_.out (by kernel_rfl)) (by decide) (fun K hK => ?_)
                    refine goes_ Tryd.func28 (by kernel_rfl) rfl #[.int .i64 ((rd_T52 l0_4 x14_1).f2)] (by rfl) rfl rfl (by (try simp only [List.map_toArray, List.map_cons, List.map_nil]); first | done | rfl | (simp only [List.length_drop, List.length_take]; rfl)) ?_
                    with_reducible refine (impl_slot.calls ((rd_T52 l0_4 x14_1).f2) t110 _ A40.out (tabB HT.out (by repeat (first | (with_reducible first | exact HB.out | apply blA | apply pbN | apply bl1 | refine blS ?_ GE101.out | refine blS ?_ GE104.out) | exact HB.out)))).mono ?_
                    rintro e w53 ⟨rfl, hb⟩
                    refine ⟨_, rfl, ?_⟩
                    have n0_ := Zs0.mk (blk_below (g := gb101) (o := .cells #[.slice A0_0 l0_0.length c0_0, .int .i64 a0_1, .int .i64 a0_2, .int .i64 a0_3, .slice (some ad103) l0_4.length c0_4] 33 (0, 0)) (by (with_reducible repeat (first | refine bkN ?_ _ | refine bk1 ?_ | refine bkA ?_ _)); exact BK101.out) hb)
                    have n1_ := Zs0.mk (blk_below (g := gb104) (o := .cells #[.slice A103_0 ((rd_T52 l0_4 x14_1).f0).length c103_0, .int .i64 ((rd_T52 l0_4 x14_1).f1), .int .i64 ((rd_T52 l0_4 x14_1).f2), .int .i64 ((rd_T52 l0_4 x14_1).f3), .int .i64 ((rd_T52 l0_4 x14_1).f4)] 52 (0, 0)) (by (with_reducible repeat (first | refine bkN ?_ _ | refine bk1 ?_ | refine bkA ?_ _)); exact BK104.out) hb)
                    have n2_ := Zs0.mk (blT (by repeat (first | (with_reducible first | exact HB.out | apply blA | apply pbN | apply bl1 | refine blS ?_ GE101.out | refine blS ?_ GE104.out) | exact HB.out)) hb)
                    clear BK101
                    clear BK104
                    clear HB
                    have BK101 := n0_
                    have BK104 := n1_
                    have HB := n2_
                    clear n0_ n1_ n2_
                    (try clear hb)
                    (try clear hb2)
                    (try clear hk)
                    (try clear hi)
                    refine hK.out _ _ ⟨(blk_cell BK104.out 0).trans rfl, (blk_cell BK104.out 1).trans rfl, (blk_cell BK104.out 2).trans rfl, (blk_cell BK104.out 3).trans rfl, (blk_cell BK104.out 4).trans rfl⟩ (fun hHeld => ?_)
                    clear hK K
                    refine norm_ (a' := ?_) ?_ ?_
                    rotate_left
                    · show Act.put _ (some 61) _ = _
                      simp only [Act.put, List.setIfInBounds_toArray, List.set_cons_zero, List.set_cons_succ, i64_w, i32_w]
                      rfl
                    refine pure_ (i := 4) (N := some 62) (v := ?_) (a' := ?_) #[true, true, true, true, true, false, true, true, false, false, false, true, true, false, false, false, false, false] rfl rfl (any_of HT_.out (by kernel_rfl)) (fun _ _ _ h => h) (Or.inl ⟨by rfl, ?_⟩) ?_ ?_
                    rotate_left
                    · intro w'
                      go_simp
                      with_reducible rfl
                    rotate_left
                    · simp only [Act.put, List.setIfInBounds_toArray, List.set_cons_zero, List.set_cons_succ, i64_w, i32_w]
                      rfl
                    refine pure_ (i := 5) (N := some 63) (v := ?_) (a' := ?_) #[true, true, true, true, true, true, true, true, false, false, false, true, true, false, false, false, false, false] rfl rfl (any_of HT_.out (by kernel_rfl)) (fun _ _ _ h => h) (Or.inl ⟨by rfl, ?_⟩) ?_ ?_
                    rotate_left
                    · intro w'
                      go_simp
                      with_reducible rfl
                    rotate_left
                    · simp only [Act.put, List.setIfInBounds_toArray, List.set_cons_zero, List.set_cons_succ, i64_w, i32_w]
                      rfl
                    refine one_ (i := 8) (N := some 66) #[true, true, true, true, true, true, true, true, true, false, false, true, true, false, false, false, false, false] rfl rfl (one_of HT_.out (by kernel_rfl)) (by decide) (fun K hK => ?_)
                    refine goes_ Tryd.func27 (by kernel_rfl) rfl #[.int .i64 ((rd_T52 l0_4 x14_1).f3)] (by rfl) rfl rfl (by (try simp only [List.map_toArray, List.map_cons, List.map_nil]); first | done | rfl | (simp only [List.length_drop, List.length_take]; rfl)) ?_
                    with_reducible refine (strconv_Itoa_27.calls ((rd_T52 l0_4 x14_1).f3) t111 _ A43.out (tabB HT.out (by repeat (first | (with_reducible first | exact HB.out | apply blA | apply pbN | apply bl1 | refine blS ?_ GE101.out | refine blS ?_ GE104.out) | exact HB.out)))).mono ?_
                    rintro e w54 ⟨rfl, hb⟩
                    refine ⟨_, rfl, ?_⟩
                    have n0_ := Zs0.mk (blk_below (g := gb101) (o := .cells #[.slice A0_0 l0_0.length c0_0, .int .i64 a0_1, .int .i64 a0_2, .int .i64 a0_3, .slice (some ad103) l0_4.length c0_4] 33 (0, 0)) (by (with_reducible repeat (first | refine bkN ?_ _ | refine bk1 ?_ | refine bkA ?_ _)); exact BK101.out) hb)
                    have n1_ := Zs0.mk (blk_below (g := gb104) (o := .cells #[.slice A103_0 ((rd_T52 l0_4 x14_1).f0).length c103_0, .int .i64 ((rd_T52 l0_4 x14_1).f1), .int .i64 ((rd_T52 l0_4 x14_1).f2), .int .i64 ((rd_T52 l0_4 x14_1).f3), .int .i64 ((rd_T52 l0_4 x14_1).f4)] 52 (0, 0)) (by (with_reducible repeat (first | refine bkN ?_ _ | refine bk1 ?_ | refine bkA ?_ _)); exact BK104.out) hb)
                    have n2_ := Zs0.mk (blT (by repeat (first | (with_reducible first | exact HB.out | apply blA | apply pbN | apply bl1 | refine blS ?_ GE101.out | refine blS ?_ GE104.out) | exact HB.out)) hb)
                    clear BK101
                    clear BK104
                    clear HB
                    have BK101 := n0_
                    have BK104 := n1_
                    have HB := n2_
                    clear n0_ n1_ n2_
                    (try clear hb)
                    (try clear hb2)
                    (try clear hk)
                    (try clear hi)
                    refine hK.out _ _ ⟨(blk_cell BK104.out 0).trans rfl, (blk_cell BK104.out 1).trans rfl, (blk_cell BK104.out 2).trans rfl, (blk_cell BK104.out 3).trans rfl, (blk_cell BK104.out 4).trans rfl⟩ (fun hHeld => ?_)
                    clear hK K
                    refine norm_ (a' := ?_) ?_ ?_
                    rotate_left
                    · show Act.put _ (some 66) _ = _
                      simp only [Act.put, List.setIfInBounds_toArray, List.set_cons_zero, List.set_cons_succ, i64_w, i32_w]
                      rfl
                    refine pure_ (i := 9) (N := some 67) (v := ?_) (a' := ?_) #[true, true, true, true, true, true, true, true, true, true, false, true, true, false, false, false, false, false] rfl rfl (any_of HT_.out (by kernel_rfl)) (fun _ _ _ h => h) (Or.inl ⟨by rfl, ?_⟩) ?_ ?_
                    rotate_left
                    · intro w'
                      go_simp
                      with_reducible rfl
                    rotate_left
                    · simp only [Act.put, List.setIfInBounds_toArray, List.set_cons_zero, List.set_cons_succ, i64_w, i32_w]
                      rfl
                    refine pure_ (i := 10) (N := some 68) (v := ?_) (a' := ?_) #[true, true, true, true, true, true, true, true, true, true, true, true, true, false, false, false, false, false] rfl rfl (any_of HT_.out (by kernel_rfl)) (fun _ _ _ h => h) (Or.inl ⟨by rfl, ?_⟩) ?_ ?_
                    rotate_left
                    · intro w'
                      go_simp
                      with_reducible rfl
                    rotate_left
                    · simp only [Act.put, List.setIfInBounds_toArray, List.set_cons_zero, List.set_cons_succ, i64_w, i32_w]
                      rfl
                    refine one_ (i := 13) (N := some 71) #[true, true, true, true, true, true, true, true, true, true, true, true, true, true, false, false, false, false] rfl rfl (one_of HT_.out (by kernel_rfl)) (by decide) (fun K hK => ?_)
                    refine goes_ Tryd.func27 (by kernel_rfl) rfl #[.int .i64 ((rd_T52 l0_4 x14_1).f4)] (by rfl) rfl rfl (by (try simp only [List.map_toArray, List.map_cons, List.map_nil]); first | done | rfl | (simp only [List.length_drop, List.length_take]; rfl)) ?_
                    with_reducible refine (strconv_Itoa_27.calls ((rd_T52 l0_4 x14_1).f4) t112 _ A46.out (tabB HT.out (by repeat (first | (with_reducible first | exact HB.out | apply blA | apply pbN | apply bl1 | refine blS ?_ GE101.out | refine blS ?_ GE104.out) | exact HB.out)))).mono ?_
                    rintro e w55 ⟨rfl, hb⟩
                    refine ⟨_, rfl, ?_⟩
                    have n0_ := Zs0.mk (blk_below (g := gb101) (o := .cells #[.slice A0_0 l0_0.length c0_0, .int .i64 a0_1, .int .i64 a0_2, .int .i64 a0_3, .slice (some ad103) l0_4.length c0_4] 33 (0, 0)) (by (with_reducible repeat (first | refine bkN ?_ _ | refine bk1 ?_ | refine bkA ?_ _)); exact BK101.out) hb)
                    have n1_ := Zs0.mk (blk_below (g := gb104) (o := .cells #[.slice A103_0 ((rd_T52 l0_4 x14_1).f0).length c103_0, .int .i64 ((rd_T52 l0_4 x14_1).f1), .int .i64 ((rd_T52 l0_4 x14_1).f2), .int .i64 ((rd_T52 l0_4 x14_1).f3), .int .i64 ((rd_T52 l0_4 x14_1).f4)] 52 (0, 0)) (by (with_reducible repeat (first | refine bkN ?_ _ | refine bk1 ?_ | refine bkA ?_ _)); exact BK104.out) hb)
                    have n2_ := Zs0.mk (blT (by repeat (first | (with_reducible first | exact HB.out | apply blA | apply pbN | apply bl1 | refine blS ?_ GE101.out | refine blS ?_ GE104.out) | exact HB.out)) hb)
                    clear BK101
                    clear BK104
                    clear HB
                    have BK101 := n0_
                    have BK104 := n1_
                    have HB := n2_
                    clear n0_ n1_ n2_
                    (try clear hb)
                    (try clear hb2)
                    (try clear hk)
                    (try clear hi)
                    refine hK.out _ _ ⟨(blk_cell BK104.out 0).trans rfl, (blk_cell BK104.out 1).trans rfl, (blk_cell BK104.out 2).trans rfl, (blk_cell BK104.out 3).trans rfl, (blk_cell BK104.out 4).trans rfl⟩ (fun hHeld => ?_)
                    clear hK K
                    refine norm_ (a' := ?_) ?_ ?_
                    rotate_left
                    · show Act.put _ (some 71) _ = _
                      simp only [Act.put, List.setIfInBounds_toArray, List.set_cons_zero, List.set_cons_succ, i64_w, i32_w]
                      rfl
                    refine pure_ (i := 14) (N := some 72) (v := ?_) (a' := ?_) #[true, true, true, true, true, true, true, true, true, true, true, true, true, true, true, false, false, false] rfl rfl (any_of HT_.out (by kernel_rfl)) (fun _ _ _ h => h) (Or.inl ⟨by rfl, ?_⟩) ?_ ?_
                    rotate_left
                    · intro w'
                      go_simp
                      with_reducible rfl
                    rotate_left
                    · simp only [Act.put, List.setIfInBounds_toArray, List.set_cons_zero, List.set_cons_succ, i64_w, i32_w]
                      rfl
                    refine pure_ (i := 15) (N := some 73) (v := ?_) (a' := ?_) #[true, true, true, true, true, true, true, true, true, true, true, true, true, true, true, true, false, false] rfl rfl (any_of HT_.out (by kernel_rfl)) (fun _ _ _ h => h) (Or.inl ⟨by rfl, ?_⟩) ?_ ?_
                    rotate_left
                    · intro w'
                      go_simp
                      with_reducible rfl
                    rotate_left
                    · simp only [Act.put, List.setIfInBounds_toArray, List.set_cons_zero, List.set_cons_succ, i64_w, i32_w]
                      rfl
                    refine pure_ (i := 16) (N := some 74) (v := ?_) (a' := ?_) #[true, true, true, true, true, true, true, true, true, true, true, true, true, true, true, true, true, false] rfl rfl (any_of HT_.out (by kernel_rfl)) (fun _ _ _ h => h) (Or.inl ⟨by rfl, ?_⟩) ?_ ?_
                    rotate_left
                    · intro w'
                      go_simp
                      with_reducible rfl
                    rotate_left
                    · simp only [Act.put, List.setIfInBounds_toArray, List.set_cons_zero, List.set_cons_succ, i64_w, i32_w]
                      rfl
                    refine pure_ (i := 17) (N := some 3) (v := ?_) (a' := ?_) #[true, true, true, true, true, true, true, true, true, true, true, true, true, true, true, true, true, true] rfl rfl (any_of HT_.out (by kernel_rfl)) (fun _ _ _ h => h) (Or.inl ⟨by rfl, ?_⟩) ?_ ?_
                    rotate_left
                    · intro w'
                      go_simp
                      with_reducible rfl
                    rotate_left
                    · simp only [Act.put, List.setIfInBounds_toArray, List.set_cons_zero, List.set_cons_succ, i64_w, i32_w]
                      rfl
                    refine done_ (done_of HT_.out (by kernel_rfl)) ?_
                    try go_wp2
                    go_roundg k2
                    case measure => have := HK1.out; have := HK2.out; omega
                    case rel => exact ⟨(x3_2 ++ (((((((⟨#[105, 102, 32]⟩ : ByteArray) ++ t110) ++ (⟨#[32, 98]⟩ : ByteArray)) ++ t111) ++ (⟨#[32, 98]⟩ : ByteArray)) ++ t112) ++ (⟨#[10]⟩ : ByteArray))), (wrap64 (x14_1 + 1)), (by first | rfl | (simp; done) | (simp [*]; done)), (by first | rfl | (simp; done) | (simp [*]; done)), H', ⟨by have := HK1.out; have := HK2.out; omega⟩, ⟨by (with_reducible repeat (first | refine bkN ?_ _ | refine bk1 ?_ | refine bkA ?_ _)); exact BK101.out⟩, ⟨by repeat (first | (with_reducible first | exact HB.out | apply blA | apply pbN | apply bl1 | refine blS ?_ GE101.out | refine blS ?_ GE104.out) | exact HB.out)⟩⟩
                  · rw [if_neg c39] at H
                    have c39b0 : (((rd_T52 l0_4 x14_1).f1) == 1) = false := beq_eq_false_iff_ne.mpr c39
                    have c39b1 : (((rd_T52 l0_4 x14_1).f1) != 1) = true := bne_iff_ne.mpr c39
                    replace H := Option.bind_eq_some_iff.mp H
                    obtain ⟨t113, A560, H⟩ := H
                    replace H : (if 4 + t113.size ≤ 9223372036854775807 then (if ((⟨#[114, 101, 116, 32]⟩ : ByteArray) ++ t113).size + 1 ≤ 9223372036854775807 then (if x3_2.size + (((⟨#[114, 101, 116, 32]⟩ : ByteArray) ++ t113) ++ (⟨#[10]⟩ : ByteArray)).size ≤ 9223372036854775807 then (impl_ShowGraph.l0 k2 (x3_2 ++ (((⟨#[114, 101, 116, 32]⟩ : ByteArray) ++ t113) ++ (⟨#[10]⟩ : ByteArray))) l0_4 (l0_4.length : Int) (wrap64 (x14_1 + 1))) else (none)) else (none)) else (none)) = some r := H
                    have A56 := Zs0.mk A560
                    clear A560
                    have c57 := ipos H
                    rw [if_pos c57] at H
                    have c57b0 := eq_true c57
                    have c57b1 := decide_eq_true c57
                    try have c57b2 := eq_false (Nat.not_lt.2 c57)
                    have c58 := ipos H
                    rw [if_pos c58] at H
                    have c58b0 := eq_true c58
                    have c58b1 := decide_eq_true c58
                    try have c58b2 := eq_false (Nat.not_lt.2 c58)
                    have c58n0 : 4 + t113.size + 1 ≤ 9223372036854775807 := by have h_ := c58; simp only [ByteArray.size_append] at h_; exact h_
                    have c58n1 := eq_true c58n0
                    have c58n2 := eq_false (Nat.not_lt.2 c58n0)
                    have c59 := ipos H
                    rw [if_pos c59] at H
                    have c59b0 := eq_true c59
                    have c59b1 := decide_eq_true c59
                    try have c59b2 := eq_false (Nat.not_lt.2 c59)
                    have c59n0 : x3_2.size + (4 + t113.size + 1) ≤ 9223372036854775807 := by have h_ := c59; simp only [ByteArray.size_append] at h_; exact h_
                    have c59n1 := eq_true c59n0
                    have c59n2 := eq_false (Nat.not_lt.2 c59n0)
                    have H' := Zs0.mk H
                    clear H
                    have hnb60 := NB104_101.out
                    have hnc60 := NB101_104.out
                    obtain ⟨hcz61_0, hcz61_1, hcz61_2, hcz61_3, hcz61_4, hfz61_0, hfz61_1, hfz61_2, hfz61_3, hfz61_4⟩ := bx5 BK104.out
                    go_wp2_with (first | ((with_reducible refine gtC (f := 28) rfl ?_); refine goesL_ (some 43) rfl rfl Tryd.func28 (by kernel_rfl) rfl #[.int .i64 ((rd_T52 l0_4 x14_1).f2)] rfl (by (try simp only [List.map_toArray, List.map_cons, List.map_nil]); first | done | rfl | (simp only [List.length_drop, List.length_take]; rfl)) ?_; (with_reducible refine (impl_slot.calls ((rd_T52 l0_4 x14_1).f2) t113 _ A56.out (tabB HT.out (by repeat (first | (with_reducible first | exact HB.out | apply blA | apply pbN | apply bl1 | refine blS ?_ GE101.out | refine blS ?_ GE104.out) | exact HB.out)))).mono ?_); rintro e w62 ⟨rfl, hb⟩; refine ⟨_, rfl, ?_⟩; have n0_ := Zs0.mk (blk_below (g := gb101) (o := .cells #[.slice A0_0 l0_0.length c0_0, .int .i64 a0_1, .int .i64 a0_2, .int .i64 a0_3, .slice (some ad103) l0_4.length c0_4] 33 (0, 0)) (by (with_reducible repeat (first | refine bkN ?_ _ | refine bk1 ?_ | refine bkA ?_ _)); exact BK101.out) hb); have n1_ := Zs0.mk (blk_below (g := gb104) (o := .cells #[.slice A103_0 ((rd_T52 l0_4 x14_1).f0).length c103_0, .int .i64 ((rd_T52 l0_4 x14_1).f1), .int .i64 ((rd_T52 l0_4 x14_1).f2), .int .i64 ((rd_T52 l0_4 x14_1).f3), .int .i64 ((rd_T52 l0_4 x14_1).f4)] 52 (0, 0)) (by (with_reducible repeat (first | refine bkN ?_ _ | refine bk1 ?_ | refine bkA ?_ _)); exact BK104.out) hb); have n2_ := Zs0.mk (blT (by repeat (first | (with_reducible first | exact HB.out | apply blA | apply pbN | apply bl1 | refine blS ?_ GE101.out | refine blS ?_ GE104.out) | exact HB.out)) hb); clear BK101; clear BK104; clear HB; have BK101 := n0_; have BK104 := n1_; have HB := n2_; clear n0_ n1_ n2_; (try clear hb); (try clear hb2); (try clear hk); (try clear hi)))
                    go_roundg k2
                    case measure => have := HK1.out; have := HK2.out; omega
                    case rel => exact ⟨(x3_2 ++ (((⟨#[114, 101, 116, 32]⟩ : ByteArray) ++ t113) ++ (⟨#[10]⟩ : ByteArray))), (wrap64 (x14_1 + 1)), (by first | rfl | (simp; done) | (simp [*]; done)), (by first | rfl | (simp; done) | (simp [*]; done)), H', ⟨by have := HK1.out; have := HK2.out; omega⟩, ⟨by (with_reducible repeat (first | refine bkN ?_ _ | refine bk1 ?_ | refine bkA ?_ _)); exact BK101.out⟩, ⟨by repeat (first | (with_reducible first | exact HB.out | apply blA | apply pbN | apply bl1 | refine blS ?_ GE101.out | refine blS ?_ GE104.out) | exact HB.out)⟩⟩
        · rw [if_neg c8] at H
          have c8b0 : decide (x14_1 < (l0_4.length : Int)) = false := decide_eq_false c8
          clear c8
          obtain rfl := Option.some.inj H
          go_wp2
          go_ret
          exact ⟨by first | rfl | (simp [eWn, eWs] <;> rfl) | (simp [*, eWn, eWs] <;> rfl), by repeat (first | (with_reducible first | exact HB.out | apply blA | apply pbN | apply bl1 | refine blS ?_ GE101.out) | exact HB.out)⟩
  · replace c3 := Bool.eq_false_iff.mpr c3
    subst c3
    have H1 : (some (⟨#[]⟩ : ByteArray)) = some r := by rw [if_neg (show ¬ (false = true) by decide)] at H; exact H
    clear H
    have H := H1
    clear H1
    obtain rfl := Option.some.inj H
    go_enter Tryd.func13, Tryd.ntmps13
    go_wp2_with (first | ((with_reducible refine gtD (N := 1) rfl ?_); refine box_event ?hg (N := 1) ?hd (cs := #[.slice A0_0 l0_0.length c0_0, .int .i64 a0_1, .int .i64 a0_2, .int .i64 a0_3, .slice A0_4 l0_4.length c0_4]) (t := 33) ?hr ?_; (case hd => rfl); (case hg => rfl); (case hr => first | (go_simp; done) | (go_simp; rfl)); intro gb101 hg w63 hbox hb; have n0_ := Zs0.mk (blT (by repeat (first | (with_reducible first | exact HB.out | apply blA | apply pbN | apply bl1) | exact HB.out)) hb); have n1_ := Zs0.mk (hbox); have n2_ := Zs0.mk ((by rw [hg]; exact (blZ (by repeat (first | (with_reducible first | exact HB.out | apply blA | apply pbN | apply bl1) | exact HB.out))) : w.heap.size ≤ gb101)); have n3_ := Zs0.mk ((by rw [hg]; exact (blZ (by repeat (first | (with_reducible first | exact HB.out | apply blA | apply pbN | apply bl1) | exact HB.out))) : w.heap.size ≤ gb101)); clear HB; have HB := n0_; have BK101 := n1_; have GW101 := n2_; have GE101 := n3_; clear n0_ n1_ n2_ n3_; clear hb hbox hg; obtain ⟨hcz64_0, hcz64_1, hcz64_2, hcz64_3, hcz64_4, hfz64_0, hfz64_1, hfz64_2, hfz64_3, hfz64_4⟩ := bx5 BK101.out) | ((with_reducible refine gtC (f := 26) rfl ?_); refine goesL_ (some 9) rfl rfl Tryd.func26 (by kernel_rfl) rfl #[.agg #[.slice A0_0 l0_0.length c0_0, .int .i64 a0_1, .int .i64 a0_2, .int .i64 a0_3, .slice A0_4 l0_4.length c0_4]] rfl (by (try simp only [List.map_toArray, List.map_cons, List.map_nil]); first | done | rfl | (simp only [List.length_drop, List.length_take]; rfl)) ?_; (with_reducible refine (impl_isGraph.calls k _ _ l0_0 a0_1 a0_2 a0_3 _ _ l0_4 false _ ?side1 ?side2 ?side3 ?side4 A2.out).mono ?_); (case side1 => repeat (first | exact (Kd.C_below HR0_0.out HB.out) | (with_reducible refine Kd.C_alloc ?_ _) | (with_reducible refine Kd.C_drewN ?_ _) | (with_reducible refine Kd.C_drew ?_))); (case side2 => exact HC0_0.out); (case side3 => repeat (first | exact (Kd.C_below HR0_4.out HB.out) | (with_reducible refine Kd.C_alloc ?_ _) | (with_reducible refine Kd.C_drewN ?_ _) | (with_reducible refine Kd.C_drew ?_))); (case side4 => exact HC0_4.out); rintro e w65 ⟨rfl, hb⟩; refine ⟨_, rfl, ?_⟩; have n0_ := Zs0.mk (blk_below (g := gb101) (o := .cells #[.slice A0_0 l0_0.length c0_0, .int .i64 a0_1, .int .i64 a0_2, .int .i64 a0_3, .slice A0_4 l0_4.length c0_4] 33 (0, 0)) (by (with_reducible repeat (first | refine bkN ?_ _ | refine bk1 ?_ | refine bkA ?_ _)); exact BK101.out) hb); have n1_ := Zs0.mk (blT (by repeat (first | (with_reducible first | exact HB.out | apply blA | apply pbN | apply bl1 | refine blS ?_ GE101.out) | exact HB.out)) hb); clear BK101; clear HB; have BK101 := n0_; have HB := n1_; clear n0_ n1_; (try clear hb); (try clear hb2); (try clear hk); (try clear hi)))
    go_ret
    exact ⟨by first | rfl | (simp [eWn, eWs] <;> rfl) | (simp [*, eWn, eWs] <;> rfl), by repeat (first | (with_reducible first | exact HB.out | apply blA | apply pbN | apply bl1 | refine blS ?_ GE101.out) | exact HB.out)⟩

end Go.Proofs.YtbbpmcignfhfmaaDoor.P
