/- Printed by a program over this seat's translation: a Lean function for each Go function, and that the Go code comes to its answers. -/
import Derived.Test.YtbihpjngmjkjmaaDoorMFnLex0a
import Derived.Test.YtbihpjngmjkjmaaDoorMFnLex0b
namespace Go.Proofs.YtbihpjngmjkjmaaDoor.P
open Go.RowKit Go.Proofs.YtbihpjngmjkjmaaDoorW.PrintWords Go.Proofs.YtbihpjngmjkjmaaDoorW.PrintLast Go.Proofs.YtbihpjngmjkjmaaDoorW.PrintMore
attribute [local go_sem] max2_int min2_int max_two min_two max_three min_three max_four min_four   -- for this text's walks alone
set_option linter.unusedVariables false
set_option linter.unusedSimpArgs false

/-! ### spec_l01Exp: function 91 -/
mutual
def spec_l01Exp.j0 : Nat → List ByteArray → Int → Bool → List Int → Int → Int → Option (ByteArray × Int × Int)
  | 0, _, _, _, _, _, _ => none
  | k + 1, x1, x2, x13, x1000, x1001, x1002 => if x13 = true then ((spec_l01Once.f x1000 x1001 x1002 3).bind fun bt104 => (if bt104.1 = true then ((spec_l01Pick.f x1000 bt104.2.1 bt104.2.2 (([(⟨#[48]⟩ : ByteArray), (⟨#[49]⟩ : ByteArray), (⟨#[50]⟩ : ByteArray), (⟨#[51]⟩ : ByteArray), (⟨#[53]⟩ : ByteArray), (⟨#[103, 101, 116]⟩ : ByteArray)] : List ByteArray))).bind fun bt110 => (some (bt110.1, bt110.2.1, bt110.2.2))) else ((spec_l01Pick.f x1000 bt104.2.1 bt104.2.2 x1).bind fun bt113 => (some (bt113.1, bt113.2.1, bt113.2.2))))) else ((spec_l01Exp.f k x1000 x1001 x1002 x1 (wrap64 (x2 - 1))).bind fun bt116 => ((spec_l01Below.f x1000 bt116.2.1 bt116.2.2 6).bind fun bt119 => (if bt119.1 = 0 then ((spec_l01Pick.f x1000 bt119.2.1 bt119.2.2 (([(⟨#[97]⟩ : ByteArray), (⟨#[98]⟩ : ByteArray), (⟨#[112]⟩ : ByteArray)] : List ByteArray))).bind fun bt125 => (if bt125.1.size + 1 ≤ 9223372036854775807 then ((spec_l01Pick.f x1000 bt125.2.1 bt125.2.2 (([(⟨#[48]⟩ : ByteArray), (⟨#[49]⟩ : ByteArray), (⟨#[120]⟩ : ByteArray), (⟨#[120, 32, 43, 32, 49]⟩ : ByteArray), (⟨#[121, 32, 38, 32, 51]⟩ : ByteArray), (⟨#[50]⟩ : ByteArray), bt116.1] : List ByteArray))).bind fun bt131 => (if (bt125.1 ++ (⟨#[91]⟩ : ByteArray)).size + bt131.1.size ≤ 9223372036854775807 then (if ((bt125.1 ++ (⟨#[91]⟩ : ByteArray)) ++ bt131.1).size + 1 ≤ 9223372036854775807 then (some (((bt125.1 ++ (⟨#[91]⟩ : ByteArray)) ++ bt131.1) ++ (⟨#[93]⟩ : ByteArray), bt131.2.1, bt131.2.2)) else (none)) else (none))) else (none))) else (if bt119.1 = 1 then (spec_l01Exp.j1 k x1 x2 bt116.1 bt119.1 (bt119.1 == 1) x1000 bt119.2.1 bt119.2.2) else (spec_l01Exp.j1 k x1 x2 bt116.1 bt119.1 (bt119.1 == 2) x1000 bt119.2.1 bt119.2.2)))))
def spec_l01Exp.j1 : Nat → List ByteArray → Int → ByteArray → Int → Bool → List Int → Int → Int → Option (ByteArray × Int × Int)
  | 0, _, _, _, _, _, _, _, _ => none
  | k + 1, x1, x2, x7, x29, x42, x1000, x1001, x1002 => if x42 = true then (if 1 + x7.size ≤ 9223372036854775807 then ((spec_l01Pick.f x1000 x1001 x1002 (([(⟨#[32, 43, 32]⟩ : ByteArray), (⟨#[32, 45, 32]⟩ : ByteArray), (⟨#[32, 42, 32]⟩ : ByteArray), (⟨#[32, 61, 61, 32]⟩ : ByteArray), (⟨#[32, 60, 32]⟩ : ByteArray), (⟨#[32, 38, 32]⟩ : ByteArray)] : List ByteArray))).bind fun bt137 => (if ((⟨#[40]⟩ : ByteArray) ++ x7).size + bt137.1.size ≤ 9223372036854775807 then ((spec_l01Exp.f k x1000 bt137.2.1 bt137.2.2 x1 (wrap64 (x2 - 1))).bind fun bt140 => (if (((⟨#[40]⟩ : ByteArray) ++ x7) ++ bt137.1).size + bt140.1.size ≤ 9223372036854775807 then (if ((((⟨#[40]⟩ : ByteArray) ++ x7) ++ bt137.1) ++ bt140.1).size + 1 ≤ 9223372036854775807 then (some (((((⟨#[40]⟩ : ByteArray) ++ x7) ++ bt137.1) ++ bt140.1) ++ (⟨#[41]⟩ : ByteArray), bt140.2.1, bt140.2.2)) else (none)) else (none))) else (none))) else (none)) else (if x29 = 3 then (if 1 + x7.size ≤ 9223372036854775807 then (if ((⟨#[40]⟩ : ByteArray) ++ x7).size + 5 ≤ 9223372036854775807 then (some (((⟨#[40]⟩ : ByteArray) ++ x7) ++ (⟨#[32, 38, 32, 51, 41]⟩ : ByteArray), x1001, x1002)) else (none)) else (none)) else (some (x7, x1001, x1002)))
def spec_l01Exp.f : Nat → List Int → Int → Int → List ByteArray → Int → Option (ByteArray × Int × Int)
  | 0, _, _, _, _, _ => none
  | k + 1, s0_0, s0_1, s0_2, l1, a2 => if a2 ≤ 0 then (spec_l01Exp.j0 k l1 a2 true s0_0 s0_1 s0_2) else ((spec_l01Once.f s0_0 s0_1 s0_2 4).bind fun bt101 => (spec_l01Exp.j0 k l1 a2 bt101.1 s0_0 bt101.2.1 bt101.2.2))
end
theorem spec_l01Exp.mono_l : ∀ k, (∀ y0 y1 y2 y3 y4, LeO (spec_l01Exp.f k y0 y1 y2 y3 y4) (spec_l01Exp.f (k + 1) y0 y1 y2 y3 y4)) ∧ (∀ y0 y1 y2 y3 y4 y5, LeO (spec_l01Exp.j0 k y0 y1 y2 y3 y4 y5) (spec_l01Exp.j0 (k + 1) y0 y1 y2 y3 y4 y5)) ∧ (∀ y0 y1 y2 y3 y4 y5 y6 y7, LeO (spec_l01Exp.j1 k y0 y1 y2 y3 y4 y5 y6 y7) (spec_l01Exp.j1 (k + 1) y0 y1 y2 y3 y4 y5 y6 y7))
  | 0 => ⟨fun _ _ _ _ _ r h => by simp [spec_l01Exp.f] at h, fun _ _ _ _ _ _ r h => by simp [spec_l01Exp.j0] at h, fun _ _ _ _ _ _ _ _ r h => by simp [spec_l01Exp.j1] at h⟩
  | k + 1 => by
    obtain ⟨ih0, ih1, ih2⟩ := spec_l01Exp.mono_l k
    refine ⟨?_, ?_, ?_⟩
    · intro y0 y1 y2 y3 y4
      unfold spec_l01Exp.f
      repeat' first
      | (with_reducible exact ih0 _ _ _ _ _)
      | (with_reducible exact ih1 _ _ _ _ _ _)
      | (with_reducible exact ih2 _ _ _ _ _ _ _ _)
      | (with_reducible exact LeO.refl _)
      | (with_reducible exact LeO.none _)
      | (with_reducible refine LeO.ite ?_ ?_)
      | (with_reducible refine LeO.bind ?_ (fun _ => ?_))
      | exact ih0 _ _ _ _ _
      | exact ih1 _ _ _ _ _ _
      | exact ih2 _ _ _ _ _ _ _ _
      | exact LeO.none _
      | refine LeO.ite ?_ ?_
      | refine LeO.bind ?_ (fun _ => ?_)
    · intro y0 y1 y2 y3 y4 y5
      unfold spec_l01Exp.j0
      repeat' first
      | (with_reducible exact ih0 _ _ _ _ _)
      | (with_reducible exact ih1 _ _ _ _ _ _)
      | (with_reducible exact ih2 _ _ _ _ _ _ _ _)
      | (with_reducible exact LeO.refl _)
      | (with_reducible exact LeO.none _)
      | (with_reducible refine LeO.ite ?_ ?_)
      | (with_reducible refine LeO.bind ?_ (fun _ => ?_))
      | exact ih0 _ _ _ _ _
      | exact ih1 _ _ _ _ _ _
      | exact ih2 _ _ _ _ _ _ _ _
      | exact LeO.none _
      | refine LeO.ite ?_ ?_
      | refine LeO.bind ?_ (fun _ => ?_)
    · intro y0 y1 y2 y3 y4 y5 y6 y7
      unfold spec_l01Exp.j1
      repeat' first
      | (with_reducible exact ih0 _ _ _ _ _)
      | (with_reducible exact ih1 _ _ _ _ _ _)
      | (with_reducible exact ih2 _ _ _ _ _ _ _ _)
      | (with_reducible exact LeO.refl _)
      | (with_reducible exact LeO.none _)
      | (with_reducible refine LeO.ite ?_ ?_)
      | (with_reducible refine LeO.bind ?_ (fun _ => ?_))
      | exact ih0 _ _ _ _ _
      | exact ih1 _ _ _ _ _ _
      | exact ih2 _ _ _ _ _ _ _ _
      | exact LeO.none _
      | refine LeO.ite ?_ ?_
      | refine LeO.bind ?_ (fun _ => ?_)
theorem spec_l01Exp.mono : ∀ a0 a1 a2 a3 a4 k, LeO (spec_l01Exp.f k a0 a1 a2 a3 a4) (spec_l01Exp.f (k + 1) a0 a1 a2 a3 a4) := by
  intro a0 a1 a2 a3 a4 k
  obtain ⟨ih0, ih1, ih2⟩ := spec_l01Exp.mono_l k
  exact ih0 a0 a1 a2 a3 a4
set_option maxHeartbeats 8000000 in
set_option maxRecDepth 100000 in
theorem spec_l01Exp.calls (k : Nat) : ∀ (g : Nat) (s0_0 : List Int) (s0_1 : Int) (s0_2 : Int) (A1 : Option Addr) (c1 : Nat) (l1 : List ByteArray) (a2 : Int) (r1 : ByteArray) (r2 : Int) (r3 : Int) (w0 w : World) (hI : IsS86 w0 w g s0_0 s0_1 s0_2) (hB : Below w0.heap.size w0 w) (hr1 : Kd.C Kd.string w A1 l1.length l1) (hc1 : l1.length ≤ c1) (hf1 : ∀ ad, A1 = some ad → 0 < l1.length → ad.block ≠ g) (h : spec_l01Exp.f k s0_0 s0_1 s0_2 l1 a2 = some (r1, r2, r3)),
    Calls Tryd.prog 91 #[.pointer (some ⟨g, 0, none⟩), .slice A1 l1.length c1, .int .i64 a2] w fun e w' => e = .returned (.string r1) ∧ IsS86 w0 w' g s0_0 r2 r3 ∧ Below w0.heap.size w0 w' ∧ KeepBut w w' g none := by
  induction k using Nat.strongRecOn with
  | _ k ih =>
  intro g s0_0 s0_1 s0_2 A1 c1 l1 a2 r1 r2 r3 w0 w hI hB hr1 hc1 hf1 h
  cases k with
  | zero => exact absurd h (by simp [spec_l01Exp.f])
  | succ k =>
  simp only [spec_l01Exp.f] at h
  have HR1 := Zs0.mk hr1
  have HC1 := Zs0.mk hc1
  clear hr1 hc1
  have HI0 := Zs0.mk hI
  have HK := Zs0.mk (KeepBut.refl w g none)
  have HL := Zs0.mk hB.size
  clear hI
  have HW0 := Zs0.mk hB.size
  have HB := Zs0.mk hB
  clear hB
  have H : (if a2 ≤ 0 then (spec_l01Exp.j0 k l1 a2 true s0_0 s0_1 s0_2) else ((spec_l01Once.f s0_0 s0_1 s0_2 4).bind fun bt101 => (spec_l01Exp.j0 k l1 a2 bt101.1 s0_0 bt101.2.1 bt101.2.2))) = some (r1, r2, r3) := h
  clear h
  have HC4 := Zs0.mk H
  clear H
  go_enter Tryd.func91, Tryd.ntmps91
  go_upto_region 1 with (fail)
  go_cut [13] (fun v13 wc => ∃ (kq : Nat) (x13_3 : Bool) (x1001_3 : Int) (x1002_3 : Int), v13 = .bool x13_3 ∧ Zs0 (spec_l01Exp.j0 kq l1 a2 x13_3 s0_0 x1001_3 x1002_3 = some (r1, r2, r3)) ∧ Zs0 (kq ≤ k) ∧ Zs0 (IsS86 w0 wc g s0_0 x1001_3 x1002_3) ∧ Zs0 (KeepBut w wc g none) ∧ Zs0 (Below w0.heap.size w0 wc))
  case first =>
    have H := HC4.out
    clear HC4
    by_cases c5 : a2 ≤ 0
    · rw [if_pos c5] at H
      have c5b0 : decide (a2 ≤ 0) = true := decide_eq_true c5
      clear c5
      (first | rw [c5b0] | (simp only [i64_w, i32_w]; rw [c5b0]) | skip)
      have H' := Zs0.mk H
      clear H
      go_wp2
      go_meet
      case rel => exact ⟨_, (true), (s0_1), (s0_2), (by first | rfl | (simp; done) | (simp [*]; done)), H', ⟨by first | omega | exact Nat.le_refl _⟩, ⟨by repeat (first | (with_reducible first | exact HI0.out | apply IsS86.alloc | apply IsS86.drewN | apply IsS86.drew | apply IsS86.set_1 | apply IsS86.set_2) | exact HI0.out)⟩, ⟨by repeat (first | (with_reducible first | exact HK.out | apply KeepBut.set_ | apply keep_drewN | apply keep_drew | apply keep_alloc) | exact HK.out)⟩, ⟨by repeat (first | (with_reducible first | exact HB.out | apply blA | apply pbN | apply bl1 | refine blS ?_ (IsS86.ge HI0.out)) | exact HB.out)⟩⟩
    · rw [if_neg c5] at H
      have c5b0 : decide (a2 ≤ 0) = false := decide_eq_false c5
      clear c5
      (first | rw [c5b0] | (simp only [i64_w, i32_w]; rw [c5b0]) | skip)
      replace H := Option.bind_eq_some_iff.mp H
      obtain ⟨⟨t101, t102, t103⟩, A60, H⟩ := H
      replace H : (spec_l01Exp.j0 k l1 a2 t101 s0_0 t102 t103) = some (r1, r2, r3) := H
      have A6 := Zs0.mk A60
      clear A60
      have H' := Zs0.mk H
      clear H
      go_wp2_with (first | (go_at_call 64; (with_reducible refine (spec_l01Once.calls g s0_0 s0_1 s0_2 4 t101 t102 t103 w0 _ ?side1 ?side2 A6.out).mono ?_); (case side1 => repeat (first | (with_reducible first | exact HI0.out | apply IsS86.alloc | apply IsS86.drewN | apply IsS86.drew | apply IsS86.set_1 | apply IsS86.set_2) | exact HI0.out)); (case side2 => repeat (first | (with_reducible first | exact HB.out | apply blA | apply pbN | apply bl1 | refine blS ?_ (IsS86.ge HI0.out)) | exact HB.out)); rintro e w7 ⟨rfl, hi, hb, hk⟩; have n0_ := Zs0.mk (KeepBut.trans (by repeat (first | (with_reducible first | exact HK.out | apply KeepBut.set_ | apply keep_drewN | apply keep_drew | apply keep_alloc) | exact HK.out)) hk (.inl rfl)); have n1_ := Zs0.mk (hb); have n2_ := Zs0.mk (hi); clear HK; clear HB; clear HI0; have HK := n0_; have HB := n1_; have HI0 := n2_; clear n0_ n1_ n2_; (try clear hb); (try clear hb2); (try clear hk); (try clear hi)))
      go_meet
      case rel => exact ⟨_, (t101), (t102), (t103), (by first | rfl | (simp; done) | (simp [*]; done)), H', ⟨by first | omega | exact Nat.le_refl _⟩, ⟨by repeat (first | (with_reducible first | exact HI0.out | apply IsS86.alloc | apply IsS86.drewN | apply IsS86.drew | apply IsS86.set_1 | apply IsS86.set_2) | exact HI0.out)⟩, ⟨by repeat (first | (with_reducible first | exact HK.out | apply KeepBut.set_ | apply keep_drewN | apply keep_drew | apply keep_alloc) | exact HK.out)⟩, ⟨by repeat (first | (with_reducible first | exact HB.out | apply blA | apply pbN | apply bl1 | refine blS ?_ (IsS86.ge HI0.out)) | exact HB.out)⟩⟩
  case rest =>
    clear HC4
    try clear c1
    try clear p2
    try clear c5
    try clear c5b0
    obtain ⟨kq, x13_3, x1001_3, x1002_3, rfl, HA, HJ3, HI0, HK, HB⟩ := hcut
    cases kq with
    | zero => exact absurd HA.out (by simp [spec_l01Exp.j0])
    | succ kj3 =>
      have H := HA.out
      clear HA
      simp only [spec_l01Exp.j0] at H
      by_cases c8 : x13_3 = true
      · subst c8
        have H1 : ((spec_l01Once.f s0_0 x1001_3 x1002_3 3).bind fun bt104 => (if bt104.1 = true then ((spec_l01Pick.f s0_0 bt104.2.1 bt104.2.2 (([(⟨#[48]⟩ : ByteArray), (⟨#[49]⟩ : ByteArray), (⟨#[50]⟩ : ByteArray), (⟨#[51]⟩ : ByteArray), (⟨#[53]⟩ : ByteArray), (⟨#[103, 101, 116]⟩ : ByteArray)] : List ByteArray))).bind fun bt110 => (some (bt110.1, bt110.2.1, bt110.2.2))) else ((spec_l01Pick.f s0_0 bt104.2.1 bt104.2.2 l1).bind fun bt113 => (some (bt113.1, bt113.2.1, bt113.2.2))))) = some (r1, r2, r3) := by rw [if_pos rfl] at H; exact H
        clear H
        have H := H1
        clear H1
        replace H := Option.bind_eq_some_iff.mp H
        obtain ⟨⟨t104, t105, t106⟩, A90, H⟩ := H
        replace H : (if t104 = true then ((spec_l01Pick.f s0_0 t105 t106 (([(⟨#[48]⟩ : ByteArray), (⟨#[49]⟩ : ByteArray), (⟨#[50]⟩ : ByteArray), (⟨#[51]⟩ : ByteArray), (⟨#[53]⟩ : ByteArray), (⟨#[103, 101, 116]⟩ : ByteArray)] : List ByteArray))).bind fun bt110 => (some (bt110.1, bt110.2.1, bt110.2.2))) else ((spec_l01Pick.f s0_0 t105 t106 l1).bind fun bt113 => (some (bt113.1, bt113.2.1, bt113.2.2)))) = some (r1, r2, r3) := H
        have A9 := Zs0.mk A90
        clear A90
        by_cases c10 : t104 = true
        · subst c10
          have H1 : ((spec_l01Pick.f s0_0 t105 t106 (([(⟨#[48]⟩ : ByteArray), (⟨#[49]⟩ : ByteArray), (⟨#[50]⟩ : ByteArray), (⟨#[51]⟩ : ByteArray), (⟨#[53]⟩ : ByteArray), (⟨#[103, 101, 116]⟩ : ByteArray)] : List ByteArray))).bind fun bt110 => (some (bt110.1, bt110.2.1, bt110.2.2))) = some (r1, r2, r3) := by rw [if_pos rfl] at H; exact H
          clear H
          have H := H1
          clear H1
          obtain ⟨y107, hy107⟩ : ∃ y_ : List ByteArray, y_ = (([(⟨#[48]⟩ : ByteArray), (⟨#[49]⟩ : ByteArray), (⟨#[50]⟩ : ByteArray), (⟨#[51]⟩ : ByteArray), (⟨#[53]⟩ : ByteArray), (⟨#[103, 101, 116]⟩ : ByteArray)] : List ByteArray)) := ⟨_, rfl⟩
          replace H : ((spec_l01Pick.f s0_0 t105 t106 y107).bind fun bt110 => (some (bt110.1, bt110.2.1, bt110.2.2))) = some (r1, r2, r3) := by first | (rw [hy107]; with_reducible exact H) | (have H2_ := (Option.bind_some _ _).symm.trans H; rw [hy107]; with_reducible exact H2_) | (have H2_ := (Option.bind_some _ _).symm.trans H; with_reducible exact H2_) | with_reducible exact H | (rw [hy107]; exact H) | exact H
          have Ny107 := Zs0.mk hy107
          clear hy107
          replace H := Option.bind_eq_some_iff.mp H
          obtain ⟨⟨t110, t111, t112⟩, A110, H⟩ := H
          replace H : (some (t110, t111, t112)) = some (r1, r2, r3) := H
          have A11 := Zs0.mk A110
          clear A110
          simp only [Option.some.injEq, Prod.mk.injEq] at H
          obtain ⟨rfl, rfl, rfl⟩ := H
          go_wp2_with (first | ((with_reducible refine gtC (f := 64) rfl ?_); refine goesL_ (some 15) rfl rfl Tryd.func64 (by kernel_rfl) rfl #[.pointer (some ⟨g, 0, none⟩), .int .i64 3] rfl (by (try simp only [List.map_toArray, List.map_cons, List.map_nil]); first | done | rfl | (simp only [List.length_drop, List.length_take]; rfl)) ?_; (with_reducible refine (spec_l01Once.calls g s0_0 x1001_3 x1002_3 3 true t105 t106 w0 _ ?side1 ?side2 A9.out).mono ?_); (case side1 => repeat (first | (with_reducible first | exact HI0.out | apply IsS86.alloc | apply IsS86.drewN | apply IsS86.drew | apply IsS86.set_1 | apply IsS86.set_2) | exact HI0.out)); (case side2 => repeat (first | (with_reducible first | exact HB.out | apply blA | apply pbN | apply bl1 | refine blS ?_ (IsS86.ge HI0.out)) | exact HB.out)); rintro e w12 ⟨rfl, hi, hb, hk⟩; refine ⟨_, rfl, ?_⟩; have n0_ := Zs0.mk (KeepBut.trans (by repeat (first | (with_reducible first | exact HK.out | apply KeepBut.set_ | apply keep_drewN | apply keep_drew | apply keep_alloc) | exact HK.out)) hk (.inl rfl)); have n1_ := Zs0.mk (hb); have n2_ := Zs0.mk (hi); clear HK; clear HB; clear HI0; have HK := n0_; have HB := n1_; have HI0 := n2_; clear n0_ n1_ n2_; (try clear hb); (try clear hb2); (try clear hk); (try clear hi)) | ((with_reducible refine gtD (N := 21) rfl ?_); refine Kd.R_lit Kd.string _ 9 ?hg (N := 21) ?hd (xs := ([(⟨#[48]⟩ : ByteArray), (⟨#[49]⟩ : ByteArray), (⟨#[50]⟩ : ByteArray), (⟨#[51]⟩ : ByteArray), (⟨#[53]⟩ : ByteArray), (⟨#[103, 101, 116]⟩ : ByteArray)] : List ByteArray)) (inner := [.string (⟨#[48]⟩ : ByteArray), .string (⟨#[49]⟩ : ByteArray), .string (⟨#[50]⟩ : ByteArray), .string (⟨#[51]⟩ : ByteArray), .string (⟨#[53]⟩ : ByteArray), .string (⟨#[103, 101, 116]⟩ : ByteArray)]) (ok := fun _ => True) (okp := fun _ => True) ?hr ?hp (fun _ hk => hk) trivial (Below.refl _ _) (Nat.le_refl _) (by simp) ?_; (case hd => rfl); (case hg => rfl); (case hr => first | (go_simp; done) | (go_simp; rfl)); (case hp => exact (Reps.one (show Kd.M Kd.string _ _ _ (⟨#[48]⟩ : ByteArray) [.string (⟨#[48]⟩ : ByteArray)] from rfl) (Reps.one (show Kd.M Kd.string _ _ _ (⟨#[49]⟩ : ByteArray) [.string (⟨#[49]⟩ : ByteArray)] from rfl) (Reps.one (show Kd.M Kd.string _ _ _ (⟨#[50]⟩ : ByteArray) [.string (⟨#[50]⟩ : ByteArray)] from rfl) (Reps.one (show Kd.M Kd.string _ _ _ (⟨#[51]⟩ : ByteArray) [.string (⟨#[51]⟩ : ByteArray)] from rfl) (Reps.one (show Kd.M Kd.string _ _ _ (⟨#[53]⟩ : ByteArray) [.string (⟨#[53]⟩ : ByteArray)] from rfl) (Reps.one (show Kd.M Kd.string _ _ _ (⟨#[103, 101, 116]⟩ : ByteArray) [.string (⟨#[103, 101, 116]⟩ : ByteArray)] from rfl) (Reps.none _ _)))))))); intro v108 w13 ho14 hb hg_ hnew_; clear hg_ hnew_; (first | rw [← Ny107.out] at ho14 | (simp only [Int.reduceToNat] at ho14; rw [← Ny107.out] at ho14)); have n0_ := Zs0.mk (Kd.R_lower ho14 (keep_size (w := w) (g := g) (row := none) (by repeat (first | (with_reducible first | exact HK.out | apply KeepBut.set_ | apply keep_drewN | apply keep_drew | apply keep_alloc) | exact HK.out)))); have n1_ := Zs0.mk (IsS86.below (by repeat (first | (with_reducible first | exact HI0.out | apply IsS86.alloc | apply IsS86.drewN | apply IsS86.drew | apply IsS86.set_1 | apply IsS86.set_2) | exact HI0.out)) hb); have n2_ := Zs0.mk (KeepBut.trans (by repeat (first | (with_reducible first | exact HK.out | apply KeepBut.set_ | apply keep_drewN | apply keep_drew | apply keep_alloc) | exact HK.out)) (KeepBut.of_below hb g none) (.inl rfl)); have n3_ := Zs0.mk (blT (by repeat (first | (with_reducible first | exact HB.out | apply blA | apply pbN | apply bl1 | refine blS ?_ (IsS86.ge HI0.out)) | exact HB.out)) hb); clear HI0; clear HK; clear HB; have HO109 := n0_; have HI0 := n1_; have HK := n2_; have HB := n3_; clear n0_ n1_ n2_ n3_; clear hb ho14; obtain ⟨Ao15, co15, eo15⟩ := Kd.R_slice HO109.out; subst eo15) | ((with_reducible refine gtC (f := 62) rfl ?_); refine goesL_ (some 22) rfl rfl Tryd.func62 (by kernel_rfl) rfl #[.pointer (some ⟨g, 0, none⟩), .slice Ao15 y107.length co15] rfl (by (try simp only [List.map_toArray, List.map_cons, List.map_nil]); first | done | rfl | (simp only [List.length_drop, List.length_take]; rfl)) ?_; (with_reducible refine (spec_l01Pick.calls g s0_0 t105 t106 _ _ y107 t110 t111 t112 w0 _ ?side1 ?side2 ?side3 ?side4 ?side5 A11.out).mono ?_); (case side1 => repeat (first | (with_reducible first | exact HI0.out | apply IsS86.alloc | apply IsS86.drewN | apply IsS86.drew | apply IsS86.set_1 | apply IsS86.set_2) | exact HI0.out)); (case side2 => repeat (first | (with_reducible first | exact HB.out | apply blA | apply pbN | apply bl1 | refine blS ?_ (IsS86.ge HI0.out)) | exact HB.out)); (case side3 => repeat (first | exact (Kd.R_reads' HO109.out).2.2 | (with_reducible refine Kd.C_alloc ?_ _) | (with_reducible refine Kd.C_drewN ?_ _) | (with_reducible refine Kd.C_drew ?_))); (case side4 => exact (Kd.R_reads' HO109.out).2.1); (case side5 => exact far_slice (IsS86.own_ne HI0.out HO109.out (by decide))); rintro e w16 ⟨rfl, hi, hb, hk⟩; refine ⟨_, rfl, ?_⟩; have n0_ := Zs0.mk (Kd.R_mono (Kd.R_keep (IsS86.apart (show IsS86 w0 _ g s0_0 t105 t106 from by repeat (first | (with_reducible first | exact HI0.out | apply IsS86.alloc | apply IsS86.drewN | apply IsS86.drew | apply IsS86.set_1 | apply IsS86.set_2) | exact HI0.out)) (by (with_reducible repeat (first | apply Kd.R_alloc | apply Kd.R_drewN | apply Kd.R_drew)); exact HO109.out) (by decide)) hk (fun _ h => h.2)) (fun _ h => h.1)); have n1_ := Zs0.mk (KeepBut.trans (by repeat (first | (with_reducible first | exact HK.out | apply KeepBut.set_ | apply keep_drewN | apply keep_drew | apply keep_alloc) | exact HK.out)) hk (.inl rfl)); have n2_ := Zs0.mk (hb); have n3_ := Zs0.mk (hi); clear HO109; clear HK; clear HB; clear HI0; have HO109 := n0_; have HK := n1_; have HB := n2_; have HI0 := n3_; clear n0_ n1_ n2_ n3_; (try clear hb); (try clear hb2); (try clear hk); (try clear hi)))
          go_ret
          exact ⟨by first | rfl | (simp [eWn, eWs] <;> rfl) | (simp [*, eWn, eWs] <;> rfl), by repeat (first | (with_reducible first | exact HI0.out | apply IsS86.alloc | apply IsS86.drewN | apply IsS86.drew | apply IsS86.set_1 | apply IsS86.set_2) | exact HI0.out), by repeat (first | (with_reducible first | exact HB.out | apply blA | apply pbN | apply bl1 | refine blS ?_ (IsS86.ge HI0.out)) | exact HB.out), by repeat (first | (with_reducible first | exact HK.out | apply KeepBut.set_ | apply keep_drewN | apply keep_drew | apply keep_alloc) | exact HK.out)⟩
        · replace c10 := Bool.eq_false_iff.mpr c10
          subst c10
          have H1 : ((spec_l01Pick.f s0_0 t105 t106 l1).bind fun bt113 => (some (bt113.1, bt113.2.1, bt113.2.2))) = some (r1, r2, r3) := by rw [if_neg (show ¬ (false = true) by decide)] at H; exact H
          clear H
          have H := H1
          clear H1
          replace H := Option.bind_eq_some_iff.mp H
          obtain ⟨⟨t113, t114, t115⟩, A170, H⟩ := H
          replace H : (some (t113, t114, t115)) = some (r1, r2, r3) := H
          have A17 := Zs0.mk A170
          clear A170
          simp only [Option.some.injEq, Prod.mk.injEq] at H
          obtain ⟨rfl, rfl, rfl⟩ := H
          go_wp2_with (first | ((with_reducible refine gtC (f := 64) rfl ?_); refine goesL_ (some 15) rfl rfl Tryd.func64 (by kernel_rfl) rfl #[.pointer (some ⟨g, 0, none⟩), .int .i64 3] rfl (by (try simp only [List.map_toArray, List.map_cons, List.map_nil]); first | done | rfl | (simp only [List.length_drop, List.length_take]; rfl)) ?_; (with_reducible refine (spec_l01Once.calls g s0_0 x1001_3 x1002_3 3 false t105 t106 w0 _ ?side1 ?side2 A9.out).mono ?_); (case side1 => repeat (first | (with_reducible first | exact HI0.out | apply IsS86.alloc | apply IsS86.drewN | apply IsS86.drew | apply IsS86.set_1 | apply IsS86.set_2) | exact HI0.out)); (case side2 => repeat (first | (with_reducible first | exact HB.out | apply blA | apply pbN | apply bl1 | refine blS ?_ (IsS86.ge HI0.out)) | exact HB.out)); rintro e w18 ⟨rfl, hi, hb, hk⟩; refine ⟨_, rfl, ?_⟩; have n0_ := Zs0.mk (KeepBut.trans (by repeat (first | (with_reducible first | exact HK.out | apply KeepBut.set_ | apply keep_drewN | apply keep_drew | apply keep_alloc) | exact HK.out)) hk (.inl rfl)); have n1_ := Zs0.mk (hb); have n2_ := Zs0.mk (hi); clear HK; clear HB; clear HI0; have HK := n0_; have HB := n1_; have HI0 := n2_; clear n0_ n1_ n2_; (try clear hb); (try clear hb2); (try clear hk); (try clear hi)) | ((with_reducible refine gtC (f := 62) rfl ?_); refine goesL_ (some 19) rfl rfl Tryd.func62 (by kernel_rfl) rfl #[.pointer (some ⟨g, 0, none⟩), .slice A1 l1.length c1] rfl (by (try simp only [List.map_toArray, List.map_cons, List.map_nil]); first | done | rfl | (simp only [List.length_drop, List.length_take]; rfl)) ?_; (with_reducible refine (spec_l01Pick.calls g s0_0 t105 t106 _ _ l1 t113 t114 t115 w0 _ ?side1 ?side2 ?side3 ?side4 ?side5 A17.out).mono ?_); (case side1 => repeat (first | (with_reducible first | exact HI0.out | apply IsS86.alloc | apply IsS86.drewN | apply IsS86.drew | apply IsS86.set_1 | apply IsS86.set_2) | exact HI0.out)); (case side2 => repeat (first | (with_reducible first | exact HB.out | apply blA | apply pbN | apply bl1 | refine blS ?_ (IsS86.ge HI0.out)) | exact HB.out)); (case side3 => exact Kd.C_keep (⟨#[]⟩ : ByteArray) HR1.out (by repeat (first | (with_reducible first | exact HK.out | apply KeepBut.set_ | apply keep_drewN | apply keep_drew | apply keep_alloc) | exact HK.out)) hf1); (case side4 => exact HC1.out); (case side5 => exact hf1); rintro e w19 ⟨rfl, hi, hb, hk⟩; refine ⟨_, rfl, ?_⟩; have n0_ := Zs0.mk (KeepBut.trans (by repeat (first | (with_reducible first | exact HK.out | apply KeepBut.set_ | apply keep_drewN | apply keep_drew | apply keep_alloc) | exact HK.out)) hk (.inl rfl)); have n1_ := Zs0.mk (hb); have n2_ := Zs0.mk (hi); clear HK; clear HB; clear HI0; have HK := n0_; have HB := n1_; have HI0 := n2_; clear n0_ n1_ n2_; (try clear hb); (try clear hb2); (try clear hk); (try clear hi)))
          go_ret
          exact ⟨by first | rfl | (simp [eWn, eWs] <;> rfl) | (simp [*, eWn, eWs] <;> rfl), by repeat (first | (with_reducible first | exact HI0.out | apply IsS86.alloc | apply IsS86.drewN | apply IsS86.drew | apply IsS86.set_1 | apply IsS86.set_2) | exact HI0.out), by repeat (first | (with_reducible first | exact HB.out | apply blA | apply pbN | apply bl1 | refine blS ?_ (IsS86.ge HI0.out)) | exact HB.out), by repeat (first | (with_reducible first | exact HK.out | apply KeepBut.set_ | apply keep_drewN | apply keep_drew | apply keep_alloc) | exact HK.out)⟩
      · replace c8 := Bool.eq_false_iff.mpr c8
        subst c8
        have H1 : ((spec_l01Exp.f kj3 s0_0 x1001_3 x1002_3 l1 (wrap64 (a2 - 1))).bind fun bt116 => ((spec_l01Below.f s0_0 bt116.2.1 bt116.2.2 6).bind fun bt119 => (if bt119.1 = 0 then ((spec_l01Pick.f s0_0 bt119.2.1 bt119.2.2 (([(⟨#[97]⟩ : ByteArray), (⟨#[98]⟩ : ByteArray), (⟨#[112]⟩ : ByteArray)] : List ByteArray))).bind fun bt125 => (if bt125.1.size + 1 ≤ 9223372036854775807 then ((spec_l01Pick.f s0_0 bt125.2.1 bt125.2.2 (([(⟨#[48]⟩ : ByteArray), (⟨#[49]⟩ : ByteArray), (⟨#[120]⟩ : ByteArray), (⟨#[120, 32, 43, 32, 49]⟩ : ByteArray), (⟨#[121, 32, 38, 32, 51]⟩ : ByteArray), (⟨#[50]⟩ : ByteArray), bt116.1] : List ByteArray))).bind fun bt131 => (if (bt125.1 ++ (⟨#[91]⟩ : ByteArray)).size + bt131.1.size ≤ 9223372036854775807 then (if ((bt125.1 ++ (⟨#[91]⟩ : ByteArray)) ++ bt131.1).size + 1 ≤ 9223372036854775807 then (some (((bt125.1 ++ (⟨#[91]⟩ : ByteArray)) ++ bt131.1) ++ (⟨#[93]⟩ : ByteArray), bt131.2.1, bt131.2.2)) else (none)) else (none))) else (none))) else (if bt119.1 = 1 then (spec_l01Exp.j1 kj3 l1 a2 bt116.1 bt119.1 (bt119.1 == 1) s0_0 bt119.2.1 bt119.2.2) else (spec_l01Exp.j1 kj3 l1 a2 bt116.1 bt119.1 (bt119.1 == 2) s0_0 bt119.2.1 bt119.2.2))))) = some (r1, r2, r3) := by rw [if_neg (show ¬ (false = true) by decide)] at H; exact H
        clear H
        have H := H1
        clear H1
        replace H := Option.bind_eq_some_iff.mp H
        obtain ⟨⟨t116, t117, t118⟩, A200, H⟩ := H
        replace H : ((spec_l01Below.f s0_0 t117 t118 6).bind fun bt119 => (if bt119.1 = 0 then ((spec_l01Pick.f s0_0 bt119.2.1 bt119.2.2 (([(⟨#[97]⟩ : ByteArray), (⟨#[98]⟩ : ByteArray), (⟨#[112]⟩ : ByteArray)] : List ByteArray))).bind fun bt125 => (if bt125.1.size + 1 ≤ 9223372036854775807 then ((spec_l01Pick.f s0_0 bt125.2.1 bt125.2.2 (([(⟨#[48]⟩ : ByteArray), (⟨#[49]⟩ : ByteArray), (⟨#[120]⟩ : ByteArray), (⟨#[120, 32, 43, 32, 49]⟩ : ByteArray), (⟨#[121, 32, 38, 32, 51]⟩ : ByteArray), (⟨#[50]⟩ : ByteArray), t116] : List ByteArray))).bind fun bt131 => (if (bt125.1 ++ (⟨#[91]⟩ : ByteArray)).size + bt131.1.size ≤ 9223372036854775807 then (if ((bt125.1 ++ (⟨#[91]⟩ : ByteArray)) ++ bt131.1).size + 1 ≤ 9223372036854775807 then (some (((bt125.1 ++ (⟨#[91]⟩ : ByteArray)) ++ bt131.1) ++ (⟨#[93]⟩ : ByteArray), bt131.2.1, bt131.2.2)) else (none)) else (none))) else (none))) else (if bt119.1 = 1 then (spec_l01Exp.j1 kj3 l1 a2 t116 bt119.1 (bt119.1 == 1) s0_0 bt119.2.1 bt119.2.2) else (spec_l01Exp.j1 kj3 l1 a2 t116 bt119.1 (bt119.1 == 2) s0_0 bt119.2.1 bt119.2.2)))) = some (r1, r2, r3) := H
        have A20 := Zs0.mk A200
        clear A200
        replace H := Option.bind_eq_some_iff.mp H
        obtain ⟨⟨t119, t120, t121⟩, A210, H⟩ := H
        replace H : (if t119 = 0 then ((spec_l01Pick.f s0_0 t120 t121 (([(⟨#[97]⟩ : ByteArray), (⟨#[98]⟩ : ByteArray), (⟨#[112]⟩ : ByteArray)] : List ByteArray))).bind fun bt125 => (if bt125.1.size + 1 ≤ 9223372036854775807 then ((spec_l01Pick.f s0_0 bt125.2.1 bt125.2.2 (([(⟨#[48]⟩ : ByteArray), (⟨#[49]⟩ : ByteArray), (⟨#[120]⟩ : ByteArray), (⟨#[120, 32, 43, 32, 49]⟩ : ByteArray), (⟨#[121, 32, 38, 32, 51]⟩ : ByteArray), (⟨#[50]⟩ : ByteArray), t116] : List ByteArray))).bind fun bt131 => (if (bt125.1 ++ (⟨#[91]⟩ : ByteArray)).size + bt131.1.size ≤ 9223372036854775807 then (if ((bt125.1 ++ (⟨#[91]⟩ : ByteArray)) ++ bt131.1).size + 1 ≤ 9223372036854775807 then (some (((bt125.1 ++ (⟨#[91]⟩ : ByteArray)) ++ bt131.1) ++ (⟨#[93]⟩ : ByteArray), bt131.2.1, bt131.2.2)) else (none)) else (none))) else (none))) else (if t119 = 1 then (spec_l01Exp.j1 kj3 l1 a2 t116 t119 (t119 == 1) s0_0 t120 t121) else (spec_l01Exp.j1 kj3 l1 a2 t116 t119 (t119 == 2) s0_0 t120 t121))) = some (r1, r2, r3) := H
        have A21 := Zs0.mk A210
        clear A210
        by_cases c22 : t119 = 0
        · rw [if_pos c22] at H
          have c22b0 : (t119 == 0) = true := beq_iff_eq.mpr c22
          have c22b1 : (t119 != 0) = false := bne_eq_false_iff_eq.mpr c22
          clear c22
          obtain ⟨y122, hy122⟩ : ∃ y_ : List ByteArray, y_ = (([(⟨#[97]⟩ : ByteArray), (⟨#[98]⟩ : ByteArray), (⟨#[112]⟩ : ByteArray)] : List ByteArray)) := ⟨_, rfl⟩
          replace H : ((spec_l01Pick.f s0_0 t120 t121 y122).bind fun bt125 => (if bt125.1.size + 1 ≤ 9223372036854775807 then ((spec_l01Pick.f s0_0 bt125.2.1 bt125.2.2 (([(⟨#[48]⟩ : ByteArray), (⟨#[49]⟩ : ByteArray), (⟨#[120]⟩ : ByteArray), (⟨#[120, 32, 43, 32, 49]⟩ : ByteArray), (⟨#[121, 32, 38, 32, 51]⟩ : ByteArray), (⟨#[50]⟩ : ByteArray), t116] : List ByteArray))).bind fun bt131 => (if (bt125.1 ++ (⟨#[91]⟩ : ByteArray)).size + bt131.1.size ≤ 9223372036854775807 then (if ((bt125.1 ++ (⟨#[91]⟩ : ByteArray)) ++ bt131.1).size + 1 ≤ 9223372036854775807 then (some (((bt125.1 ++ (⟨#[91]⟩ : ByteArray)) ++ bt131.1) ++ (⟨#[93]⟩ : ByteArray), bt131.2.1, bt131.2.2)) else (none)) else (none))) else (none))) = some (r1, r2, r3) := by first | (rw [hy122]; with_reducible exact H) | (have H2_ := (Option.bind_some _ _).symm.trans H; rw [hy122]; with_reducible exact H2_) | (have H2_ := (Option.bind_some _ _).symm.trans H; with_reducible exact H2_) | with_reducible exact H | (rw [hy122]; exact H) | exact H
          have Ny122 := Zs0.mk hy122
          clear hy122
          replace H := Option.bind_eq_some_iff.mp H
          obtain ⟨⟨t125, t126, t127⟩, A230, H⟩ := H
          replace H : (if t125.size + 1 ≤ 9223372036854775807 then ((spec_l01Pick.f s0_0 t126 t127 (([(⟨#[48]⟩ : ByteArray), (⟨#[49]⟩ : ByteArray), (⟨#[120]⟩ : ByteArray), (⟨#[120, 32, 43, 32, 49]⟩ : ByteArray), (⟨#[121, 32, 38, 32, 51]⟩ : ByteArray), (⟨#[50]⟩ : ByteArray), t116] : List ByteArray))).bind fun bt131 => (if (t125 ++ (⟨#[91]⟩ : ByteArray)).size + bt131.1.size ≤ 9223372036854775807 then (if ((t125 ++ (⟨#[91]⟩ : ByteArray)) ++ bt131.1).size + 1 ≤ 9223372036854775807 then (some (((t125 ++ (⟨#[91]⟩ : ByteArray)) ++ bt131.1) ++ (⟨#[93]⟩ : ByteArray), bt131.2.1, bt131.2.2)) else (none)) else (none))) else (none)) = some (r1, r2, r3) := H
          have A23 := Zs0.mk A230
          clear A230
          have c24 := ipos H
          rw [if_pos c24] at H
          have c24b0 := eq_true c24
          have c24b1 := decide_eq_true c24
          try have c24b2 := eq_false (Nat.not_lt.2 c24)
          obtain ⟨y128, hy128⟩ : ∃ y_ : List ByteArray, y_ = (([(⟨#[48]⟩ : ByteArray), (⟨#[49]⟩ : ByteArray), (⟨#[120]⟩ : ByteArray), (⟨#[120, 32, 43, 32, 49]⟩ : ByteArray), (⟨#[121, 32, 38, 32, 51]⟩ : ByteArray), (⟨#[50]⟩ : ByteArray), t116] : List ByteArray)) := ⟨_, rfl⟩
          replace H : ((spec_l01Pick.f s0_0 t126 t127 y128).bind fun bt131 => (if (t125 ++ (⟨#[91]⟩ : ByteArray)).size + bt131.1.size ≤ 9223372036854775807 then (if ((t125 ++ (⟨#[91]⟩ : ByteArray)) ++ bt131.1).size + 1 ≤ 9223372036854775807 then (some (((t125 ++ (⟨#[91]⟩ : ByteArray)) ++ bt131.1) ++ (⟨#[93]⟩ : ByteArray), bt131.2.1, bt131.2.2)) else (none)) else (none))) = some (r1, r2, r3) := by first | (rw [hy128]; with_reducible exact H) | (have H2_ := (Option.bind_some _ _).symm.trans H; rw [hy128]; with_reducible exact H2_) | (have H2_ := (Option.bind_some _ _).symm.trans H; with_reducible exact H2_) | with_reducible exact H | (rw [hy128]; exact H) | exact H
          have Ny128 := Zs0.mk hy128
          clear hy128
          replace H := Option.bind_eq_some_iff.mp H
          obtain ⟨⟨t131, t132, t133⟩, A250, H⟩ := H
          replace H : (if (t125 ++ (⟨#[91]⟩ : ByteArray)).size + t131.size ≤ 9223372036854775807 then (if ((t125 ++ (⟨#[91]⟩ : ByteArray)) ++ t131).size + 1 ≤ 9223372036854775807 then (some (((t125 ++ (⟨#[91]⟩ : ByteArray)) ++ t131) ++ (⟨#[93]⟩ : ByteArray), t132, t133)) else (none)) else (none)) = some (r1, r2, r3) := H
          have A25 := Zs0.mk A250
          clear A250
          have c26 := ipos H
          rw [if_pos c26] at H
          have c26b0 := eq_true c26
          have c26b1 := decide_eq_true c26
          try have c26b2 := eq_false (Nat.not_lt.2 c26)
          have c26n0 : t125.size + 1 + t131.size ≤ 9223372036854775807 := by have h_ := c26; simp only [ByteArray.size_append] at h_; exact h_
          have c26n1 := eq_true c26n0
          have c26n2 := eq_false (Nat.not_lt.2 c26n0)
          have c27 := ipos H
          rw [if_pos c27] at H
          have c27b0 := eq_true c27
          have c27b1 := decide_eq_true c27
          try have c27b2 := eq_false (Nat.not_lt.2 c27)
          have c27n0 : t125.size + 1 + t131.size + 1 ≤ 9223372036854775807 := by have h_ := c27; simp only [ByteArray.size_append] at h_; exact h_
          have c27n1 := eq_true c27n0
          have c27n2 := eq_false (Nat.not_lt.2 c27n0)
          simp only [Option.some.injEq, Prod.mk.injEq] at H
          obtain ⟨rfl, rfl, rfl⟩ := H
          go_wp2_with (first | ((with_reducible refine gtC (f := 91) rfl ?_); refine goesL_ (some 27) rfl rfl Tryd.func91 (by kernel_rfl) rfl #[.pointer (some ⟨g, 0, none⟩), .slice A1 l1.length c1, .int .i64 (wrap64 (a2 - 1))] rfl (by (try simp only [List.map_toArray, List.map_cons, List.map_nil]); first | done | rfl | (simp only [List.length_drop, List.length_take]; rfl)) ?_; (with_reducible refine (ih kj3 (by have := HJ3.out; omega) g s0_0 x1001_3 x1002_3 _ _ l1 (wrap64 (a2 - 1)) t116 t117 t118 w0 _ ?side1 ?side2 ?side3 ?side4 ?side5 A20.out).mono ?_); (case side1 => repeat (first | (with_reducible first | exact HI0.out | apply IsS86.alloc | apply IsS86.drewN | apply IsS86.drew | apply IsS86.set_1 | apply IsS86.set_2) | exact HI0.out)); (case side2 => repeat (first | (with_reducible first | exact HB.out | apply blA | apply pbN | apply bl1 | refine blS ?_ (IsS86.ge HI0.out)) | exact HB.out)); (case side3 => exact Kd.C_keep (⟨#[]⟩ : ByteArray) HR1.out (by repeat (first | (with_reducible first | exact HK.out | apply KeepBut.set_ | apply keep_drewN | apply keep_drew | apply keep_alloc) | exact HK.out)) hf1); (case side4 => exact HC1.out); (case side5 => exact hf1); rintro e w28 ⟨rfl, hi, hb, hk⟩; refine ⟨_, rfl, ?_⟩; have n0_ := Zs0.mk (KeepBut.trans (by repeat (first | (with_reducible first | exact HK.out | apply KeepBut.set_ | apply keep_drewN | apply keep_drew | apply keep_alloc) | exact HK.out)) hk (.inl rfl)); have n1_ := Zs0.mk (hb); have n2_ := Zs0.mk (hi); clear HK; clear HB; clear HI0; have HK := n0_; have HB := n1_; have HI0 := n2_; clear n0_ n1_ n2_; (try clear hb); (try clear hb2); (try clear hk); (try clear hi)) | ((with_reducible refine gtC (f := 60) rfl ?_); refine goesL_ (some 29) rfl rfl Tryd.func60 (by kernel_rfl) rfl #[.pointer (some ⟨g, 0, none⟩), .int .i64 6] rfl (by (try simp only [List.map_toArray, List.map_cons, List.map_nil]); first | done | rfl | (simp only [List.length_drop, List.length_take]; rfl)) ?_; (with_reducible refine (spec_l01Below.calls g s0_0 t117 t118 6 t119 t120 t121 w0 _ ?side1 ?side2 A21.out).mono ?_); (case side1 => repeat (first | (with_reducible first | exact HI0.out | apply IsS86.alloc | apply IsS86.drewN | apply IsS86.drew | apply IsS86.set_1 | apply IsS86.set_2) | exact HI0.out)); (case side2 => repeat (first | (with_reducible first | exact HB.out | apply blA | apply pbN | apply bl1 | refine blS ?_ (IsS86.ge HI0.out)) | exact HB.out)); rintro e w29 ⟨rfl, hi, hb, hk⟩; refine ⟨_, rfl, ?_⟩; have n0_ := Zs0.mk (KeepBut.trans (by repeat (first | (with_reducible first | exact HK.out | apply KeepBut.set_ | apply keep_drewN | apply keep_drew | apply keep_alloc) | exact HK.out)) hk (.inl rfl)); have n1_ := Zs0.mk (hb); have n2_ := Zs0.mk (hi); clear HK; clear HB; clear HI0; have HK := n0_; have HB := n1_; have HI0 := n2_; clear n0_ n1_ n2_; (try clear hb); (try clear hb2); (try clear hk); (try clear hi)) | ((with_reducible refine gtD (N := 33) rfl ?_); refine Kd.R_lit Kd.string _ 9 ?hg (N := 33) ?hd (xs := ([(⟨#[97]⟩ : ByteArray), (⟨#[98]⟩ : ByteArray), (⟨#[112]⟩ : ByteArray)] : List ByteArray)) (inner := [.string (⟨#[97]⟩ : ByteArray), .string (⟨#[98]⟩ : ByteArray), .string (⟨#[112]⟩ : ByteArray)]) (ok := fun _ => True) (okp := fun _ => True) ?hr ?hp (fun _ hk => hk) trivial (Below.refl _ _) (Nat.le_refl _) (by simp) ?_; (case hd => rfl); (case hg => rfl); (case hr => first | (go_simp; done) | (go_simp; rfl)); (case hp => exact (Reps.one (show Kd.M Kd.string _ _ _ (⟨#[97]⟩ : ByteArray) [.string (⟨#[97]⟩ : ByteArray)] from rfl) (Reps.one (show Kd.M Kd.string _ _ _ (⟨#[98]⟩ : ByteArray) [.string (⟨#[98]⟩ : ByteArray)] from rfl) (Reps.one (show Kd.M Kd.string _ _ _ (⟨#[112]⟩ : ByteArray) [.string (⟨#[112]⟩ : ByteArray)] from rfl) (Reps.none _ _))))); intro v123 w30 ho31 hb hg_ hnew_; clear hg_ hnew_; (first | rw [← Ny122.out] at ho31 | (simp only [Int.reduceToNat] at ho31; rw [← Ny122.out] at ho31)); have n0_ := Zs0.mk (Kd.R_lower ho31 (keep_size (w := w) (g := g) (row := none) (by repeat (first | (with_reducible first | exact HK.out | apply KeepBut.set_ | apply keep_drewN | apply keep_drew | apply keep_alloc) | exact HK.out)))); have n1_ := Zs0.mk (IsS86.below (by repeat (first | (with_reducible first | exact HI0.out | apply IsS86.alloc | apply IsS86.drewN | apply IsS86.drew | apply IsS86.set_1 | apply IsS86.set_2) | exact HI0.out)) hb); have n2_ := Zs0.mk (KeepBut.trans (by repeat (first | (with_reducible first | exact HK.out | apply KeepBut.set_ | apply keep_drewN | apply keep_drew | apply keep_alloc) | exact HK.out)) (KeepBut.of_below hb g none) (.inl rfl)); have n3_ := Zs0.mk (blT (by repeat (first | (with_reducible first | exact HB.out | apply blA | apply pbN | apply bl1 | refine blS ?_ (IsS86.ge HI0.out)) | exact HB.out)) hb); clear HI0; clear HK; clear HB; have HO124 := n0_; have HI0 := n1_; have HK := n2_; have HB := n3_; clear n0_ n1_ n2_ n3_; clear hb ho31; obtain ⟨Ao32, co32, eo32⟩ := Kd.R_slice HO124.out; subst eo32) | ((with_reducible refine gtC (f := 62) rfl ?_); refine goesL_ (some 34) rfl rfl Tryd.func62 (by kernel_rfl) rfl #[.pointer (some ⟨g, 0, none⟩), .slice Ao32 y122.length co32] rfl (by (try simp only [List.map_toArray, List.map_cons, List.map_nil]); first | done | rfl | (simp only [List.length_drop, List.length_take]; rfl)) ?_; (with_reducible refine (spec_l01Pick.calls g s0_0 t120 t121 _ _ y122 t125 t126 t127 w0 _ ?side1 ?side2 ?side3 ?side4 ?side5 A23.out).mono ?_); (case side1 => repeat (first | (with_reducible first | exact HI0.out | apply IsS86.alloc | apply IsS86.drewN | apply IsS86.drew | apply IsS86.set_1 | apply IsS86.set_2) | exact HI0.out)); (case side2 => repeat (first | (with_reducible first | exact HB.out | apply blA | apply pbN | apply bl1 | refine blS ?_ (IsS86.ge HI0.out)) | exact HB.out)); (case side3 => repeat (first | exact (Kd.R_reads' HO124.out).2.2 | (with_reducible refine Kd.C_alloc ?_ _) | (with_reducible refine Kd.C_drewN ?_ _) | (with_reducible refine Kd.C_drew ?_))); (case side4 => exact (Kd.R_reads' HO124.out).2.1); (case side5 => exact far_slice (IsS86.own_ne HI0.out HO124.out (by decide))); rintro e w33 ⟨rfl, hi, hb, hk⟩; refine ⟨_, rfl, ?_⟩; have n0_ := Zs0.mk (Kd.R_mono (Kd.R_keep (IsS86.apart (show IsS86 w0 _ g s0_0 t120 t121 from by repeat (first | (with_reducible first | exact HI0.out | apply IsS86.alloc | apply IsS86.drewN | apply IsS86.drew | apply IsS86.set_1 | apply IsS86.set_2) | exact HI0.out)) (by (with_reducible repeat (first | apply Kd.R_alloc | apply Kd.R_drewN | apply Kd.R_drew)); exact HO124.out) (by decide)) hk (fun _ h => h.2)) (fun _ h => h.1)); have n1_ := Zs0.mk (KeepBut.trans (by repeat (first | (with_reducible first | exact HK.out | apply KeepBut.set_ | apply keep_drewN | apply keep_drew | apply keep_alloc) | exact HK.out)) hk (.inl rfl)); have n2_ := Zs0.mk (hb); have n3_ := Zs0.mk (hi); clear HO124; clear HK; clear HB; clear HI0; have HO124 := n0_; have HK := n1_; have HB := n2_; have HI0 := n3_; clear n0_ n1_ n2_ n3_; (try clear hb); (try clear hb2); (try clear hk); (try clear hi)) | ((with_reducible refine gtD (N := 38) rfl ?_); refine Kd.R_lit Kd.string _ 9 ?hg (N := 38) ?hd (xs := ([(⟨#[48]⟩ : ByteArray), (⟨#[49]⟩ : ByteArray), (⟨#[120]⟩ : ByteArray), (⟨#[120, 32, 43, 32, 49]⟩ : ByteArray), (⟨#[121, 32, 38, 32, 51]⟩ : ByteArray), (⟨#[50]⟩ : ByteArray), t116] : List ByteArray)) (inner := [.string (⟨#[48]⟩ : ByteArray), .string (⟨#[49]⟩ : ByteArray), .string (⟨#[120]⟩ : ByteArray), .string (⟨#[120, 32, 43, 32, 49]⟩ : ByteArray), .string (⟨#[121, 32, 38, 32, 51]⟩ : ByteArray), .string (⟨#[50]⟩ : ByteArray), .string t116]) (ok := fun _ => True) (okp := fun _ => True) ?hr ?hp (fun _ hk => hk) trivial (Below.refl _ _) (Nat.le_refl _) (by simp) ?_; (case hd => rfl); (case hg => rfl); (case hr => first | (go_simp; done) | (go_simp; rfl)); (case hp => exact (Reps.one (show Kd.M Kd.string _ _ _ (⟨#[48]⟩ : ByteArray) [.string (⟨#[48]⟩ : ByteArray)] from rfl) (Reps.one (show Kd.M Kd.string _ _ _ (⟨#[49]⟩ : ByteArray) [.string (⟨#[49]⟩ : ByteArray)] from rfl) (Reps.one (show Kd.M Kd.string _ _ _ (⟨#[120]⟩ : ByteArray) [.string (⟨#[120]⟩ : ByteArray)] from rfl) (Reps.one (show Kd.M Kd.string _ _ _ (⟨#[120, 32, 43, 32, 49]⟩ : ByteArray) [.string (⟨#[120, 32, 43, 32, 49]⟩ : ByteArray)] from rfl) (Reps.one (show Kd.M Kd.string _ _ _ (⟨#[121, 32, 38, 32, 51]⟩ : ByteArray) [.string (⟨#[121, 32, 38, 32, 51]⟩ : ByteArray)] from rfl) (Reps.one (show Kd.M Kd.string _ _ _ (⟨#[50]⟩ : ByteArray) [.string (⟨#[50]⟩ : ByteArray)] from rfl) (Reps.one (show Kd.M Kd.string _ _ _ t116 [.string t116] from rfl) (Reps.none _ _))))))))); intro v129 w34 ho35 hb hg_ hnew_; clear hg_ hnew_; (first | rw [← Ny128.out] at ho35 | (simp only [Int.reduceToNat] at ho35; rw [← Ny128.out] at ho35)); have n0_ := Zs0.mk (Kd.R_elder' (by (with_reducible repeat (first | apply Kd.R_alloc | apply Kd.R_drewN | apply Kd.R_drew)); exact HO124.out) (Kd.R_base ho35) hb); have n1_ := Zs0.mk (Kd.R_lower (Kd.R_new' ho35 (Kd.R_lt (by (with_reducible repeat (first | apply Kd.R_alloc | apply Kd.R_drewN | apply Kd.R_drew)); exact HO124.out))) (keep_size (w := w) (g := g) (row := none) (by repeat (first | (with_reducible first | exact HK.out | apply KeepBut.set_ | apply keep_drewN | apply keep_drew | apply keep_alloc) | exact HK.out)))); have n2_ := Zs0.mk (IsS86.below (by repeat (first | (with_reducible first | exact HI0.out | apply IsS86.alloc | apply IsS86.drewN | apply IsS86.drew | apply IsS86.set_1 | apply IsS86.set_2) | exact HI0.out)) hb); have n3_ := Zs0.mk (KeepBut.trans (by repeat (first | (with_reducible first | exact HK.out | apply KeepBut.set_ | apply keep_drewN | apply keep_drew | apply keep_alloc) | exact HK.out)) (KeepBut.of_below hb g none) (.inl rfl)); have n4_ := Zs0.mk (blT (by repeat (first | (with_reducible first | exact HB.out | apply blA | apply pbN | apply bl1 | refine blS ?_ (IsS86.ge HI0.out)) | exact HB.out)) hb); clear HO124; clear HI0; clear HK; clear HB; have HO124 := n0_; have HO130 := n1_; have HI0 := n2_; have HK := n3_; have HB := n4_; clear n0_ n1_ n2_ n3_ n4_; clear hb ho35; obtain ⟨Ao36, co36, eo36⟩ := Kd.R_slice HO130.out; subst eo36) | ((with_reducible refine gtC (f := 62) rfl ?_); refine goesL_ (some 39) rfl rfl Tryd.func62 (by kernel_rfl) rfl #[.pointer (some ⟨g, 0, none⟩), .slice Ao36 y128.length co36] rfl (by (try simp only [List.map_toArray, List.map_cons, List.map_nil]); first | done | rfl | (simp only [List.length_drop, List.length_take]; rfl)) ?_; (with_reducible refine (spec_l01Pick.calls g s0_0 t126 t127 _ _ y128 t131 t132 t133 w0 _ ?side1 ?side2 ?side3 ?side4 ?side5 A25.out).mono ?_); (case side1 => repeat (first | (with_reducible first | exact HI0.out | apply IsS86.alloc | apply IsS86.drewN | apply IsS86.drew | apply IsS86.set_1 | apply IsS86.set_2) | exact HI0.out)); (case side2 => repeat (first | (with_reducible first | exact HB.out | apply blA | apply pbN | apply bl1 | refine blS ?_ (IsS86.ge HI0.out)) | exact HB.out)); (case side3 => repeat (first | exact (Kd.R_reads' HO130.out).2.2 | (with_reducible refine Kd.C_alloc ?_ _) | (with_reducible refine Kd.C_drewN ?_ _) | (with_reducible refine Kd.C_drew ?_))); (case side4 => exact (Kd.R_reads' HO130.out).2.1); (case side5 => exact far_slice (IsS86.own_ne HI0.out HO130.out (by decide))); rintro e w37 ⟨rfl, hi, hb, hk⟩; refine ⟨_, rfl, ?_⟩; have n0_ := Zs0.mk (Kd.R_mono (Kd.R_keep (IsS86.apart (show IsS86 w0 _ g s0_0 t126 t127 from by repeat (first | (with_reducible first | exact HI0.out | apply IsS86.alloc | apply IsS86.drewN | apply IsS86.drew | apply IsS86.set_1 | apply IsS86.set_2) | exact HI0.out)) (by (with_reducible repeat (first | apply Kd.R_alloc | apply Kd.R_drewN | apply Kd.R_drew)); exact HO124.out) (by decide)) hk (fun _ h => h.2)) (fun _ h => h.1)); have n1_ := Zs0.mk (Kd.R_mono (Kd.R_keep (IsS86.apart (show IsS86 w0 _ g s0_0 t126 t127 from by repeat (first | (with_reducible first | exact HI0.out | apply IsS86.alloc | apply IsS86.drewN | apply IsS86.drew | apply IsS86.set_1 | apply IsS86.set_2) | exact HI0.out)) (by (with_reducible repeat (first | apply Kd.R_alloc | apply Kd.R_drewN | apply Kd.R_drew)); exact HO130.out) (by decide)) hk (fun _ h => h.2)) (fun _ h => h.1)); have n2_ := Zs0.mk (KeepBut.trans (by repeat (first | (with_reducible first | exact HK.out | apply KeepBut.set_ | apply keep_drewN | apply keep_drew | apply keep_alloc) | exact HK.out)) hk (.inl rfl)); have n3_ := Zs0.mk (hb); have n4_ := Zs0.mk (hi); clear HO124; clear HO130; clear HK; clear HB; clear HI0; have HO124 := n0_; have HO130 := n1_; have HK := n2_; have HB := n3_; have HI0 := n4_; clear n0_ n1_ n2_ n3_ n4_; (try clear hb); (try clear hb2); (try clear hk); (try clear hi)))
          go_ret
          exact ⟨by first | rfl | (simp [eWn, eWs] <;> rfl) | (simp [*, eWn, eWs] <;> rfl), by repeat (first | (with_reducible first | exact HI0.out | apply IsS86.alloc | apply IsS86.drewN | apply IsS86.drew | apply IsS86.set_1 | apply IsS86.set_2) | exact HI0.out), by repeat (first | (with_reducible first | exact HB.out | apply blA | apply pbN | apply bl1 | refine blS ?_ (IsS86.ge HI0.out)) | exact HB.out), by repeat (first | (with_reducible first | exact HK.out | apply KeepBut.set_ | apply keep_drewN | apply keep_drew | apply keep_alloc) | exact HK.out)⟩
        · rw [if_neg c22] at H
          have c22b0 : (t119 == 0) = false := beq_eq_false_iff_ne.mpr c22
          have c22b1 : (t119 != 0) = true := bne_iff_ne.mpr c22
          have HC38 := Zs0.mk H
          clear H
          go_upto_if 42 with (first | ((with_reducible refine gtC (f := 91) rfl ?_); refine goesL_ (some 27) rfl rfl Tryd.func91 (by kernel_rfl) rfl #[.pointer (some ⟨g, 0, none⟩), .slice A1 l1.length c1, .int .i64 (wrap64 (a2 - 1))] rfl (by (try simp only [List.map_toArray, List.map_cons, List.map_nil]); first | done | rfl | (simp only [List.length_drop, List.length_take]; rfl)) ?_; (with_reducible refine (ih kj3 (by have := HJ3.out; omega) g s0_0 x1001_3 x1002_3 _ _ l1 (wrap64 (a2 - 1)) t116 t117 t118 w0 _ ?side1 ?side2 ?side3 ?side4 ?side5 A20.out).mono ?_); (case side1 => repeat (first | (with_reducible first | exact HI0.out | apply IsS86.alloc | apply IsS86.drewN | apply IsS86.drew | apply IsS86.set_1 | apply IsS86.set_2) | exact HI0.out)); (case side2 => repeat (first | (with_reducible first | exact HB.out | apply blA | apply pbN | apply bl1 | refine blS ?_ (IsS86.ge HI0.out)) | exact HB.out)); (case side3 => exact Kd.C_keep (⟨#[]⟩ : ByteArray) HR1.out (by repeat (first | (with_reducible first | exact HK.out | apply KeepBut.set_ | apply keep_drewN | apply keep_drew | apply keep_alloc) | exact HK.out)) hf1); (case side4 => exact HC1.out); (case side5 => exact hf1); rintro e w39 ⟨rfl, hi, hb, hk⟩; refine ⟨_, rfl, ?_⟩; have n0_ := Zs0.mk (KeepBut.trans (by repeat (first | (with_reducible first | exact HK.out | apply KeepBut.set_ | apply keep_drewN | apply keep_drew | apply keep_alloc) | exact HK.out)) hk (.inl rfl)); have n1_ := Zs0.mk (hb); have n2_ := Zs0.mk (hi); clear HK; clear HB; clear HI0; have HK := n0_; have HB := n1_; have HI0 := n2_; clear n0_ n1_ n2_; (try clear hb); (try clear hb2); (try clear hk); (try clear hi)) | ((with_reducible refine gtC (f := 60) rfl ?_); refine goesL_ (some 29) rfl rfl Tryd.func60 (by kernel_rfl) rfl #[.pointer (some ⟨g, 0, none⟩), .int .i64 6] rfl (by (try simp only [List.map_toArray, List.map_cons, List.map_nil]); first | done | rfl | (simp only [List.length_drop, List.length_take]; rfl)) ?_; (with_reducible refine (spec_l01Below.calls g s0_0 t117 t118 6 t119 t120 t121 w0 _ ?side1 ?side2 A21.out).mono ?_); (case side1 => repeat (first | (with_reducible first | exact HI0.out | apply IsS86.alloc | apply IsS86.drewN | apply IsS86.drew | apply IsS86.set_1 | apply IsS86.set_2) | exact HI0.out)); (case side2 => repeat (first | (with_reducible first | exact HB.out | apply blA | apply pbN | apply bl1 | refine blS ?_ (IsS86.ge HI0.out)) | exact HB.out)); rintro e w40 ⟨rfl, hi, hb, hk⟩; refine ⟨_, rfl, ?_⟩; have n0_ := Zs0.mk (KeepBut.trans (by repeat (first | (with_reducible first | exact HK.out | apply KeepBut.set_ | apply keep_drewN | apply keep_drew | apply keep_alloc) | exact HK.out)) hk (.inl rfl)); have n1_ := Zs0.mk (hb); have n2_ := Zs0.mk (hi); clear HK; clear HB; clear HI0; have HK := n0_; have HB := n1_; have HI0 := n2_; clear n0_ n1_ n2_; (try clear hb); (try clear hb2); (try clear hk); (try clear hi)))
          (try simp only [Act.put, List.setIfInBounds_toArray, List.set_cons_zero, List.set_cons_succ])
          go_cut [42] (fun v42 wc => ∃ (kq : Nat) (x42_37 : Bool), v42 = .bool x42_37 ∧ Zs0 (spec_l01Exp.j1 kq l1 a2 t116 t119 x42_37 s0_0 t120 t121 = some (r1, r2, r3)) ∧ Zs0 (kq ≤ kj3) ∧ Zs0 (IsS86 w0 wc g s0_0 t120 t121) ∧ Zs0 (KeepBut w wc g none) ∧ Zs0 (Below w0.heap.size w0 wc))
          case first =>
            have H := HC38.out
            clear HC38
            by_cases c41 : t119 = 1
            · rw [if_pos c41] at H
              have c41b0 : (t119 == 1) = true := beq_iff_eq.mpr c41
              have c41b1 : (t119 != 1) = false := bne_eq_false_iff_eq.mpr c41
              clear c41
              (first | rw [c41b0] | (simp only [i64_w, i32_w]; rw [c41b0]) | skip)
              have H' := Zs0.mk H
              clear H
              go_wp2
              go_meet
              case rel => exact ⟨_, ((t119 == 1)), (by first | rfl | (simp; done) | (simp [*]; done)), H', ⟨by have := HJ3.out; first | omega | exact Nat.le_refl _⟩, ⟨by repeat (first | (with_reducible first | exact HI0.out | apply IsS86.alloc | apply IsS86.drewN | apply IsS86.drew | apply IsS86.set_1 | apply IsS86.set_2) | exact HI0.out)⟩, ⟨by repeat (first | (with_reducible first | exact HK.out | apply KeepBut.set_ | apply keep_drewN | apply keep_drew | apply keep_alloc) | exact HK.out)⟩, ⟨by repeat (first | (with_reducible first | exact HB.out | apply blA | apply pbN | apply bl1 | refine blS ?_ (IsS86.ge HI0.out)) | exact HB.out)⟩⟩
            · rw [if_neg c41] at H
              have c41b0 : (t119 == 1) = false := beq_eq_false_iff_ne.mpr c41
              have c41b1 : (t119 != 1) = true := bne_iff_ne.mpr c41
              (first | rw [c41b0] | (simp only [i64_w, i32_w]; rw [c41b0]) | skip)
              have H' := Zs0.mk H
              clear H
              go_wp2
              go_meet
              case rel => exact ⟨_, ((t119 == 2)), (by first | rfl | (simp; done) | (simp [*]; done)), H', ⟨by have := HJ3.out; first | omega | exact Nat.le_refl _⟩, ⟨by repeat (first | (with_reducible first | exact HI0.out | apply IsS86.alloc | apply IsS86.drewN | apply IsS86.drew | apply IsS86.set_1 | apply IsS86.set_2) | exact HI0.out)⟩, ⟨by repeat (first | (with_reducible first | exact HK.out | apply KeepBut.set_ | apply keep_drewN | apply keep_drew | apply keep_alloc) | exact HK.out)⟩, ⟨by repeat (first | (with_reducible first | exact HB.out | apply blA | apply pbN | apply bl1 | refine blS ?_ (IsS86.ge HI0.out)) | exact HB.out)⟩⟩
          case rest =>
            clear HC38
            try clear c1
            try clear c2
            try clear p2
            try clear c4
            try clear c5
            try clear c5b0
            try clear c6
            try clear p6
            try clear c8
            try clear c9
            try clear c10
            try clear c22
            try clear c22b0
            try clear c22b1
            try clear c24
            try clear c24b0
            try clear c24b1
            try clear c24b2
            try clear c26
            try clear c26b0
            try clear c26b1
            try clear c26b2
            try clear c27
            try clear c27b0
            try clear c27b1
            try clear c27b2
            try clear c41
            try clear c41b0
            try clear c41b1
            try clear p2
            obtain ⟨kq, x42_37, rfl, HA, HJ37, HI0, HK, HB⟩ := hcut
            cases kq with
            | zero => exact absurd HA.out (by simp [spec_l01Exp.j1])
            | succ kj37 =>
              have H := HA.out
              clear HA
              simp only [spec_l01Exp.j1] at H
              by_cases c42 : x42_37 = true
              · subst c42
                have H1 : (if 1 + t116.size ≤ 9223372036854775807 then ((spec_l01Pick.f s0_0 t120 t121 (([(⟨#[32, 43, 32]⟩ : ByteArray), (⟨#[32, 45, 32]⟩ : ByteArray), (⟨#[32, 42, 32]⟩ : ByteArray), (⟨#[32, 61, 61, 32]⟩ : ByteArray), (⟨#[32, 60, 32]⟩ : ByteArray), (⟨#[32, 38, 32]⟩ : ByteArray)] : List ByteArray))).bind fun bt137 => (if ((⟨#[40]⟩ : ByteArray) ++ t116).size + bt137.1.size ≤ 9223372036854775807 then ((spec_l01Exp.f kj37 s0_0 bt137.2.1 bt137.2.2 l1 (wrap64 (a2 - 1))).bind fun bt140 => (if (((⟨#[40]⟩ : ByteArray) ++ t116) ++ bt137.1).size + bt140.1.size ≤ 9223372036854775807 then (if ((((⟨#[40]⟩ : ByteArray) ++ t116) ++ bt137.1) ++ bt140.1).size + 1 ≤ 9223372036854775807 then (some (((((⟨#[40]⟩ : ByteArray) ++ t116) ++ bt137.1) ++ bt140.1) ++ (⟨#[41]⟩ : ByteArray), bt140.2.1, bt140.2.2)) else (none)) else (none))) else (none))) else (none)) = some (r1, r2, r3) := by rw [if_pos rfl] at H; exact H
                clear H
                have H := H1
                clear H1
                have c43 := ipos H
                rw [if_pos c43] at H
                have c43b0 := eq_true c43
                have c43b1 := decide_eq_true c43
                try have c43b2 := eq_false (Nat.not_lt.2 c43)
                obtain ⟨y134, hy134⟩ : ∃ y_ : List ByteArray, y_ = (([(⟨#[32, 43, 32]⟩ : ByteArray), (⟨#[32, 45, 32]⟩ : ByteArray), (⟨#[32, 42, 32]⟩ : ByteArray), (⟨#[32, 61, 61, 32]⟩ : ByteArray), (⟨#[32, 60, 32]⟩ : ByteArray), (⟨#[32, 38, 32]⟩ : ByteArray)] : List ByteArray)) := ⟨_, rfl⟩
                replace H : ((spec_l01Pick.f s0_0 t120 t121 y134).bind fun bt137 => (if ((⟨#[40]⟩ : ByteArray) ++ t116).size + bt137.1.size ≤ 9223372036854775807 then ((spec_l01Exp.f kj37 s0_0 bt137.2.1 bt137.2.2 l1 (wrap64 (a2 - 1))).bind fun bt140 => (if (((⟨#[40]⟩ : ByteArray) ++ t116) ++ bt137.1).size + bt140.1.size ≤ 9223372036854775807 then (if ((((⟨#[40]⟩ : ByteArray) ++ t116) ++ bt137.1) ++ bt140.1).size + 1 ≤ 9223372036854775807 then (some (((((⟨#[40]⟩ : ByteArray) ++ t116) ++ bt137.1) ++ bt140.1) ++ (⟨#[41]⟩ : ByteArray), bt140.2.1, bt140.2.2)) else (none)) else (none))) else (none))) = some (r1, r2, r3) := by first | (rw [hy134]; with_reducible exact H) | (have H2_ := (Option.bind_some _ _).symm.trans H; rw [hy134]; with_reducible exact H2_) | (have H2_ := (Option.bind_some _ _).symm.trans H; with_reducible exact H2_) | with_reducible exact H | (rw [hy134]; exact H) | exact H
                have Ny134 := Zs0.mk hy134
                clear hy134
                replace H := Option.bind_eq_some_iff.mp H
                obtain ⟨⟨t137, t138, t139⟩, A440, H⟩ := H
                replace H : (if ((⟨#[40]⟩ : ByteArray) ++ t116).size + t137.size ≤ 9223372036854775807 then ((spec_l01Exp.f kj37 s0_0 t138 t139 l1 (wrap64 (a2 - 1))).bind fun bt140 => (if (((⟨#[40]⟩ : ByteArray) ++ t116) ++ t137).size + bt140.1.size ≤ 9223372036854775807 then (if ((((⟨#[40]⟩ : ByteArray) ++ t116) ++ t137) ++ bt140.1).size + 1 ≤ 9223372036854775807 then (some (((((⟨#[40]⟩ : ByteArray) ++ t116) ++ t137) ++ bt140.1) ++ (⟨#[41]⟩ : ByteArray), bt140.2.1, bt140.2.2)) else (none)) else (none))) else (none)) = some (r1, r2, r3) := H
                have A44 := Zs0.mk A440
                clear A440
                have c45 := ipos H
                rw [if_pos c45] at H
                have c45b0 := eq_true c45
                have c45b1 := decide_eq_true c45
                try have c45b2 := eq_false (Nat.not_lt.2 c45)
                have c45n0 : 1 + t116.size + t137.size ≤ 9223372036854775807 := by have h_ := c45; simp only [ByteArray.size_append] at h_; exact h_
                have c45n1 := eq_true c45n0
                have c45n2 := eq_false (Nat.not_lt.2 c45n0)
                replace H := Option.bind_eq_some_iff.mp H
                obtain ⟨⟨t140, t141, t142⟩, A460, H⟩ := H
                replace H : (if (((⟨#[40]⟩ : ByteArray) ++ t116) ++ t137).size + t140.size ≤ 9223372036854775807 then (if ((((⟨#[40]⟩ : ByteArray) ++ t116) ++ t137) ++ t140).size + 1 ≤ 9223372036854775807 then (some (((((⟨#[40]⟩ : ByteArray) ++ t116) ++ t137) ++ t140) ++ (⟨#[41]⟩ : ByteArray), t141, t142)) else (none)) else (none)) = some (r1, r2, r3) := H
                have A46 := Zs0.mk A460
                clear A460
                have c47 := ipos H
                rw [if_pos c47] at H
                have c47b0 := eq_true c47
                have c47b1 := decide_eq_true c47
                try have c47b2 := eq_false (Nat.not_lt.2 c47)
                have c47n0 : 1 + t116.size + t137.size + t140.size ≤ 9223372036854775807 := by have h_ := c47; simp only [ByteArray.size_append] at h_; exact h_
                have c47n1 := eq_true c47n0
                have c47n2 := eq_false (Nat.not_lt.2 c47n0)
                have c48 := ipos H
                rw [if_pos c48] at H
                have c48b0 := eq_true c48
                have c48b1 := decide_eq_true c48
                try have c48b2 := eq_false (Nat.not_lt.2 c48)
                have c48n0 : 1 + t116.size + t137.size + t140.size + 1 ≤ 9223372036854775807 := by have h_ := c48; simp only [ByteArray.size_append] at h_; exact h_
                have c48n1 := eq_true c48n0
                have c48n2 := eq_false (Nat.not_lt.2 c48n0)
                simp only [Option.some.injEq, Prod.mk.injEq] at H
                obtain ⟨rfl, rfl, rfl⟩ := H
                go_wp2_with (first | ((with_reducible refine gtD (N := 48) rfl ?_); refine Kd.R_lit Kd.string _ 9 ?hg (N := 48) ?hd (xs := ([(⟨#[32, 43, 32]⟩ : ByteArray), (⟨#[32, 45, 32]⟩ : ByteArray), (⟨#[32, 42, 32]⟩ : ByteArray), (⟨#[32, 61, 61, 32]⟩ : ByteArray), (⟨#[32, 60, 32]⟩ : ByteArray), (⟨#[32, 38, 32]⟩ : ByteArray)] : List ByteArray)) (inner := [.string (⟨#[32, 43, 32]⟩ : ByteArray), .string (⟨#[32, 45, 32]⟩ : ByteArray), .string (⟨#[32, 42, 32]⟩ : ByteArray), .string (⟨#[32, 61, 61, 32]⟩ : ByteArray), .string (⟨#[32, 60, 32]⟩ : ByteArray), .string (⟨#[32, 38, 32]⟩ : ByteArray)]) (ok := fun _ => True) (okp := fun _ => True) ?hr ?hp (fun _ hk => hk) trivial (Below.refl _ _) (Nat.le_refl _) (by simp) ?_; (case hd => rfl); (case hg => rfl); (case hr => first | (go_simp; done) | (go_simp; rfl)); (case hp => exact (Reps.one (show Kd.M Kd.string _ _ _ (⟨#[32, 43, 32]⟩ : ByteArray) [.string (⟨#[32, 43, 32]⟩ : ByteArray)] from rfl) (Reps.one (show Kd.M Kd.string _ _ _ (⟨#[32, 45, 32]⟩ : ByteArray) [.string (⟨#[32, 45, 32]⟩ : ByteArray)] from rfl) (Reps.one (show Kd.M Kd.string _ _ _ (⟨#[32, 42, 32]⟩ : ByteArray) [.string (⟨#[32, 42, 32]⟩ : ByteArray)] from rfl) (Reps.one (show Kd.M Kd.string _ _ _ (⟨#[32, 61, 61, 32]⟩ : ByteArray) [.string (⟨#[32, 61, 61, 32]⟩ : ByteArray)] from rfl) (Reps.one (show Kd.M Kd.string _ _ _ (⟨#[32, 60, 32]⟩ : ByteArray) [.string (⟨#[32, 60, 32]⟩ : ByteArray)] from rfl) (Reps.one (show Kd.M Kd.string _ _ _ (⟨#[32, 38, 32]⟩ : ByteArray) [.string (⟨#[32, 38, 32]⟩ : ByteArray)] from rfl) (Reps.none _ _)))))))); intro v135 w49 ho50 hb hg_ hnew_; clear hg_ hnew_; (first | rw [← Ny134.out] at ho50 | (simp only [Int.reduceToNat] at ho50; rw [← Ny134.out] at ho50)); have n0_ := Zs0.mk (Kd.R_lower ho50 (keep_size (w := w) (g := g) (row := none) (by repeat (first | (with_reducible first | exact HK.out | apply KeepBut.set_ | apply keep_drewN | apply keep_drew | apply keep_alloc) | exact HK.out)))); have n1_ := Zs0.mk (IsS86.below (by repeat (first | (with_reducible first | exact HI0.out | apply IsS86.alloc | apply IsS86.drewN | apply IsS86.drew | apply IsS86.set_1 | apply IsS86.set_2) | exact HI0.out)) hb); have n2_ := Zs0.mk (KeepBut.trans (by repeat (first | (with_reducible first | exact HK.out | apply KeepBut.set_ | apply keep_drewN | apply keep_drew | apply keep_alloc) | exact HK.out)) (KeepBut.of_below hb g none) (.inl rfl)); have n3_ := Zs0.mk (blT (by repeat (first | (with_reducible first | exact HB.out | apply blA | apply pbN | apply bl1 | refine blS ?_ (IsS86.ge HI0.out)) | exact HB.out)) hb); clear HI0; clear HK; clear HB; have HO136 := n0_; have HI0 := n1_; have HK := n2_; have HB := n3_; clear n0_ n1_ n2_ n3_; clear hb ho50; obtain ⟨Ao51, co51, eo51⟩ := Kd.R_slice HO136.out; subst eo51) | ((with_reducible refine gtC (f := 62) rfl ?_); refine goesL_ (some 49) rfl rfl Tryd.func62 (by kernel_rfl) rfl #[.pointer (some ⟨g, 0, none⟩), .slice Ao51 y134.length co51] rfl (by (try simp only [List.map_toArray, List.map_cons, List.map_nil]); first | done | rfl | (simp only [List.length_drop, List.length_take]; rfl)) ?_; (with_reducible refine (spec_l01Pick.calls g s0_0 t120 t121 _ _ y134 t137 t138 t139 w0 _ ?side1 ?side2 ?side3 ?side4 ?side5 A44.out).mono ?_); (case side1 => repeat (first | (with_reducible first | exact HI0.out | apply IsS86.alloc | apply IsS86.drewN | apply IsS86.drew | apply IsS86.set_1 | apply IsS86.set_2) | exact HI0.out)); (case side2 => repeat (first | (with_reducible first | exact HB.out | apply blA | apply pbN | apply bl1 | refine blS ?_ (IsS86.ge HI0.out)) | exact HB.out)); (case side3 => repeat (first | exact (Kd.R_reads' HO136.out).2.2 | (with_reducible refine Kd.C_alloc ?_ _) | (with_reducible refine Kd.C_drewN ?_ _) | (with_reducible refine Kd.C_drew ?_))); (case side4 => exact (Kd.R_reads' HO136.out).2.1); (case side5 => exact far_slice (IsS86.own_ne HI0.out HO136.out (by decide))); rintro e w52 ⟨rfl, hi, hb, hk⟩; refine ⟨_, rfl, ?_⟩; have n0_ := Zs0.mk (Kd.R_mono (Kd.R_keep (IsS86.apart (show IsS86 w0 _ g s0_0 t120 t121 from by repeat (first | (with_reducible first | exact HI0.out | apply IsS86.alloc | apply IsS86.drewN | apply IsS86.drew | apply IsS86.set_1 | apply IsS86.set_2) | exact HI0.out)) (by (with_reducible repeat (first | apply Kd.R_alloc | apply Kd.R_drewN | apply Kd.R_drew)); exact HO136.out) (by decide)) hk (fun _ h => h.2)) (fun _ h => h.1)); have n1_ := Zs0.mk (KeepBut.trans (by repeat (first | (with_reducible first | exact HK.out | apply KeepBut.set_ | apply keep_drewN | apply keep_drew | apply keep_alloc) | exact HK.out)) hk (.inl rfl)); have n2_ := Zs0.mk (hb); have n3_ := Zs0.mk (hi); clear HO136; clear HK; clear HB; clear HI0; have HO136 := n0_; have HK := n1_; have HB := n2_; have HI0 := n3_; clear n0_ n1_ n2_ n3_; (try clear hb); (try clear hb2); (try clear hk); (try clear hi)) | ((with_reducible refine gtC (f := 91) rfl ?_); refine goesL_ (some 55) rfl rfl Tryd.func91 (by kernel_rfl) rfl #[.pointer (some ⟨g, 0, none⟩), .slice A1 l1.length c1, .int .i64 (wrap64 (a2 - 1))] rfl (by (try simp only [List.map_toArray, List.map_cons, List.map_nil]); first | done | rfl | (simp only [List.length_drop, List.length_take]; rfl)) ?_; (with_reducible refine (ih kj37 (by have := HJ3.out; have := HJ37.out; omega) g s0_0 t138 t139 _ _ l1 (wrap64 (a2 - 1)) t140 t141 t142 w0 _ ?side1 ?side2 ?side3 ?side4 ?side5 A46.out).mono ?_); (case side1 => repeat (first | (with_reducible first | exact HI0.out | apply IsS86.alloc | apply IsS86.drewN | apply IsS86.drew | apply IsS86.set_1 | apply IsS86.set_2) | exact HI0.out)); (case side2 => repeat (first | (with_reducible first | exact HB.out | apply blA | apply pbN | apply bl1 | refine blS ?_ (IsS86.ge HI0.out)) | exact HB.out)); (case side3 => exact Kd.C_keep (⟨#[]⟩ : ByteArray) HR1.out (by repeat (first | (with_reducible first | exact HK.out | apply KeepBut.set_ | apply keep_drewN | apply keep_drew | apply keep_alloc) | exact HK.out)) hf1); (case side4 => exact HC1.out); (case side5 => exact hf1); rintro e w53 ⟨rfl, hi, hb, hk⟩; refine ⟨_, rfl, ?_⟩; have n0_ := Zs0.mk (Kd.R_mono (Kd.R_keep (IsS86.apart (show IsS86 w0 _ g s0_0 t138 t139 from by repeat (first | (with_reducible first | exact HI0.out | apply IsS86.alloc | apply IsS86.drewN | apply IsS86.drew | apply IsS86.set_1 | apply IsS86.set_2) | exact HI0.out)) (by (with_reducible repeat (first | apply Kd.R_alloc | apply Kd.R_drewN | apply Kd.R_drew)); exact HO136.out) (by decide)) hk (fun _ h => h.2)) (fun _ h => h.1)); have n1_ := Zs0.mk (KeepBut.trans (by repeat (first | (with_reducible first | exact HK.out | apply KeepBut.set_ | apply keep_drewN | apply keep_drew | apply keep_alloc) | exact HK.out)) hk (.inl rfl)); have n2_ := Zs0.mk (hb); have n3_ := Zs0.mk (hi); clear HO136; clear HK; clear HB; clear HI0; have HO136 := n0_; have HK := n1_; have HB := n2_; have HI0 := n3_; clear n0_ n1_ n2_ n3_; (try clear hb); (try clear hb2); (try clear hk); (try clear hi)))
                go_ret
                exact ⟨by first | rfl | (simp [eWn, eWs] <;> rfl) | (simp [*, eWn, eWs] <;> rfl), by repeat (first | (with_reducible first | exact HI0.out | apply IsS86.alloc | apply IsS86.drewN | apply IsS86.drew | apply IsS86.set_1 | apply IsS86.set_2) | exact HI0.out), by repeat (first | (with_reducible first | exact HB.out | apply blA | apply pbN | apply bl1 | refine blS ?_ (IsS86.ge HI0.out)) | exact HB.out), by repeat (first | (with_reducible first | exact HK.out | apply KeepBut.set_ | apply keep_drewN | apply keep_drew | apply keep_alloc) | exact HK.out)⟩
              · replace c42 := Bool.eq_false_iff.mpr c42
                subst c42
                have H1 : (if t119 = 3 then (if 1 + t116.size ≤ 9223372036854775807 then (if ((⟨#[40]⟩ : ByteArray) ++ t116).size + 5 ≤ 9223372036854775807 then (some (((⟨#[40]⟩ : ByteArray) ++ t116) ++ (⟨#[32, 38, 32, 51, 41]⟩ : ByteArray), t120, t121)) else (none)) else (none)) else (some (t116, t120, t121))) = some (r1, r2, r3) := by rw [if_neg (show ¬ (false = true) by decide)] at H; exact H
                clear H
                have H := H1
                clear H1
                by_cases c54 : t119 = 3
                · rw [if_pos c54] at H
                  have c54b0 : (t119 == 3) = true := beq_iff_eq.mpr c54
                  have c54b1 : (t119 != 3) = false := bne_eq_false_iff_eq.mpr c54
                  clear c54
                  have c55 := ipos H
                  rw [if_pos c55] at H
                  have c55b0 := eq_true c55
                  have c55b1 := decide_eq_true c55
                  try have c55b2 := eq_false (Nat.not_lt.2 c55)
                  have c56 := ipos H
                  rw [if_pos c56] at H
                  have c56b0 := eq_true c56
                  have c56b1 := decide_eq_true c56
                  try have c56b2 := eq_false (Nat.not_lt.2 c56)
                  have c56n0 : 1 + t116.size + 5 ≤ 9223372036854775807 := by have h_ := c56; simp only [ByteArray.size_append] at h_; exact h_
                  have c56n1 := eq_true c56n0
                  have c56n2 := eq_false (Nat.not_lt.2 c56n0)
                  simp only [Option.some.injEq, Prod.mk.injEq] at H
                  obtain ⟨rfl, rfl, rfl⟩ := H
                  go_wp2
                  go_ret
                  exact ⟨by first | rfl | (simp [eWn, eWs] <;> rfl) | (simp [*, eWn, eWs] <;> rfl), by repeat (first | (with_reducible first | exact HI0.out | apply IsS86.alloc | apply IsS86.drewN | apply IsS86.drew | apply IsS86.set_1 | apply IsS86.set_2) | exact HI0.out), by repeat (first | (with_reducible first | exact HB.out | apply blA | apply pbN | apply bl1 | refine blS ?_ (IsS86.ge HI0.out)) | exact HB.out), by repeat (first | (with_reducible first | exact HK.out | apply KeepBut.set_ | apply keep_drewN | apply keep_drew | apply keep_alloc) | exact HK.out)⟩
                · rw [if_neg c54] at H
                  have c54b0 : (t119 == 3) = false := beq_eq_false_iff_ne.mpr c54
                  have c54b1 : (t119 != 3) = true := bne_iff_ne.mpr c54
                  simp only [Option.some.injEq, Prod.mk.injEq] at H
                  obtain ⟨rfl, rfl, rfl⟩ := H
                  go_wp2
                  go_ret
                  exact ⟨by first | rfl | (simp [eWn, eWs] <;> rfl) | (simp [*, eWn, eWs] <;> rfl), by repeat (first | (with_reducible first | exact HI0.out | apply IsS86.alloc | apply IsS86.drewN | apply IsS86.drew | apply IsS86.set_1 | apply IsS86.set_2) | exact HI0.out), by repeat (first | (with_reducible first | exact HB.out | apply blA | apply pbN | apply bl1 | refine blS ?_ (IsS86.ge HI0.out)) | exact HB.out), by repeat (first | (with_reducible first | exact HK.out | apply KeepBut.set_ | apply keep_drewN | apply keep_drew | apply keep_alloc) | exact HK.out)⟩

end Go.Proofs.YtbihpjngmjkjmaaDoor.P
