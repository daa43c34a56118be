/- Printed by a program over this seat's translation: a Lean function for each Go function, and that the Go code comes to its answers. -/
import Derived.Test.YtcbpbnkoolpibaaMClean0a
import Derived.Test.YtcbpbnkoolpibaaMClean0b
import Derived.Test.YtcbpbnkoolpibaaMClean0c
set_option maxHeartbeats 8000000
set_option maxRecDepth 100000
set_option linter.unusedVariables false
set_option linter.unusedSimpArgs false
namespace Go.Proofs.Ytcbpbnkoolpibaa.P
open RowKit YtcbpbnkoolpibaaW.wA YtcbpbnkoolpibaaW.wB YtcbpbnkoolpibaaW.wC
attribute [local go_sem] max2_int min2_int max_two min_two max_three min_three max_four min_four

mutual
def spec_l08Live.l0 : Nat → List (List Bool) → Int → List Int → Int → Int → Int → List (S47) → Option ((List (List Bool)))
  | 0, _, _, _, _, _, _, _ => none
  | k + 1, x3, x4, x102000, x102001, x102002, x102003, x102004 => if x4 < (x102004.length : Int) then (if 0 ≤ x102003 then (if (x102003 : Int).toNat ≤ 281474976710656 then (if x3.length < 5864062014805 then (spec_l08Live.l0 k (x3 ++ [(List.replicate (x102003 : Int).toNat false)]) (wrap64 (x4 + 1)) x102000 x102001 x102002 x102003 x102004) else (none)) else (none)) else (none)) else (spec_l08Live.l1 k x3 true x102000 x102001 x102002 x102003 x102004)
def spec_l08Live.l1 : Nat → List (List Bool) → Bool → List Int → Int → Int → Int → List (S47) → Option ((List (List Bool)))
  | 0, _, _, _, _, _, _, _ => none
  | k + 1, x3, x5, x102000, x102001, x102002, x102003, x102004 => if x5 = true then (spec_l08Live.l2 k x3 false (wrap64 ((x102004.length : Int) - 1)) x102000 x102001 x102002 x102003 x102004) else (some x3)
def spec_l08Live.l2 : Nat → List (List Bool) → Bool → Int → List Int → Int → Int → Int → List (S47) → Option ((List (List Bool)))
  | 0, _, _, _, _, _, _, _, _ => none
  | k + 1, x3, x5, x6, x102000, x102001, x102002, x102003, x102004 => if x6 ≥ 0 then (if 0 ≤ x6 then (if x6 < (x102004.length : Int) then ((spec_l05Next.f ((r47 x102004 x6).f0) ((r47 x102004 x6).f1) ((r47 x102004 x6).f2) ((r47 x102004 x6).f3) ((r47 x102004 x6).f4)).bind fun t112 => (spec_l08Live.l3 k x3 x5 x6 t112 0 x102000 x102001 x102002 x102003 x102004)) else (none)) else (none)) else (spec_l08Live.l1 k x3 x5 x102000 x102001 x102002 x102003 x102004)
def spec_l08Live.l3 : Nat → List (List Bool) → Bool → Int → List Int → Int → List Int → Int → Int → Int → List (S47) → Option ((List (List Bool)))
  | 0, _, _, _, _, _, _, _, _, _, _ => none
  | k + 1, x3, x5, x6, x7, x8, x102000, x102001, x102002, x102003, x102004 => if x8 < (x7.length : Int) then (if 0 ≤ x8 then (if 0 ≤ (rd x7 x8) then (if (rd x7 x8) < (x102004.length : Int) then (if (rd x7 x8) < (x3.length : Int) then ((spec_l08In.f k ((r47 x102004 (rd x7 x8)).f0) ((r47 x102004 (rd x7 x8)).f1) ((r47 x102004 (rd x7 x8)).f2) ((r47 x102004 (rd x7 x8)).f3) ((r47 x102004 (rd x7 x8)).f4) (rd_L13 x3 (rd x7 x8))).bind fun t119 => (spec_l08Live.l4 k x3 x5 x6 x7 x8 t119 0 x102000 x102001 x102002 x102003 x102004)) else (none)) else (none)) else (none)) else (none)) else (spec_l08Live.l2 k x3 x5 (wrap64 (x6 - 1)) x102000 x102001 x102002 x102003 x102004)
def spec_l08Live.l4 : Nat → List (List Bool) → Bool → Int → List Int → Int → List Bool → Int → List Int → Int → Int → Int → List (S47) → Option ((List (List Bool)))
  | 0, _, _, _, _, _, _, _, _, _, _, _, _ => none
  | k + 1, x3, x5, x6, x7, x8, x9, x10, x102000, x102001, x102002, x102003, x102004 => if x10 < x102003 then (if 0 ≤ x10 then (if x10 < (x9.length : Int) then (if rdOf false x9 x10 = true then (if 0 ≤ x6 then (if x6 < (x3.length : Int) then (if x10 < ((rd_L13 x3 x6).length : Int) then (if (rdOf false (rd_L13 x3 x6) x10 = true) then (spec_l08Live.l4 k x3 x5 x6 x7 x8 x9 (wrap64 (x10 + 1)) x102000 x102001 x102002 x102003 x102004) else (spec_l08Live.l4 k (x3.set (x6 : Int).toNat ((rd_L13 x3 x6).set (x10 : Int).toNat true)) true x6 x7 x8 x9 (wrap64 (x10 + 1)) x102000 x102001 x102002 x102003 x102004)) else (none)) else (none)) else (none)) else (spec_l08Live.l4 k x3 x5 x6 x7 x8 x9 (wrap64 (x10 + 1)) x102000 x102001 x102002 x102003 x102004)) else (none)) else (none)) else (spec_l08Live.l3 k x3 x5 x6 x7 (wrap64 (x8 + 1)) x102000 x102001 x102002 x102003 x102004)
end
def spec_l08Live.f (k : Nat) (l0_0 : List Int) (a0_1 : Int) (a0_2 : Int) (a0_3 : Int) (l0_4 : List (S47)) : Option ((List (List Bool))) := spec_l08Live.l0 k (([] : List (List Bool))) 0 l0_0 a0_1 a0_2 a0_3 l0_4
theorem spec_l08Live.mono_l : ∀ k, (∀ y0 y1 y2 y3 y4 y5 y6, LeO (spec_l08Live.l0 k y0 y1 y2 y3 y4 y5 y6) (spec_l08Live.l0 (k + 1) y0 y1 y2 y3 y4 y5 y6)) ∧ (∀ y0 y1 y2 y3 y4 y5 y6, LeO (spec_l08Live.l1 k y0 y1 y2 y3 y4 y5 y6) (spec_l08Live.l1 (k + 1) y0 y1 y2 y3 y4 y5 y6)) ∧ (∀ y0 y1 y2 y3 y4 y5 y6 y7, LeO (spec_l08Live.l2 k y0 y1 y2 y3 y4 y5 y6 y7) (spec_l08Live.l2 (k + 1) y0 y1 y2 y3 y4 y5 y6 y7)) ∧ (∀ y0 y1 y2 y3 y4 y5 y6 y7 y8 y9, LeO (spec_l08Live.l3 k y0 y1 y2 y3 y4 y5 y6 y7 y8 y9) (spec_l08Live.l3 (k + 1) y0 y1 y2 y3 y4 y5 y6 y7 y8 y9)) ∧ (∀ y0 y1 y2 y3 y4 y5 y6 y7 y8 y9 y10 y11, LeO (spec_l08Live.l4 k y0 y1 y2 y3 y4 y5 y6 y7 y8 y9 y10 y11) (spec_l08Live.l4 (k + 1) y0 y1 y2 y3 y4 y5 y6 y7 y8 y9 y10 y11))
  | 0 => ⟨fun _ _ _ _ _ _ _ r h => by simp [spec_l08Live.l0] at h, fun _ _ _ _ _ _ _ r h => by simp [spec_l08Live.l1] at h, fun _ _ _ _ _ _ _ _ r h => by simp [spec_l08Live.l2] at h, fun _ _ _ _ _ _ _ _ _ _ r h => by simp [spec_l08Live.l3] at h, fun _ _ _ _ _ _ _ _ _ _ _ _ r h => by simp [spec_l08Live.l4] at h⟩
  | k + 1 => by
    obtain ⟨ih0, ih1, ih2, ih3, ih4⟩ := spec_l08Live.mono_l k
    refine ⟨?_, ?_, ?_, ?_, ?_⟩
    · intro y0 y1 y2 y3 y4 y5 y6
      unfold spec_l08Live.l0
      repeat' (first | (with_reducible first | exact ih0 _ _ _ _ _ _ _ | exact ih1 _ _ _ _ _ _ _ | exact ih2 _ _ _ _ _ _ _ _ | exact ih3 _ _ _ _ _ _ _ _ _ _ | exact ih4 _ _ _ _ _ _ _ _ _ _ _ _ | exact spec_l08In.mono _ _ _ _ _ _ _ | exact LeO.refl _ | exact LeO.none _ | refine LeO.ite ?_ ?_ | refine LeO.bind ?_ (fun _ => ?_)) | exact ih0 _ _ _ _ _ _ _ | exact ih1 _ _ _ _ _ _ _ | exact ih2 _ _ _ _ _ _ _ _ | exact ih3 _ _ _ _ _ _ _ _ _ _ | exact ih4 _ _ _ _ _ _ _ _ _ _ _ _ | exact spec_l08In.mono _ _ _ _ _ _ _ | exact LeO.none _ | refine LeO.ite ?_ ?_ | refine LeO.bind ?_ (fun _ => ?_))
    · intro y0 y1 y2 y3 y4 y5 y6
      unfold spec_l08Live.l1
      repeat' (first | (with_reducible first | exact ih0 _ _ _ _ _ _ _ | exact ih1 _ _ _ _ _ _ _ | exact ih2 _ _ _ _ _ _ _ _ | exact ih3 _ _ _ _ _ _ _ _ _ _ | exact ih4 _ _ _ _ _ _ _ _ _ _ _ _ | exact spec_l08In.mono _ _ _ _ _ _ _ | exact LeO.refl _ | exact LeO.none _ | refine LeO.ite ?_ ?_ | refine LeO.bind ?_ (fun _ => ?_)) | exact ih0 _ _ _ _ _ _ _ | exact ih1 _ _ _ _ _ _ _ | exact ih2 _ _ _ _ _ _ _ _ | exact ih3 _ _ _ _ _ _ _ _ _ _ | exact ih4 _ _ _ _ _ _ _ _ _ _ _ _ | exact spec_l08In.mono _ _ _ _ _ _ _ | exact LeO.none _ | refine LeO.ite ?_ ?_ | refine LeO.bind ?_ (fun _ => ?_))
    · intro y0 y1 y2 y3 y4 y5 y6 y7
      unfold spec_l08Live.l2
      repeat' (first | (with_reducible first | exact ih0 _ _ _ _ _ _ _ | exact ih1 _ _ _ _ _ _ _ | exact ih2 _ _ _ _ _ _ _ _ | exact ih3 _ _ _ _ _ _ _ _ _ _ | exact ih4 _ _ _ _ _ _ _ _ _ _ _ _ | exact spec_l08In.mono _ _ _ _ _ _ _ | exact LeO.refl _ | exact LeO.none _ | refine LeO.ite ?_ ?_ | refine LeO.bind ?_ (fun _ => ?_)) | exact ih0 _ _ _ _ _ _ _ | exact ih1 _ _ _ _ _ _ _ | exact ih2 _ _ _ _ _ _ _ _ | exact ih3 _ _ _ _ _ _ _ _ _ _ | exact ih4 _ _ _ _ _ _ _ _ _ _ _ _ | exact spec_l08In.mono _ _ _ _ _ _ _ | exact LeO.none _ | refine LeO.ite ?_ ?_ | refine LeO.bind ?_ (fun _ => ?_))
    · intro y0 y1 y2 y3 y4 y5 y6 y7 y8 y9
      unfold spec_l08Live.l3
      repeat' (first | (with_reducible first | exact ih0 _ _ _ _ _ _ _ | exact ih1 _ _ _ _ _ _ _ | exact ih2 _ _ _ _ _ _ _ _ | exact ih3 _ _ _ _ _ _ _ _ _ _ | exact ih4 _ _ _ _ _ _ _ _ _ _ _ _ | exact spec_l08In.mono _ _ _ _ _ _ _ | exact LeO.refl _ | exact LeO.none _ | refine LeO.ite ?_ ?_ | refine LeO.bind ?_ (fun _ => ?_)) | exact ih0 _ _ _ _ _ _ _ | exact ih1 _ _ _ _ _ _ _ | exact ih2 _ _ _ _ _ _ _ _ | exact ih3 _ _ _ _ _ _ _ _ _ _ | exact ih4 _ _ _ _ _ _ _ _ _ _ _ _ | exact spec_l08In.mono _ _ _ _ _ _ _ | exact LeO.none _ | refine LeO.ite ?_ ?_ | refine LeO.bind ?_ (fun _ => ?_))
    · intro y0 y1 y2 y3 y4 y5 y6 y7 y8 y9 y10 y11
      unfold spec_l08Live.l4
      repeat' (first | (with_reducible first | exact ih0 _ _ _ _ _ _ _ | exact ih1 _ _ _ _ _ _ _ | exact ih2 _ _ _ _ _ _ _ _ | exact ih3 _ _ _ _ _ _ _ _ _ _ | exact ih4 _ _ _ _ _ _ _ _ _ _ _ _ | exact spec_l08In.mono _ _ _ _ _ _ _ | exact LeO.refl _ | exact LeO.none _ | refine LeO.ite ?_ ?_ | refine LeO.bind ?_ (fun _ => ?_)) | exact ih0 _ _ _ _ _ _ _ | exact ih1 _ _ _ _ _ _ _ | exact ih2 _ _ _ _ _ _ _ _ | exact ih3 _ _ _ _ _ _ _ _ _ _ | exact ih4 _ _ _ _ _ _ _ _ _ _ _ _ | exact spec_l08In.mono _ _ _ _ _ _ _ | exact LeO.none _ | refine LeO.ite ?_ ?_ | refine LeO.bind ?_ (fun _ => ?_))
theorem spec_l08Live.mono : ∀ a0 a1 a2 a3 a4 k, LeO (spec_l08Live.f k a0 a1 a2 a3 a4) (spec_l08Live.f (k + 1) a0 a1 a2 a3 a4) := by
  intro a0 a1 a2 a3 a4 k
  obtain ⟨ih0, ih1, ih2, ih3, ih4⟩ := spec_l08Live.mono_l k
  unfold spec_l08Live.f
  repeat' (first | (with_reducible first | exact ih0 _ _ _ _ _ _ _ | exact ih1 _ _ _ _ _ _ _ | exact ih2 _ _ _ _ _ _ _ _ | exact ih3 _ _ _ _ _ _ _ _ _ _ | exact ih4 _ _ _ _ _ _ _ _ _ _ _ _ | exact spec_l08In.mono _ _ _ _ _ _ _ | exact LeO.refl _ | exact LeO.none _ | refine LeO.ite ?_ ?_ | refine LeO.bind ?_ (fun _ => ?_)) | exact ih0 _ _ _ _ _ _ _ | exact ih1 _ _ _ _ _ _ _ | exact ih2 _ _ _ _ _ _ _ _ | exact ih3 _ _ _ _ _ _ _ _ _ _ | exact ih4 _ _ _ _ _ _ _ _ _ _ _ _ | exact spec_l08In.mono _ _ _ _ _ _ _ | exact LeO.none _ | refine LeO.ite ?_ ?_ | refine LeO.bind ?_ (fun _ => ?_))
def spec_l08Live.T16 : Bool × List (List Nat × List Nat) := (true, [([], []), ([0], [0]), ([], []), ([], []), ([2, 3], [2, 3]), ([4], [4]), ([1, 5], [1, 5]), ([6], [6]), ([], []), ([], []), ([], []), ([9, 10], [9, 10]), ([11], [11]), ([8, 12], [8, 12]), ([13], [13]), ([7, 14], [7, 14]), ([15, 15, 0, 1, 2, 3, 4, 5, 6, 7, 8, 9, 10, 11, 12, 13, 14, 15], [15])])
def spec_l08Live.B16 : List Nat := [0, 1, 0, 0, 12, 28, 63, 127, 0, 0, 0, 1536, 3584, 7936, 16128, 32767, 65535]
theorem spec_l08Live.tab16 : rtab .any (opsOf Try.f41 16) = spec_l08Live.T16 := by kernel_rfl
theorem spec_l08Live.bits16 : waitsOk spec_l08Live.T16.2 spec_l08Live.B16 = true := by kernel_rfl
theorem spec_l08Live.calls (k : Nat) (A0_0 : Option Addr) (c0_0 : Nat) (l0_0 : List Int) (a0_1 : Int) (a0_2 : Int) (a0_3 : Int) (A0_4 : Option Addr) (c0_4 : Nat) (l0_4 : List (S47)) (r : List (List Bool)) (w : World) (hr0_0 : Kd.C (Kd.int .i64) w A0_0 l0_0.length l0_0) (hc0_0 : l0_0.length ≤ c0_0) (hr0_4 : Kd.C k47 w A0_4 l0_4.length l0_4) (hc0_4 : l0_4.length ≤ c0_4) (h : spec_l08Live.f k l0_0 a0_1 a0_2 a0_3 l0_4 = some r) :
  Calls Try.prog 41 #[.agg #[.slice A0_0 l0_0.length c0_0, .int .i64 a0_1, .int .i64 a0_2, .int .i64 a0_3, .slice A0_4 l0_4.length c0_4]] w fun e w' => ∃ v0_ : Value, e = .returned (v0_) ∧ Kd.S (Kd.slice 4 Kd.bool) 54 w' w.heap.size (fun _ => True) v0_ r ∧ Below w.heap.size w w' := by
 have hu29 := Try.underlying29
 have hu47 := Try.underlying47
 have HR0_0 := Zs0.mk hr0_0
 have HC0_0 := Zs0.mk hc0_0
 clear hr0_0 hc0_0
 have HR0_4 := Zs0.mk hr0_4
 have HC0_4 := Zs0.mk hc0_4
 clear hr0_4 hc0_4
 have HB := Zs0.mk (Below.refl w.heap.size w)
 have H : (spec_l08Live.l0 k (([] : List (List Bool))) 0 l0_0 a0_1 a0_2 a0_3 l0_4) = some r := h
 clear h
 obtain ⟨y102, hy102⟩ : ∃ y_ : List (List Bool), y_ = (([] : List (List Bool))) := ⟨_, rfl⟩
 replace H : (spec_l08Live.l0 k y102 0 l0_0 a0_1 a0_2 a0_3 l0_4) = some r := by first | (rw [hy102]; with_reducible exact H) | (have H2_ := (Option.bind_some _ _).symm.trans H; rw [hy102]; with_reducible exact H2_) | (have H2_ := (Option.bind_some _ _).symm.trans H; with_reducible exact H2_) | with_reducible exact H | (rw [hy102]; exact H) | exact H
 have Ny102 := Zs0.mk hy102
 clear hy102
 have H' := Zs0.mk H
 clear H
 go_enter Try.func41, Try.ntmps41
 go_wp2_with (first | ((with_reducible refine gtD (N := 1) rfl ?_); refine bxE ?hg (N := 1) ?hd (cs := #[.slice A0_0 l0_0.length c0_0, .int .i64 a0_1, .int .i64 a0_2, .int .i64 a0_3, .slice A0_4 l0_4.length c0_4]) (t := 29) ?hr ?_; (case hd => rfl); (case hg => rfl); (case hr => first | (go_simp; done) | (go_simp; rfl)); intro gb101 hg w2 hbox hb; have n0_ := Zs0.mk (blT zB hb); have n1_ := Zs0.mk (hbox); have n2_ := Zs0.mk (zs hg : w.heap.size ≤ gb101); have n3_ := Zs0.mk (zs hg : w.heap.size ≤ gb101); revert n0_ n1_ n2_ n3_; clear HB; intro HB BK101 GW101 GE101; clear hb hbox hg) | ((with_reducible refine gtD (N := 11) rfl ?_); refine Kd.S_lit (Kd.slice 4 Kd.bool) _ 54 ?hg (N := 11) ?hd (xs := ([] : List (List Bool))) (inner := []) (ok := fun _ => True) (okp := fun _ => True) ?hr ?hp (fun _ hk => hk) trivial (Below.refl _ _) (Nat.le_refl _) (by simp) ?_; (case hd => rfl); (case hg => rfl); (case hr => first | (go_simp; done) | (go_simp; rfl)); (case hp => exact (Reps.none _ _)); intro v103 w3 ho4 hb hg_ hnew_; clear hg_ hnew_; (first | rw [← Ny102.out] at ho4 | (simp only [Int.reduceToNat] at ho4; rw [← Ny102.out] at ho4)); have n0_ := Zs0.mk (Kd.S_lower ho4 (blZ zB)); have n1_ := Zs0.mk (bkB (zG BK101.out) hb); have n2_ := Zs0.mk (blT zB hb); revert n0_ n1_ n2_; clear BK101 HB; intro HO104 BK101 HB; clear hb ho4))
 go_loopg [3, 4] k (fun kq v3 v4 w' => ∃ (x3_1 : List (List Bool)) (x4_1 : Int), v4 = .int .i64 x4_1 ∧ Zs0 (spec_l08Live.l0 kq x3_1 x4_1 l0_0 a0_1 a0_2 a0_3 l0_4 = some r) ∧ Zs0 (kq ≤ k) ∧ Zs0 (Kd.S (Kd.slice 4 Kd.bool) 54 w' w.heap.size (fun _ => True) v3 x3_1) ∧ Zs0 (w'.heap[gb101]? = some (.cells #[(.slice A0_0 l0_0.length c0_0), .int .i64 a0_1, .int .i64 a0_2, .int .i64 a0_3, (.slice A0_4 l0_4.length c0_4)] 29 (0, 0))) ∧ Zs0 (Below w.heap.size w w'))
 case atStart => exact ⟨(y102), (0), zq, H', ⟨Nat.le_refl _⟩, ⟨zS HO104.out⟩, ⟨zG BK101.out⟩, ⟨zB⟩⟩
 case round =>
  clear H'
  try clear p2
  try clear c4
  obtain ⟨x3_1, x4_1, rfl, HA, HK1, HO_3, BK101, HB⟩ := hrel
  cases gk with
  | zero => exact absurd HA.out (by simp [spec_l08Live.l0])
  | succ k1 =>
   have H := HA.out
   clear HA
   simp only [spec_l08Live.l0] at H
   by_cases c5 : x4_1 < (l0_4.length : Int)
   ·rw [if_pos c5] at H
    have c5b0 : decide (x4_1 < (l0_4.length : Int)) = true := decide_eq_true c5
    clear c5
    have c6 := ipos H
    rw [if_pos c6] at H
    have c6b0 := eq_true c6
    have c6b1 := decide_eq_true c6
    clear c6
    have c7 := ipos H
    rw [if_pos c7] at H
    have c7b0 := eq_true c7
    have c7b1 := decide_eq_true c7
    clear c7
    obtain ⟨y105, hy105⟩ : ∃ y_ : List Bool, y_ = (List.replicate (a0_3 : Int).toNat false) := ⟨_, rfl⟩
    replace H : (if x3_1.length < 5864062014805 then (spec_l08Live.l0 k1 (x3_1 ++ [y105]) (wrap64 (x4_1 + 1)) l0_0 a0_1 a0_2 a0_3 l0_4) else (none)) = some r := by first | (rw [hy105]; with_reducible exact H) | (have H2_ := (Option.bind_some _ _).symm.trans H; rw [hy105]; with_reducible exact H2_) | (have H2_ := (Option.bind_some _ _).symm.trans H; with_reducible exact H2_) | with_reducible exact H | (rw [hy105]; exact H) | exact H
    have Ny105 := Zs0.mk hy105
    clear hy105
    have c8 := ipos H
    rw [if_pos c8] at H
    have LMc8 := Zs0.mk c8
    clear c8
    obtain ⟨y108, hy108⟩ : ∃ y_ : List (List Bool), y_ = (x3_1 ++ [y105]) := ⟨_, rfl⟩
    replace H : (spec_l08Live.l0 k1 y108 (wrap64 (x4_1 + 1)) l0_0 a0_1 a0_2 a0_3 l0_4) = some r := by first | (rw [hy108]; with_reducible exact H) | (have H2_ := (Option.bind_some _ _).symm.trans H; rw [hy108]; with_reducible exact H2_) | (have H2_ := (Option.bind_some _ _).symm.trans H; with_reducible exact H2_) | with_reducible exact H | (rw [hy108]; exact H) | exact H
    have Ny108 := Zs0.mk hy108
    clear hy108
    have H' := Zs0.mk H
    clear H
    obtain ⟨hcz9_0, hcz9_1, hcz9_2, hcz9_3, hcz9_4, hfz9_0, hfz9_1, hfz9_2, hfz9_3, hfz9_4⟩ := bx5 BK101.out
    go_wp2_with (first | ((with_reducible refine gtD (N := 22) rfl ?_); refine Kd.R_make Kd.bool _ 4 rfl (N := 22) rfl 54 _ _ rfl a0_3 rfl rfl Try.underlying54 (.bool false) 1 info4 rfl (by decide) (by omega) false (ok := fun _ => True) (okp := fun _ => True) rfl (fun _ hk => hk) trivial zD (Nat.le_trans (Nat.mul_le_mul_right _ (zD : a0_3.toNat ≤ 281474976710656)) (by omega)) (Below.refl _ _) (Nat.le_refl _) ?_; intro v106 w10 ho11 hb hg_ hnew_; clear hg_ hnew_; (first | rw [← Ny105.out] at ho11 | (simp only [Int.reduceToNat] at ho11; rw [← Ny105.out] at ho11)); have n0_ := Zs0.mk (Kd.S_elder' (zS HO_3.out) (Kd.R_base ho11) hb); have n1_ := Zs0.mk (Kd.R_lower ho11 (blZ zB)); have n2_ := Zs0.mk (bkB (zG BK101.out) hb); have n3_ := Zs0.mk (blT zB hb); revert n0_ n1_ n2_ n3_; clear HO_3 BK101 HB; intro HO_3 HO107 BK101 HB; clear hb ho11; obtain ⟨Ao13, co13, eo13⟩ := Kd.R_slice HO107.out; subst eo13) | ((with_reducible refine gate_builtin (b := .append) (xs := #[.tmp 19, .tmp 23]) rfl ?_); at_builtin; refine Kd.S_append (Kd.slice 4 Kd.bool) (w0 := w) w.heap.size rfl (.tmp 19) (.tmp 23) 52 54 (.slice none 0 0) 24 rfl Try.underlying52 info54 rfl (by decide) (by omega) u3 x3_1 y105 [.slice Ao13 y105.length co13] (fun _ => True) (fun k_ => some k_ = (.slice Ao13 y105.length co13 : Value).ownBlock) rfl rfl ?aP (fun k_ hk_ => ((Kd.R_mono (ok' := fun k_ => ((fun _ => True)) k_ ∧ some k_ ≠ (u3 : Value).ownBlock) (Kd.R_apart' (HO107.out) (Kd.S_typed HO_3.out) (by decide)) (fun k_ hk => ⟨trivial, hk.2⟩))).1 k_ hk_.symm) ?aF ?aO ?aB ?aS ?aL ?_; (case aP => exact Kd.M_row (Kd.R_mono (Kd.R_tight rfl (Kd.R_mono (ok' := fun k_ => ((fun _ => True)) k_ ∧ some k_ ≠ (u3 : Value).ownBlock) (Kd.R_apart' (HO107.out) (Kd.S_typed HO_3.out) (by decide)) (fun k_ hk => ⟨trivial, hk.2⟩))) (fun _ h_ => h_))); (case aB => exact zB); (case aF => exact (fun _ _ => trivial)); (case aO => exact (by (with_reducible repeat (first | apply Kd.S_alloc | apply Kd.S_drewN | apply Kd.S_drew)); exact Kd.S_mono HO_3.out (fun k_ hk => ⟨trivial, fun e_ => hk.2 e_⟩))); (case aS => exact (blZ zB)); (case aL => have := LMc8.out; omega); intro v109 w12 ho hb hg hat; rw [← Ny108.out] at ho; have n0_ := Zs0.mk (blk_grown (zG BK101.out) hg (Kd.S_ne HO_3.out BK101.out (by decide))); have n1_ := Zs0.mk (hb); have n2_ := Zs0.mk (ho); revert n0_ n1_ n2_; clear BK101 HB HO_3 HO107; intro BK101 HB HO110; clear ho hb hg hat))
    go_roundg k1
    case measure => have := HK1.out; omega
    case rel => exact ⟨(y108), (wrap64 (x4_1 + 1)), zq, H', ⟨by have := HK1.out; omega⟩, ⟨zS HO110.out⟩, ⟨zG BK101.out⟩, ⟨zB⟩⟩
   ·rw [if_neg c5] at H
    have c5b0 : decide (x4_1 < (l0_4.length : Int)) = false := decide_eq_false c5
    clear c5
    have H' := Zs0.mk H
    clear H
    obtain ⟨hcz14_0, hcz14_1, hcz14_2, hcz14_3, hcz14_4, hfz14_0, hfz14_1, hfz14_2, hfz14_3, hfz14_4⟩ := bx5 BK101.out
    go_wp2
    go_loopg [5] k1 (fun kq v5 w' => ∃ (x3_2 : List (List Bool)) (x5_2 : Bool), v5 = .bool x5_2 ∧ Zs0 (spec_l08Live.l1 kq x3_2 x5_2 l0_0 a0_1 a0_2 a0_3 l0_4 = some r) ∧ Zs0 (kq ≤ k1) ∧ Zs0 (Kd.S (Kd.slice 4 Kd.bool) 54 w' w.heap.size (fun _ => True) u3 x3_2) ∧ Zs0 (w'.heap[gb101]? = some (.cells #[(.slice A0_0 l0_0.length c0_0), .int .i64 a0_1, .int .i64 a0_2, .int .i64 a0_3, (.slice A0_4 l0_4.length c0_4)] 29 (0, 0))) ∧ Zs0 (Below w.heap.size w w'))
    case atStart => exact ⟨(x3_1), (true), zq, H', ⟨Nat.le_refl _⟩, ⟨zS HO_3.out⟩, ⟨zG BK101.out⟩, ⟨zB⟩⟩
    case round =>
     clear H'
     try clear p2
     try clear c4
     try clear c5
     try clear c5b0
     try clear c6
     try clear c6b0
     try clear c6b1
     try clear p6
     try clear c7
     try clear c7b0
     try clear c7b1
     try clear c8
     try clear hcz14_0 hcz14_1 hcz14_2 hcz14_3 hcz14_4
     try clear hcz9_0 hcz9_1 hcz9_2 hcz9_3 hcz9_4
     try clear hfz14_0 hfz14_1 hfz14_2 hfz14_3 hfz14_4
     try clear hfz9_0 hfz9_1 hfz9_2 hfz9_3 hfz9_4
     try clear p2
     obtain ⟨x3_2, x5_2, rfl, HA, HK2, HO_3, BK101, HB⟩ := hrel
     cases gk with
     | zero => exact absurd HA.out (by simp [spec_l08Live.l1])
     | succ k2 =>
      have H := HA.out
      clear HA
      simp only [spec_l08Live.l1] at H
      by_cases c15 : x5_2 = true
      ·subst c15
       have H1 : (spec_l08Live.l2 k2 x3_2 false (wrap64 ((l0_4.length : Int) - 1)) l0_0 a0_1 a0_2 a0_3 l0_4) = some r := by rw [if_pos rfl] at H; exact H
       clear H
       have H := H1
       clear H1
       have H' := Zs0.mk H
       clear H
       obtain ⟨hcz16_0, hcz16_1, hcz16_2, hcz16_3, hcz16_4, hfz16_0, hfz16_1, hfz16_2, hfz16_3, hfz16_4⟩ := bx5 BK101.out
       go_wp2
       go_loopg [5, 6] k2 (fun kq v5 v6 w' => ∃ (x3_3 : List (List Bool)) (x5_3 : Bool) (x6_3 : Int), v5 = .bool x5_3 ∧ v6 = .int .i64 x6_3 ∧ Zs0 (spec_l08Live.l2 kq x3_3 x5_3 x6_3 l0_0 a0_1 a0_2 a0_3 l0_4 = some r) ∧ Zs0 (kq ≤ k2) ∧ Zs0 (Kd.S (Kd.slice 4 Kd.bool) 54 w' w.heap.size (fun _ => True) u3 x3_3) ∧ Zs0 (w'.heap[gb101]? = some (.cells #[(.slice A0_0 l0_0.length c0_0), .int .i64 a0_1, .int .i64 a0_2, .int .i64 a0_3, (.slice A0_4 l0_4.length c0_4)] 29 (0, 0))) ∧ Zs0 (Below w.heap.size w w'))
       case atStart => exact ⟨(x3_2), (false), (wrap64 ((l0_4.length : Int) - 1)), zq, zq, H', ⟨Nat.le_refl _⟩, ⟨zS HO_3.out⟩, ⟨zG BK101.out⟩, ⟨zB⟩⟩
       case round =>
        clear H'
        try clear c1
        try clear p2
        try clear c4
        try clear c5
        try clear c5b0
        try clear c6
        try clear c6b0
        try clear c6b1
        try clear p6
        try clear c7
        try clear c7b0
        try clear c7b1
        try clear c8
        try clear c15
        try clear hcz14_0 hcz14_1 hcz14_2 hcz14_3 hcz14_4
        try clear hcz16_0 hcz16_1 hcz16_2 hcz16_3 hcz16_4
        try clear hcz9_0 hcz9_1 hcz9_2 hcz9_3 hcz9_4
        try clear hfz14_0 hfz14_1 hfz14_2 hfz14_3 hfz14_4
        try clear hfz16_0 hfz16_1 hfz16_2 hfz16_3 hfz16_4
        try clear hfz9_0 hfz9_1 hfz9_2 hfz9_3 hfz9_4
        try clear p2
        try clear p6
        obtain ⟨x3_3, x5_3, x6_3, rfl, rfl, HA, HK3, HO_3, BK101, HB⟩ := hrel
        cases gk with
        | zero => exact absurd HA.out (by simp [spec_l08Live.l2])
        | succ k3 =>
         have H := HA.out
         clear HA
         simp only [spec_l08Live.l2] at H
         by_cases c17 : x6_3 ≥ 0
         ·rw [if_pos c17] at H
          have c17b0 : decide (0 ≤ x6_3) = true := decide_eq_true c17
          clear c17
          have c18 := ipos H
          rw [if_pos c18] at H
          have c18b0 := decide_eq_true c18
          clear c18
          have c19 := ipos H
          rw [if_pos c19] at H
          have c19b0 := decide_eq_true c19
          clear c19
          replace H := Option.bind_eq_some_iff.mp H
          obtain ⟨t112, A200, H⟩ := H
          replace H : (spec_l08Live.l3 k3 x3_3 x5_3 x6_3 t112 0 l0_0 a0_1 a0_2 a0_3 l0_4) = some r := H
          have A20 := Zs0.mk A200
          clear A200
          have H' := Zs0.mk H
          clear H
          obtain ⟨hcz21_0, hcz21_1, hcz21_2, hcz21_3, hcz21_4, hfz21_0, hfz21_1, hfz21_2, hfz21_3, hfz21_4⟩ := bx5 BK101.out
          have p111 : 0 ≤ (x6_3 : Int) := zD
          have q111 : x6_3 < (l0_4.length : Int) := zD
          obtain ⟨ad111, A111_0, c111_0, e111, hx111_0, hx111_1, hx111_2, hx111_3, hx111_4, hl111_0, hi111_0⟩ := at_T47 HR0_4.out x6_3 p111 q111
          cases e111
          replace hx111_0 := zx HB.out hx111_0
          replace hx111_1 := zx HB.out hx111_1
          replace hx111_2 := zx HB.out hx111_2
          replace hx111_3 := zx HB.out hx111_3
          replace hx111_4 := zx HB.out hx111_4
          have HR111_0 := Zs0.mk hi111_0
          have HC111_0 := Zs0.mk hl111_0
          clear hi111_0 hl111_0
          replace p111 := eq_true p111
          replace q111 := eq_true q111
          go_wp2_with (first | ((with_reducible refine gtC (f := 48) rfl ?_); refine goesL_ (some 39) rfl rfl Try.func48 (by kernel_rfl) rfl #[.agg #[.slice A111_0 ((r47 l0_4 x6_3).f0).length c111_0, .int .i64 ((r47 l0_4 x6_3).f1), .int .i64 ((r47 l0_4 x6_3).f2), .int .i64 ((r47 l0_4 x6_3).f3), .int .i64 ((r47 l0_4 x6_3).f4)]] rfl zM ?_; (with_reducible refine (spec_l05Next.calls _ _ ((r47 l0_4 x6_3).f0) ((r47 l0_4 x6_3).f1) ((r47 l0_4 x6_3).f2) ((r47 l0_4 x6_3).f3) ((r47 l0_4 x6_3).f4) t112 _ ?side1 ?side2 A20.out).mono ?_); (case side1 => exact zC HR111_0.out); (case side2 => exact HC111_0.out); rintro e w22 ⟨v113, rfl, ho0, hb⟩; refine ⟨_, rfl, ?_⟩; have n0_ := Zs0.mk (Kd.S_below (zS HO_3.out) hb); have n1_ := Zs0.mk (Kd.R_lower ho0 (blZ zB)); have n2_ := Zs0.mk (bkB (zG BK101.out) hb); have n3_ := Zs0.mk (blT zB hb); revert n0_ n1_ n2_ n3_; clear HO_3 BK101 HB; intro HO_3 HO114 BK101 HB; (try clear hb); (try clear hb2); (try clear hk); (try clear hi); (try clear ho0)))
          go_loopg [5, 8] k3 (fun kq v5 v8 w' => ∃ (x3_4 : List (List Bool)) (x5_4 : Bool) (x8_4 : Int), v5 = .bool x5_4 ∧ v8 = .int .i64 x8_4 ∧ Zs0 (spec_l08Live.l3 kq x3_4 x5_4 x6_3 t112 x8_4 l0_0 a0_1 a0_2 a0_3 l0_4 = some r) ∧ Zs0 (kq ≤ k3) ∧ Zs0 (Kd.S (Kd.slice 4 Kd.bool) 54 w' w.heap.size (fun _ => True) u3 x3_4) ∧ Zs0 (Kd.R (Kd.int .i64) 3 w' w.heap.size (fun _ => True) v113 t112) ∧ Zs0 (w'.heap[gb101]? = some (.cells #[(.slice A0_0 l0_0.length c0_0), .int .i64 a0_1, .int .i64 a0_2, .int .i64 a0_3, (.slice (some ad111) l0_4.length c0_4)] 29 (0, 0))) ∧ Zs0 (Below w.heap.size w w'))
          case atStart => exact ⟨(x3_3), (x5_3), (0), zq, zq, H', ⟨Nat.le_refl _⟩, ⟨zS HO_3.out⟩, ⟨zR HO114.out⟩, ⟨zG BK101.out⟩, ⟨zB⟩⟩
          case round =>
           clear H'
           try clear c1
           try clear p1
           try clear q1
           try clear hx1
           try clear p2
           try clear c4
           try clear c5
           try clear c5b0
           try clear c6
           try clear c6b0
           try clear c6b1
           try clear p6
           try clear c7
           try clear c7b0
           try clear c7b1
           try clear c8
           try clear c11
           try clear p11
           try clear q11
           try clear hx11
           try clear c15
           try clear c17
           try clear c17b0
           try clear c18
           try clear c18b0
           try clear c19
           try clear c19b0
           try clear hcz14_0 hcz14_1 hcz14_2 hcz14_3 hcz14_4
           try clear hcz16_0 hcz16_1 hcz16_2 hcz16_3 hcz16_4
           try clear hcz21_0 hcz21_1 hcz21_2 hcz21_3 hcz21_4
           try clear hcz9_0 hcz9_1 hcz9_2 hcz9_3 hcz9_4
           try clear hfz14_0 hfz14_1 hfz14_2 hfz14_3 hfz14_4
           try clear hfz16_0 hfz16_1 hfz16_2 hfz16_3 hfz16_4
           try clear hfz21_0 hfz21_1 hfz21_2 hfz21_3 hfz21_4
           try clear hfz9_0 hfz9_1 hfz9_2 hfz9_3 hfz9_4
           try clear hx111_0
           try clear hx111_1
           try clear hx111_2
           try clear hx111_3
           try clear hx111_4
           try clear p111
           try clear p2
           try clear p6
           try clear q111
           obtain ⟨x3_4, x5_4, x8_4, rfl, rfl, HA, HK4, HO_3, HO_7, BK101, HB⟩ := hrel
           cases gk with
           | zero => exact absurd HA.out (by simp [spec_l08Live.l3])
           | succ k4 =>
            have H := HA.out
            clear HA
            simp only [spec_l08Live.l3] at H
            by_cases c23 : x8_4 < (t112.length : Int)
            ·rw [if_pos c23] at H
             have c23b0 : decide (x8_4 < (t112.length : Int)) = true := decide_eq_true c23
             clear c23
             have c24 := ipos H
             rw [if_pos c24] at H
             have c24b0 := decide_eq_true c24
             clear c24
             have c25 := ipos H
             rw [if_pos c25] at H
             have c25b0 := decide_eq_true c25
             clear c25
             have c26 := ipos H
             rw [if_pos c26] at H
             have c26b0 := decide_eq_true c26
             clear c26
             have c27 := ipos H
             rw [if_pos c27] at H
             have c27b0 := decide_eq_true c27
             clear c27
             replace H := Option.bind_eq_some_iff.mp H
             obtain ⟨t119, A280, H⟩ := H
             replace H : (spec_l08Live.l4 k4 x3_4 x5_4 x6_3 t112 x8_4 t119 0 l0_0 a0_1 a0_2 a0_3 l0_4) = some r := H
             have A28 := Zs0.mk A280
             clear A280
             have H' := Zs0.mk H
             clear H
             obtain ⟨Ao29, co29, eo29⟩ := Kd.R_slice HO_7.out
             subst eo29
             try go_wp2
             have n0_ := Zs0.mk (Kd.S_drew HO_3.out)
             have n1_ := Zs0.mk (Kd.rD2 HO_7.out)
             have n2_ := Zs0.mk (bk1 BK101.out)
             have n3_ := Zs0.mk (bl1 HB.out)
             revert n0_ n1_ n2_ n3_; clear HO_3 HO_7 BK101 HB; intro HO_3 HO_7 BK101 HB
             have p115 : 0 ≤ (x8_4 : Int) := zD
             have q115 : x8_4 < (t112.length : Int) := zD
             obtain ⟨ad115, e115, hx115_0⟩ := Kd.at_int (Kd.R_reads' HO_7.out).2.2 x8_4 p115 q115
             cases e115
             replace p115 := eq_true p115
             replace q115 := eq_true q115
             have p116 : 0 ≤ ((rd t112 x8_4) : Int) := zD
             have q116 : (rd t112 x8_4) < (l0_4.length : Int) := zD
             obtain ⟨ad116, A116_0, c116_0, e116, hx116_0, hx116_1, hx116_2, hx116_3, hx116_4, hl116_0, hi116_0⟩ := at_T47 HR0_4.out (rd t112 x8_4) p116 q116
             have hw116_4 := hx116_4
             have hw116_3 := hx116_3
             have hw116_2 := hx116_2
             have hw116_1 := hx116_1
             have hw116_0 := hx116_0
             obtain rfl : ad111 = ad116 := (by injection e116)
             replace hx116_0 := zx HB.out hx116_0
             replace hx116_1 := zx HB.out hx116_1
             replace hx116_2 := zx HB.out hx116_2
             replace hx116_3 := zx HB.out hx116_3
             replace hx116_4 := zx HB.out hx116_4
             have HR116_0 := Zs0.mk hi116_0
             have HC116_0 := Zs0.mk hl116_0
             clear hi116_0 hl116_0
             replace p116 := eq_true p116
             replace q116 := eq_true q116
             have p117 : 0 ≤ (x8_4 : Int) := zD
             have q117 : x8_4 < (t112.length : Int) := zD
             obtain ⟨ad117, e117, hx117_0⟩ := Kd.at_int (Kd.R_reads' HO_7.out).2.2 x8_4 p117 q117
             obtain rfl : ad115 = ad117 := (by injection e117)
             replace p117 := eq_true p117
             replace q117 := eq_true q117
             obtain ⟨Ao31, co31, eo31⟩ := Kd.S_slice HO_3.out
             (first | subst eo31 | (injection eo31 with f1_ f2_ f3_; have f4_ := f1_.symm; have f5_ := f3_.symm; clear f1_ f2_ f3_; subst f4_; subst f5_))
             have p118 : 0 ≤ ((rd t112 x8_4) : Int) := zD
             have q118 : (rd t112 x8_4) < (x3_4.length : Int) := zD
             obtain ⟨ad118, A118_0, c118_0, e118, hx118_0, hl118_0, hi118_0⟩ := at_L13 (Kd.S_reads' HO_3.out).2.2 (rd t112 x8_4) p118 q118
             cases e118
             obtain ⟨ce118, hce118, hMe118, hcc118⟩ := Kd.S_get HO_3.out [] (rd t112 x8_4) p118 (by first | exact q118 | exact zD | (have e_ := (Kd.S_reads' HO_3.out).1; omega))
             obtain ⟨ve118_0, rfl, ge118_0⟩ := hMe118
             have hv118_0 := hcc118 0 _ rfl
             rw [Nat.add_zero, show ((Kd.slice 4 Kd.bool)).sz = 1 from rfl, Nat.mul_one] at hv118_0
             replace hv118_0 := Option.some.inj (hv118_0.symm.trans hx118_0)
             rw [hv118_0] at ge118_0
             have HL118_0 := Zs0.mk (show Kd.R Kd.bool 4 _ _ _ _ (rd_L13 x3_4 (rd t112 x8_4)) from ge118_0)
             clear hv118_0 ge118_0
             have HX118_0 := Zs0.mk hx118_0
             clear hcc118 hce118
             have HR118_0 := Zs0.mk hi118_0
             have HC118_0 := Zs0.mk hl118_0
             clear hi118_0 hl118_0
             replace p118 := eq_true p118
             replace q118 := eq_true q118
             refine start_ (n := 17) (S := fun w' => w'.cell? ⟨gb101, 0, none⟩ = some (.slice A0_0 l0_0.length c0_0) ∧ w'.cell? ⟨gb101, 1, none⟩ = some (.int .i64 a0_1) ∧ w'.cell? ⟨gb101, 2, none⟩ = some (.int .i64 a0_2) ∧ w'.cell? ⟨gb101, 3, none⟩ = some (.int .i64 a0_3) ∧ w'.cell? ⟨gb101, 4, none⟩ = some (.slice (some ad111) l0_4.length c0_4) ∧ w'.cell? (ad115.add (x8_4).toNat) = some (.int .i64 (rd t112 x8_4)) ∧ w'.cell? (ad111.add (((rd t112 x8_4)).toNat * 5)) = some (.slice A116_0 ((r47 l0_4 (rd t112 x8_4)).f0).length c116_0) ∧ w'.cell? ⟨(ad111.add (((rd t112 x8_4)).toNat * 5)).block, (ad111.add (((rd t112 x8_4)).toNat * 5)).off + 1, none⟩ = some (.int .i64 ((r47 l0_4 (rd t112 x8_4)).f1)) ∧ w'.cell? ⟨(ad111.add (((rd t112 x8_4)).toNat * 5)).block, (ad111.add (((rd t112 x8_4)).toNat * 5)).off + 2, none⟩ = some (.int .i64 ((r47 l0_4 (rd t112 x8_4)).f2)) ∧ w'.cell? ⟨(ad111.add (((rd t112 x8_4)).toNat * 5)).block, (ad111.add (((rd t112 x8_4)).toNat * 5)).off + 3, none⟩ = some (.int .i64 ((r47 l0_4 (rd t112 x8_4)).f3)) ∧ w'.cell? ⟨(ad111.add (((rd t112 x8_4)).toNat * 5)).block, (ad111.add (((rd t112 x8_4)).toNat * 5)).off + 4, none⟩ = some (.int .i64 ((r47 l0_4 (rd t112 x8_4)).f4)) ∧ w'.cell? (ad115.add (x8_4).toNat) = some (.int .i64 (rd t112 x8_4)) ∧ w'.cell? (ad118.add ((rd t112 x8_4)).toNat) = some (.slice A118_0 (rd_L13 x3_4 (rd t112 x8_4)).length c118_0)) (ds := []) #[false, false, false, false, false, false, false, false, false, false, false, false, false, false, false, false, false] (by kernel_rfl) rfl rfl ⟨(bkC BK101.out 0).trans rfl, (bkC BK101.out 1).trans rfl, (bkC BK101.out 2).trans rfl, (bkC BK101.out 3).trans rfl, (bkC BK101.out 4).trans rfl, hx115_0, (zx HB.out hw116_0), (zx HB.out hw116_1), (zx HB.out hw116_2), (zx HB.out hw116_3), (zx HB.out hw116_4), hx117_0, hx118_0⟩ (fun hHeld => ?_); refine with_tabW spec_l08Live.tab16 spec_l08Live.bits16 (fun HT_ HW_ => ?_)
             generalize wr.drew = w30 at HO_3 HO_7 BK101 HB HL118_0 HR116_0 HR118_0 HX118_0 hx115_0 hx116_0 hx116_1 hx116_2 hx116_3 hx116_4 hx117_0 hx118_0 hHeld ⊢
             refine pure_ (i := 0) (N := some 46) (v := ?_) (a' := ?_) #[true, false, false, false, false, false, false, false, false, false, false, false, false, false, false, false, false] rfl rfl (any_of HT_.out (by kernel_rfl)) (fun _ _ _ h => h) (Or.inl ⟨by rfl, ?_⟩) ?_ ?_
             rotate_left
             ·intro w'
              go_simp
              with_reducible rfl
             rotate_left
             ·exact zp
             refine pure_ (i := 2) (N := some 48) (v := ?_) (a' := ?_) #[true, false, true, false, false, false, false, false, false, false, false, false, false, false, false, false, false] rfl rfl (any_of HT_.out (by kernel_rfl)) (fun _ _ _ h => h) (Or.inl ⟨by rfl, ?_⟩) ?_ ?_
             rotate_left
             ·intro w'
              go_simp
              with_reducible rfl
             rotate_left
             ·exact zp
             refine pure_ (i := 3) (N := some 49) (v := ?_) (a' := ?_) #[true, false, true, true, false, false, false, false, false, false, false, false, false, false, false, false, false] rfl rfl (any_of HT_.out (by kernel_rfl)) (fun _ _ _ h => h) (Or.inl ⟨by rfl, ?_⟩) ?_ ?_
             rotate_left
             ·intro w'
              go_simp
              with_reducible rfl
             rotate_left
             ·exact zp
             refine pure_ (i := 4) (N := some 50) (v := ?_) (a' := ?_) #[true, false, true, true, true, false, false, false, false, false, false, false, false, false, false, false, false] rfl rfl (any_of HT_.out (by kernel_rfl)) (fun _ _ _ h => h) (Or.inl ⟨by rfl, ?_⟩) ?_ ?_
             rotate_left
             ·intro w'
              go_simp
              with_reducible rfl
             rotate_left
             ·exact zp
             refine pure_ (i := 8) (N := some 54) (v := ?_) (a' := ?_) #[true, false, true, true, true, false, false, false, true, false, false, false, false, false, false, false, false] rfl rfl (any_of HT_.out (by kernel_rfl)) (fun _ _ _ h => h) (Or.inl ⟨by rfl, ?_⟩) ?_ ?_
             rotate_left
             ·intro w'
              go_simp
              with_reducible rfl
             rotate_left
             ·exact zp
             refine pure_ (i := 9) (N := some 55) (v := ?_) (a' := ?_) #[true, false, true, true, true, false, false, false, true, true, false, false, false, false, false, false, false] rfl rfl (any_of HT_.out (by kernel_rfl)) (fun _ _ _ h => h) (Or.inl ⟨by rfl, ?_⟩) ?_ ?_
             rotate_left
             ·intro w'
              go_simp
              with_reducible rfl
             rotate_left
             ·exact zp
             refine pure_ (i := 10) (N := some 56) (v := ?_) (a' := ?_) #[true, false, true, true, true, false, false, false, true, true, true, false, false, false, false, false, false] rfl rfl (any_of HT_.out (by kernel_rfl)) (fun _ _ _ h => h) (Or.inl ⟨by rfl, ?_⟩) ?_ ?_
             rotate_left
             ·intro w'
              go_simp
              with_reducible rfl
             rotate_left
             ·exact zp
             refine pure_ (i := 11) (N := some 57) (v := ?_) (a' := ?_) #[true, false, true, true, true, false, false, false, true, true, true, true, false, false, false, false, false] rfl rfl (any_of HT_.out (by kernel_rfl)) (fun _ _ _ h => h) (Or.inl ⟨by rfl, ?_⟩) ?_ ?_
             rotate_left
             ·intro w'
              go_simp
              with_reducible rfl
             rotate_left
             ·exact zp
             refine take_ (i := 1) (N := some 47) (v := ?_) (a' := ?_) #[true, true, true, true, true, false, false, false, true, true, true, true, false, false, false, false, false] rfl rfl (take_ofW HT_.out HW_.out (by kernel_rfl)) (fun _ _ _ h => h) (Or.inl ⟨by rfl, ?_⟩) hHeld ?_ ?_
             rotate_left
             ·rintro w' ⟨s0, s1, s2, s3, s4, s5, s6, s7, s8, s9, s10, s11, s12⟩
              go_simp
              with_reducible rfl
             rotate_left
             ·exact zp
             refine take_ (i := 5) (N := some 51) (v := ?_) (a' := ?_) #[true, true, true, true, true, true, false, false, true, true, true, true, false, false, false, false, false] rfl rfl (take_ofW HT_.out HW_.out (by kernel_rfl)) (fun _ _ _ h => h) (Or.inl ⟨by rfl, ?_⟩) hHeld ?_ ?_
             rotate_left
             ·rintro w' ⟨s0, s1, s2, s3, s4, s5, s6, s7, s8, s9, s10, s11, s12⟩
              go_simp
              with_reducible rfl
             rotate_left
             ·exact zp
             refine pure_ (i := 6) (N := some 52) (v := ?_) (a' := ?_) #[true, true, true, true, true, true, true, false, true, true, true, true, false, false, false, false, false] rfl rfl (any_of HT_.out (by kernel_rfl)) (fun _ _ _ h => h) (Or.inl ⟨by rfl, ?_⟩) ?_ ?_
             rotate_left
             ·intro w'
              go_simp
              with_reducible rfl
             rotate_left
             ·exact zp
             refine take_ (i := 7) (N := some 53) (v := ?_) (a' := ?_) #[true, true, true, true, true, true, true, true, true, true, true, true, false, false, false, false, false] rfl rfl (take_ofW HT_.out HW_.out (by kernel_rfl)) (fun _ _ _ h => h) (Or.inl ⟨by rfl, ?_⟩) hHeld ?_ ?_
             rotate_left
             ·rintro w' ⟨s0, s1, s2, s3, s4, s5, s6, s7, s8, s9, s10, s11, s12⟩
              go_simp
              with_reducible rfl
             rotate_left
             ·exact zp
             refine take_ (i := 12) (N := some 58) (v := ?_) (a' := ?_) #[true, true, true, true, true, true, true, true, true, true, true, true, true, false, false, false, false] rfl rfl (take_ofW HT_.out HW_.out (by kernel_rfl)) (fun _ _ _ h => h) (Or.inl ⟨by rfl, ?_⟩) hHeld ?_ ?_
             rotate_left
             ·rintro w' ⟨s0, s1, s2, s3, s4, s5, s6, s7, s8, s9, s10, s11, s12⟩
              go_simp
              with_reducible rfl
             rotate_left
             ·exact zp
             refine pure_ (i := 13) (N := some 59) (v := ?_) (a' := ?_) #[true, true, true, true, true, true, true, true, true, true, true, true, true, true, false, false, false] rfl rfl (any_of HT_.out (by kernel_rfl)) (fun _ _ _ h => h) (Or.inl ⟨by rfl, ?_⟩) ?_ ?_
             rotate_left
             ·intro w'
              go_simp
              with_reducible rfl
             rotate_left
             ·exact zp
             refine take_ (i := 14) (N := some 60) (v := ?_) (a' := ?_) #[true, true, true, true, true, true, true, true, true, true, true, true, true, true, true, false, false] rfl rfl (take_ofW HT_.out HW_.out (by kernel_rfl)) (fun _ _ _ h => h) (Or.inl ⟨by rfl, ?_⟩) hHeld ?_ ?_
             rotate_left
             ·rintro w' ⟨s0, s1, s2, s3, s4, s5, s6, s7, s8, s9, s10, s11, s12⟩
              go_simp
              with_reducible rfl
             rotate_left
             ·exact zp
             refine one_ (i := 15) (N := some 61) #[true, true, true, true, true, true, true, true, true, true, true, true, true, true, true, true, false] rfl rfl (one_of HT_.out (by kernel_rfl)) (by decide) (fun K hK => ?_)
             refine goes_ Try.func62 (by kernel_rfl) rfl #[.agg #[.slice A116_0 ((r47 l0_4 (rd t112 x8_4)).f0).length c116_0, .int .i64 ((r47 l0_4 (rd t112 x8_4)).f1), .int .i64 ((r47 l0_4 (rd t112 x8_4)).f2), .int .i64 ((r47 l0_4 (rd t112 x8_4)).f3), .int .i64 ((r47 l0_4 (rd t112 x8_4)).f4)], .slice A118_0 (rd_L13 x3_4 (rd t112 x8_4)).length c118_0] (by rfl) rfl rfl zM ?_
             with_reducible refine (spec_l08In.calls k4 _ _ ((r47 l0_4 (rd t112 x8_4)).f0) ((r47 l0_4 (rd t112 x8_4)).f1) ((r47 l0_4 (rd t112 x8_4)).f2) ((r47 l0_4 (rd t112 x8_4)).f3) ((r47 l0_4 (rd t112 x8_4)).f4) _ _ (rd_L13 x3_4 (rd t112 x8_4)) t119 _ ?side1 ?side2 ?side3 ?side4 A28.out).mono ?_
             (case side1 => exact zC HR116_0.out)
             (case side2 => exact HC116_0.out)
             (case side3 => repeat (first | exact (by repeat (first | (with_reducible exact HR118_0.out) | (with_reducible refine Kd.cA1 ?_ _) | (with_reducible refine Kd.cD1 ?_ _) | (with_reducible refine Kd.cD2 ?_) | exact HR118_0.out)) | (with_reducible refine Kd.cA1 ?_ _) | (with_reducible refine Kd.cD1 ?_ _) | (with_reducible refine Kd.cD2 ?_)))
             (case side4 => exact HC118_0.out)
             rintro e w32 ⟨v120, rfl, ho0, hb⟩
             have HS5_ := (hb.cell (World.block_lt_of_cell? _ _ (hHeld.2.2.2.2.2.1))).trans (hHeld.2.2.2.2.2.1)
             have HS11_ := (hb.cell (World.block_lt_of_cell? _ _ (hHeld.2.2.2.2.2.2.2.2.2.2.2.1))).trans (hHeld.2.2.2.2.2.2.2.2.2.2.2.1)
             have HS12_ := (hb.cell (World.block_lt_of_cell? _ _ (hHeld.2.2.2.2.2.2.2.2.2.2.2.2))).trans (hHeld.2.2.2.2.2.2.2.2.2.2.2.2)
             refine ⟨_, rfl, ?_⟩
             have n0_ := Zs0.mk (Kd.S_elder' (zS HO_3.out) (Kd.R_base ho0) hb)
             have n1_ := Zs0.mk (Kd.R_below (zR HO_7.out) hb)
             have n2_ := Zs0.mk (Kd.R_elder' (zR HL118_0.out) (Kd.R_base ho0) hb)
             have n3_ := Zs0.mk (Kd.R_lower (Kd.R_new' ho0 (Kd.R_lt (zR HL118_0.out))) (blZ zB))
             have n4_ := Zs0.mk (bkB (zG BK101.out) hb)
             have n5_ := Zs0.mk (Kd.cB1 (by repeat (first | (with_reducible exact HR118_0.out) | (with_reducible refine Kd.cA1 ?_ _) | (with_reducible refine Kd.cD1 ?_ _) | (with_reducible refine Kd.cD2 ?_) | exact HR118_0.out)) hb)
             have n6_ := Zs0.mk (pw_cell_below hb HX118_0.out)
             have n7_ := Zs0.mk (blT zB hb)
             revert n0_ n1_ n2_ n3_ n4_ n5_ n6_ n7_; clear HO_3 HO_7 HL118_0 BK101 HR118_0 HX118_0 HB; intro HO_3 HO_7 HL118_0 HO121 BK101 HR118_0 HX118_0 HB
             (try clear hb)
             (try clear hb2)
             (try clear hk)
             (try clear hi)
             (try clear ho0)
             refine hK.out _ _ ⟨(bkC BK101.out 0).trans rfl, (bkC BK101.out 1).trans rfl, (bkC BK101.out 2).trans rfl, (bkC BK101.out 3).trans rfl, (bkC BK101.out 4).trans rfl, HS5_, (zx HB.out hw116_0), (zx HB.out hw116_1), (zx HB.out hw116_2), (zx HB.out hw116_3), (zx HB.out hw116_4), HS11_, HS12_⟩ (fun hHeld => ?_)
             clear hK K
             refine norm_ (a' := ?_) ?_ ?_
             rotate_left
             ·show Act.put _ (some 61) _ = _
              simp only [Act.put, List.setIfInBounds_toArray, List.set_cons_zero, List.set_cons_succ, i64_w, i32_w]
              rfl
             refine pure_ (i := 16) (N := some 9) (v := ?_) (a' := ?_) #[true, true, true, true, true, true, true, true, true, true, true, true, true, true, true, true, true] rfl rfl (any_of HT_.out (by kernel_rfl)) (fun _ _ _ h => h) (Or.inl ⟨by rfl, ?_⟩) ?_ ?_
             rotate_left
             ·intro w'
              go_simp
              with_reducible rfl
             rotate_left
             ·exact zp
             refine done_ (done_of HT_.out (by kernel_rfl)) ?_
             try go_wp2
             go_loopg [5, 10] k4 (fun kq v5 v10 w' => ∃ (x3_5 : List (List Bool)) (x5_5 : Bool) (x9_5 : List Bool) (x10_5 : Int), v5 = .bool x5_5 ∧ v10 = .int .i64 x10_5 ∧ Zs0 (spec_l08Live.l4 kq x3_5 x5_5 x6_3 t112 x8_4 x9_5 x10_5 l0_0 a0_1 a0_2 a0_3 l0_4 = some r) ∧ Zs0 (kq ≤ k4) ∧ Zs0 (Kd.S (Kd.slice 4 Kd.bool) 54 w' w.heap.size (fun k_ => some k_ ≠ (v120 : Value).ownBlock) (.slice (some ad118) x3_4.length co31) x3_5) ∧ Zs0 (Kd.R (Kd.int .i64) 3 w' w.heap.size (fun _ => True) (.slice (some ad115) t112.length co29) t112) ∧ Zs0 (Kd.R Kd.bool 4 w' w.heap.size (fun _ => True) v120 x9_5) ∧ Zs0 (w'.heap[gb101]? = some (.cells #[(.slice A0_0 l0_0.length c0_0), .int .i64 a0_1, .int .i64 a0_2, .int .i64 a0_3, (.slice (some ad111) l0_4.length c0_4)] 29 (0, 0))) ∧ Zs0 (Below w.heap.size w w'))
             case atStart => exact ⟨(x3_4), (x5_4), (t119), (0), zq, zq, H', ⟨Nat.le_refl _⟩, ⟨by (with_reducible repeat (first | apply Kd.S_alloc | apply Kd.S_drewN | apply Kd.S_drew)); exact Kd.S_mono HO_3.out (fun _ hk => hk.2)⟩, ⟨zR HO_7.out⟩, ⟨by (with_reducible repeat (first | apply Kd.rA1 | apply Kd.rD1 | apply Kd.rD2)); exact Kd.R_mono HO121.out (fun _ hk => trivial)⟩, ⟨zG BK101.out⟩, ⟨zB⟩⟩
             case round =>
              clear H'
              try clear c1
              try clear p1
              try clear q1
              try clear hx1
              try clear c2
              try clear p2
              try clear c4
              try clear c5
              try clear c5b0
              try clear c6
              try clear c6b0
              try clear c6b1
              try clear p6
              try clear c7
              try clear c7b0
              try clear c7b1
              try clear c8
              try clear c11
              try clear p11
              try clear q11
              try clear hx11
              try clear c15
              try clear c17
              try clear c17b0
              try clear c18
              try clear c18b0
              try clear c19
              try clear c19b0
              try clear c23
              try clear c23b0
              try clear c24
              try clear c24b0
              try clear c25
              try clear c25b0
              try clear c26
              try clear c26b0
              try clear c27
              try clear c27b0
              try clear hcz14_0 hcz14_1 hcz14_2 hcz14_3 hcz14_4
              try clear hcz16_0 hcz16_1 hcz16_2 hcz16_3 hcz16_4
              try clear hcz21_0 hcz21_1 hcz21_2 hcz21_3 hcz21_4
              try clear hcz9_0 hcz9_1 hcz9_2 hcz9_3 hcz9_4
              try clear hfz14_0 hfz14_1 hfz14_2 hfz14_3 hfz14_4
              try clear hfz16_0 hfz16_1 hfz16_2 hfz16_3 hfz16_4
              try clear hfz21_0 hfz21_1 hfz21_2 hfz21_3 hfz21_4
              try clear hfz9_0 hfz9_1 hfz9_2 hfz9_3 hfz9_4
              try clear hx111_0
              try clear hx111_1
              try clear hx111_2
              try clear hx111_3
              try clear hx111_4
              try clear hx115_0
              try clear hx116_0
              try clear hx116_1
              try clear hx116_2
              try clear hx116_3
              try clear hx116_4
              try clear hx117_0
              try clear hx118_0
              try clear p1
              try clear p11
              try clear p111
              try clear p115
              try clear p116
              try clear p117
              try clear p118
              try clear p2
              try clear p6
              try clear q1
              try clear q11
              try clear q111
              try clear q115
              try clear q116
              try clear q117
              try clear q118
              obtain ⟨x3_5, x5_5, x9_5, x10_5, rfl, rfl, HA, HK5, HO_3, HO_7, HO_9, BK101, HB⟩ := hrel
              have hl3_5 := (Kd.S_reads' HO_3.out).1
              rw [hl3_5] at HO_3
              (try simp only [hl3_5])
              (try simp only [hl3_5] at BK101)
              (try simp only [hl3_5] at HO_7)
              (try simp only [hl3_5] at HO_9)
              cases gk with
              | zero => exact absurd HA.out (by simp [spec_l08Live.l4])
              | succ k5 =>
               have H := HA.out
               clear HA
               simp only [spec_l08Live.l4] at H
               by_cases c33 : x10_5 < a0_3
               ·rw [if_pos c33] at H
                have c33b0 : decide (x10_5 < a0_3) = true := decide_eq_true c33
                clear c33
                have c34 := ipos H
                rw [if_pos c34] at H
                have c34b0 := decide_eq_true c34
                clear c34
                have c35 := ipos H
                rw [if_pos c35] at H
                have c35b0 := decide_eq_true c35
                clear c35
                obtain ⟨bq36, hbq36⟩ : ∃ b_ : Bool, b_ = (rdOf false x9_5 x10_5) := ⟨_, rfl⟩
                replace H : (if bq36 = true then (if 0 ≤ x6_3 then (if x6_3 < (x3_5.length : Int) then (if x10_5 < ((rd_L13 x3_5 x6_3).length : Int) then (if (rdOf false (rd_L13 x3_5 x6_3) x10_5 = true) then (spec_l08Live.l4 k5 x3_5 x5_5 x6_3 t112 x8_4 x9_5 (wrap64 (x10_5 + 1)) l0_0 a0_1 a0_2 a0_3 l0_4) else (spec_l08Live.l4 k5 (x3_5.set (x6_3 : Int).toNat ((rd_L13 x3_5 x6_3).set (x10_5 : Int).toNat true)) true x6_3 t112 x8_4 x9_5 (wrap64 (x10_5 + 1)) l0_0 a0_1 a0_2 a0_3 l0_4)) else (none)) else (none)) else (none)) else (spec_l08Live.l4 k5 x3_5 x5_5 x6_3 t112 x8_4 x9_5 (wrap64 (x10_5 + 1)) l0_0 a0_1 a0_2 a0_3 l0_4)) = some r := by rw [← hbq36] at H; exact H
                have Nbq36 := Zs0.mk hbq36
                clear hbq36
                by_cases c37 : bq36 = true
                ·subst c37
                 have H1 : (if 0 ≤ x6_3 then (if x6_3 < (x3_5.length : Int) then (if x10_5 < ((rd_L13 x3_5 x6_3).length : Int) then (if (rdOf false (rd_L13 x3_5 x6_3) x10_5 = true) then (spec_l08Live.l4 k5 x3_5 x5_5 x6_3 t112 x8_4 x9_5 (wrap64 (x10_5 + 1)) l0_0 a0_1 a0_2 a0_3 l0_4) else (spec_l08Live.l4 k5 (x3_5.set (x6_3 : Int).toNat ((rd_L13 x3_5 x6_3).set (x10_5 : Int).toNat true)) true x6_3 t112 x8_4 x9_5 (wrap64 (x10_5 + 1)) l0_0 a0_1 a0_2 a0_3 l0_4)) else (none)) else (none)) else (none)) = some r := by rw [if_pos rfl] at H; exact H
                 clear H
                 have H := H1
                 clear H1
                 have c38 := ipos H
                 rw [if_pos c38] at H
                 have c38b0 := decide_eq_true c38
                 clear c38
                 have c39 := ipos H
                 rw [if_pos c39] at H
                 have c39b0 := decide_eq_true c39
                 clear c39
                 have c40 := ipos H
                 rw [if_pos c40] at H
                 have c40b0 := decide_eq_true c40
                 clear c40
                 obtain ⟨bq41, hbq41⟩ : ∃ b_ : Bool, b_ = (rdOf false (rd_L13 x3_5 x6_3) x10_5) := ⟨_, rfl⟩
                 replace H : (if (bq41 = true) then (spec_l08Live.l4 k5 x3_5 x5_5 x6_3 t112 x8_4 x9_5 (wrap64 (x10_5 + 1)) l0_0 a0_1 a0_2 a0_3 l0_4) else (spec_l08Live.l4 k5 (x3_5.set (x6_3 : Int).toNat ((rd_L13 x3_5 x6_3).set (x10_5 : Int).toNat true)) true x6_3 t112 x8_4 x9_5 (wrap64 (x10_5 + 1)) l0_0 a0_1 a0_2 a0_3 l0_4)) = some r := by rw [← hbq41] at H; exact H
                 have Nbq41 := Zs0.mk hbq41
                 clear hbq41
                 by_cases c42 : (bq41 = true)
                 ·subst c42
                  have H1 : (spec_l08Live.l4 k5 x3_5 x5_5 x6_3 t112 x8_4 x9_5 (wrap64 (x10_5 + 1)) l0_0 a0_1 a0_2 a0_3 l0_4) = some r := by rw [if_pos rfl] at H; exact H
                  clear H
                  have H := H1
                  clear H1
                  have H' := Zs0.mk H
                  clear H
                  obtain ⟨hcz43_0, hcz43_1, hcz43_2, hcz43_3, hcz43_4, hfz43_0, hfz43_1, hfz43_2, hfz43_3, hfz43_4⟩ := bx5 BK101.out
                  obtain ⟨Ao44, co44, eo44⟩ := Kd.R_slice HO_9.out
                  subst eo44
                  have p122 : 0 ≤ (x10_5 : Int) := zD
                  have q122 : x10_5 < (x9_5.length : Int) := zD
                  obtain ⟨ad122, e122, hx122_0⟩ := Kd.at_bool (Kd.R_reads' HO_9.out).2.2 x10_5 p122 q122
                  (try rw [← Nbq36.out] at hx122_0)
                  (try rw [← Nbq41.out] at hx122_0)
                  cases e122
                  replace p122 := eq_true p122
                  replace q122 := eq_true q122
                  have p123 : 0 ≤ (x6_3 : Int) := zD
                  have q123 : x6_3 < (x3_5.length : Int) := zD
                  obtain ⟨ad123, A123_0, c123_0, e123, hx123_0, hl123_0, hi123_0⟩ := at_L13 (Kd.S_reads' HO_3.out).2.2 x6_3 p123 q123
                  obtain rfl : ad118 = ad123 := (by injection e123)
                  obtain ⟨ce123, hce123, hMe123, hcc123⟩ := Kd.S_get HO_3.out [] x6_3 p123 (by first | exact q123 | exact zD | (have e_ := (Kd.S_reads' HO_3.out).1; omega))
                  obtain ⟨ve123_0, rfl, ge123_0⟩ := hMe123
                  have hv123_0 := hcc123 0 _ rfl
                  rw [Nat.add_zero, show ((Kd.slice 4 Kd.bool)).sz = 1 from rfl, Nat.mul_one] at hv123_0
                  replace hv123_0 := Option.some.inj (hv123_0.symm.trans hx123_0)
                  rw [hv123_0] at ge123_0
                  have HL123_0 := Zs0.mk (show Kd.R Kd.bool 4 _ _ _ _ (rd_L13 x3_5 x6_3) from ge123_0)
                  clear hv123_0 ge123_0
                  have HX123_0 := Zs0.mk hx123_0
                  clear hcc123 hce123
                  have HR123_0 := Zs0.mk hi123_0
                  have HC123_0 := Zs0.mk hl123_0
                  clear hi123_0 hl123_0
                  replace p123 := eq_true p123
                  replace q123 := eq_true q123
                  have p124 : 0 ≤ (x10_5 : Int) := zD
                  have q124 : x10_5 < ((rd_L13 x3_5 x6_3).length : Int) := zD
                  obtain ⟨ad124, e124, hx124_0⟩ := Kd.at_bool (by repeat (first | (with_reducible exact HR123_0.out) | (with_reducible refine Kd.cA1 ?_ _) | (with_reducible refine Kd.cD1 ?_ _) | (with_reducible refine Kd.cD2 ?_) | exact HR123_0.out)) x10_5 p124 q124
                  (try rw [← Nbq36.out] at hx124_0)
                  (try rw [← Nbq41.out] at hx124_0)
                  cases e124
                  replace p124 := eq_true p124
                  replace q124 := eq_true q124
                  go_wp2
                  (try simp only [← hl3_5])
                  go_roundg k5
                  case measure => have := HK1.out; have := HK2.out; have := HK3.out; have := HK4.out; have := HK5.out; omega
                  case rel => exact ⟨(x3_5), (x5_5), (x9_5), (wrap64 (x10_5 + 1)), zq, zq, H', ⟨by have := HK1.out; have := HK2.out; have := HK3.out; have := HK4.out; have := HK5.out; omega⟩, ⟨by (try simp only [hl3_5]); (with_reducible repeat (first | apply Kd.S_alloc | apply Kd.S_drewN | apply Kd.S_drew)); exact HO_3.out⟩, ⟨by (try simp only [hl3_5]); (with_reducible repeat (first | apply Kd.rA1 | apply Kd.rD1 | apply Kd.rD2)); exact HO_7.out⟩, ⟨by (try simp only [hl3_5]); (with_reducible repeat (first | apply Kd.rA1 | apply Kd.rD1 | apply Kd.rD2)); exact HO_9.out⟩, ⟨by (try simp only [hl3_5]); refine zE ?_; exact BK101.out⟩, ⟨zB⟩⟩
                 ·replace c42 := Bool.eq_false_iff.mpr c42
                  subst c42
                  have H1 : (spec_l08Live.l4 k5 (x3_5.set (x6_3 : Int).toNat ((rd_L13 x3_5 x6_3).set (x10_5 : Int).toNat true)) true x6_3 t112 x8_4 x9_5 (wrap64 (x10_5 + 1)) l0_0 a0_1 a0_2 a0_3 l0_4) = some r := by rw [if_neg (show ¬ (false = true) by decide)] at H; exact H
                  clear H
                  have H := H1
                  clear H1
                  obtain ⟨y126, hy126⟩ : ∃ y_ : List Bool, y_ = ((rd_L13 x3_5 x6_3).set (x10_5 : Int).toNat true) := ⟨_, rfl⟩
                  replace H : (spec_l08Live.l4 k5 (x3_5.set (x6_3 : Int).toNat y126) true x6_3 t112 x8_4 x9_5 (wrap64 (x10_5 + 1)) l0_0 a0_1 a0_2 a0_3 l0_4) = some r := by first | (rw [hy126]; with_reducible exact H) | (have H2_ := (Option.bind_some _ _).symm.trans H; rw [hy126]; with_reducible exact H2_) | (have H2_ := (Option.bind_some _ _).symm.trans H; with_reducible exact H2_) | with_reducible exact H | (rw [hy126]; exact H) | exact H
                  have Ny126 := Zs0.mk hy126
                  clear hy126
                  obtain ⟨y128, hy128⟩ : ∃ y_ : List (List Bool), y_ = (x3_5.set (x6_3 : Int).toNat y126) := ⟨_, rfl⟩
                  replace H : (spec_l08Live.l4 k5 y128 true x6_3 t112 x8_4 x9_5 (wrap64 (x10_5 + 1)) l0_0 a0_1 a0_2 a0_3 l0_4) = some r := by first | (rw [hy128]; with_reducible exact H) | (have H2_ := (Option.bind_some _ _).symm.trans H; rw [hy128]; with_reducible exact H2_) | (have H2_ := (Option.bind_some _ _).symm.trans H; with_reducible exact H2_) | with_reducible exact H | (rw [hy128]; exact H) | exact H
                  have Ny128 := Zs0.mk hy128
                  clear hy128
                  have H' := Zs0.mk H
                  clear H
                  obtain ⟨hcz46_0, hcz46_1, hcz46_2, hcz46_3, hcz46_4, hfz46_0, hfz46_1, hfz46_2, hfz46_3, hfz46_4⟩ := bx5 BK101.out
                  obtain ⟨Ao47, co47, eo47⟩ := Kd.R_slice HO_9.out
                  subst eo47
                  have p122 : 0 ≤ (x10_5 : Int) := zD
                  have q122 : x10_5 < (x9_5.length : Int) := zD
                  obtain ⟨ad122, e122, hx122_0⟩ := Kd.at_bool (Kd.R_reads' HO_9.out).2.2 x10_5 p122 q122
                  (try rw [← Nbq36.out] at hx122_0)
                  (try rw [← Nbq41.out] at hx122_0)
                  cases e122
                  replace p122 := eq_true p122
                  replace q122 := eq_true q122
                  have p123 : 0 ≤ (x6_3 : Int) := zD
                  have q123 : x6_3 < (x3_5.length : Int) := zD
                  obtain ⟨ad123, A123_0, c123_0, e123, hx123_0, hl123_0, hi123_0⟩ := at_L13 (Kd.S_reads' HO_3.out).2.2 x6_3 p123 q123
                  obtain rfl : ad118 = ad123 := (by injection e123)
                  obtain ⟨ce123, hce123, hMe123, hcc123⟩ := Kd.S_get HO_3.out [] x6_3 p123 (by first | exact q123 | exact zD | (have e_ := (Kd.S_reads' HO_3.out).1; omega))
                  obtain ⟨ve123_0, rfl, ge123_0⟩ := hMe123
                  have hv123_0 := hcc123 0 _ rfl
                  rw [Nat.add_zero, show ((Kd.slice 4 Kd.bool)).sz = 1 from rfl, Nat.mul_one] at hv123_0
                  replace hv123_0 := Option.some.inj (hv123_0.symm.trans hx123_0)
                  rw [hv123_0] at ge123_0
                  have HL123_0 := Zs0.mk (show Kd.R Kd.bool 4 _ _ _ _ (rd_L13 x3_5 x6_3) from ge123_0)
                  clear hv123_0 ge123_0
                  have HX123_0 := Zs0.mk hx123_0
                  clear hcc123 hce123
                  have HR123_0 := Zs0.mk hi123_0
                  have HC123_0 := Zs0.mk hl123_0
                  clear hi123_0 hl123_0
                  replace p123 := eq_true p123
                  replace q123 := eq_true q123
                  have p124 : 0 ≤ (x10_5 : Int) := zD
                  have q124 : x10_5 < ((rd_L13 x3_5 x6_3).length : Int) := zD
                  obtain ⟨ad124, e124, hx124_0⟩ := Kd.at_bool (by repeat (first | (with_reducible exact HR123_0.out) | (with_reducible refine Kd.cA1 ?_ _) | (with_reducible refine Kd.cD1 ?_ _) | (with_reducible refine Kd.cD2 ?_) | exact HR123_0.out)) x10_5 p124 q124
                  (try rw [← Nbq36.out] at hx124_0)
                  (try rw [← Nbq41.out] at hx124_0)
                  cases e124
                  replace p124 := eq_true p124
                  replace q124 := eq_true q124
                  have p125 : 0 ≤ (x6_3 : Int) := zD
                  have q125 : x6_3 < (x3_5.length : Int) := zD
                  obtain ⟨ad125, A125_0, c125_0, e125, hx125_0, hl125_0, hi125_0⟩ := at_L13 (Kd.S_reads' HO_3.out).2.2 x6_3 p125 q125
                  obtain rfl : ad118 = ad125 := (by injection e125)
                  obtain ⟨ce125, hce125, hMe125, hcc125⟩ := Kd.S_get HO_3.out [] x6_3 p125 (by first | exact q125 | exact zD | (have e_ := (Kd.S_reads' HO_3.out).1; omega))
                  obtain ⟨ve125_0, rfl, ge125_0⟩ := hMe125
                  have hv125_0 := hcc125 0 _ rfl
                  rw [Nat.add_zero, show ((Kd.slice 4 Kd.bool)).sz = 1 from rfl, Nat.mul_one] at hv125_0
                  replace hv125_0 := Option.some.inj (hv125_0.symm.trans hx125_0)
                  rw [hv125_0] at ge125_0
                  have HL125_0 := Zs0.mk (show Kd.R Kd.bool 4 _ _ _ _ (rd_L13 x3_5 x6_3) from ge125_0)
                  clear hv125_0 ge125_0
                  have HX125_0 := Zs0.mk hx125_0
                  clear hcc125 hce125
                  have HR125_0 := Zs0.mk hi125_0
                  have HC125_0 := Zs0.mk hl125_0
                  clear hi125_0 hl125_0
                  replace p125 := eq_true p125
                  replace q125 := eq_true q125
                  have ea_ := Option.some.inj (hx123_0.symm.trans hx125_0)
                  injection ea_ with ea_ en_ ec_
                  subst ea_
                  subst ec_
                  clear en_
                  have p45 : 0 ≤ (x10_5 : Int) := zD
                  have q45 : (x10_5 : Int) < (((rd_L13 x3_5 x6_3).length : Int) : Int) := zD
                  obtain ⟨go45, co45, eo45, gb45, gl45, cl45, HG45⟩ := Kd.R_form HL125_0.out (by omega)
                  (first | cases eo45 | (injection eo45 with ea_ en_ ec_; (first | subst ea_ | (injection ea_ with ea_; subst ea_)); subst ec_; clear en_))
                  have GB45 := Zs0.mk gb45
                  have GG45 := Zs0.mk HG45
                  clear gb45 gl45 HG45
                  (first | simp only [add_plain] at hx124_0 | skip)
                  obtain ⟨hx45_0, hf45_0⟩ := Kd.R_celln false HL125_0.out (x10_5 : Int) p45 q45
                  replace p45 := eq_true p45
                  replace q45 := eq_true q45
                  have hq48 : (x6_3 : Int) < (x3_5.length : Int) := (by have h_ : (x6_3 : Int) < ((x3_5.length : Int) : Int) := zD; first | exact h_ | (have e_ := (Kd.S_reads' HO_3.out).1; omega) | simpa only [List.length_set, List.length_set] using h_)
                  obtain ⟨oki48, ce48, hcl48, hM48, hcc48, hok48, hbk48⟩ := Kd.S_borrow HO_3.out [] (x6_3 : Int) zD hq48
                  obtain ⟨ve48_0, rfl, ge48_0⟩ := hM48
                  have hv48 := hcc48 0 _ rfl
                  rw [Nat.add_zero, show ((Kd.slice 4 Kd.bool)).sz = 1 from rfl, Nat.mul_one] at hv48
                  replace hv48 := Option.some.inj (hv48.symm.trans HX125_0.out)
                  subst hv48
                  clear hcc48 hcl48
                  replace ge48_0 := (show Kd.R Kd.bool 4 _ _ _ _ (rd_L13 x3_5 x6_3) from ge48_0)
                  have HP48 := Kd.R_putg ge48_0 (x10_5 : Int) true
                  go_wp2_with (first | ((with_reducible refine gate_store (t := 4) (p := 87) rfl ?_); refine store_event (t := 4) (p := 87) (v := ?vo_w49) (w1 := (wr.setCell ⟨go45, (x10_5 : Int).toNat, none⟩ (.bool true))) ?hg ?ho ?hn ?hr ?_; (case ho => rfl); (case hg => rfl); (case hn => rfl); (case hr => first | (go_simp; done) | (go_simp; rfl)); intro w49 hw; have hg : wr.grownBy w49 (some go45) := (by rw [hw]; exact HP48.2); have hz_ : Kd.R Kd.bool 4 w49 w.heap.size oki48 (.slice (some ⟨go45, 0, none⟩) (rd_L13 x3_5 x6_3).length c123_0) y126 := (by rw [hw, Ny126.out]; exact HP48.1); have hp_ : Kd.S (Kd.slice 4 Kd.bool) 54 w49 w.heap.size (fun k_ => some k_ ≠ (.slice (some ad122) x9_5.length co47 : Value).ownBlock) (.slice (some ad118) x3_5.length co31) y128 := (by rw [Ny128.out]; exact hbk48 hg (fun k_ e_ => by injection e_ with e_; subst e_; exact ge48_0.1 _ rfl) (Kd.M_row hz_)); have hm_ := Kd.R_mono hz_ hok48; clear HP48 hbk48; have n0_ := Zs0.mk (hp_); have n1_ := Zs0.mk (Kd.R_over' (v := (.slice (some ⟨go45, 0, none⟩) (rd_L13 x3_5 x6_3).length c123_0)) (zR HO_7.out) (Kd.R_typed HL125_0.out) (by decide) hg); have n2_ := Zs0.mk (Kd.R_grown1 (zR HO_9.out) rfl hg ((HL125_0.out.1 _ rfl).1)); have n3_ := Zs0.mk (blk_grown (zG BK101.out) hg (Kd.R_ne HL125_0.out BK101.out (by decide))); have n4_ := Zs0.mk ((by rw [hw]; exact blS (HB.out) GB45.out : Below w.heap.size w w49)); have n5_ := Zs0.mk (hm_); have n6_ := Zs0.mk ((Kd.R_reads' hm_).2.1); revert n0_ n1_ n2_ n3_ n4_ n5_ n6_; clear HO_3 HO_7 HO_9 BK101 HB HL123_0 HL125_0; intro HO_3 HO_7 HO_9 BK101 HB HL129 HC127; clear hg hw hp_ hz_ hm_ hok48))
                  (try simp only [← hl3_5])
                  go_roundg k5
                  case measure => have := HK1.out; have := HK2.out; have := HK3.out; have := HK4.out; have := HK5.out; omega
                  case rel => exact ⟨(y128), (true), (x9_5), (wrap64 (x10_5 + 1)), zq, zq, H', ⟨by have := HK1.out; have := HK2.out; have := HK3.out; have := HK4.out; have := HK5.out; omega⟩, ⟨by (try simp only [hl3_5]); (with_reducible repeat (first | apply Kd.S_alloc | apply Kd.S_drewN | apply Kd.S_drew)); exact HO_3.out⟩, ⟨by (try simp only [hl3_5]); (with_reducible repeat (first | apply Kd.rA1 | apply Kd.rD1 | apply Kd.rD2)); exact HO_7.out⟩, ⟨by (try simp only [hl3_5]); (with_reducible repeat (first | apply Kd.rA1 | apply Kd.rD1 | apply Kd.rD2)); exact HO_9.out⟩, ⟨by (try simp only [hl3_5]); refine zE ?_; exact BK101.out⟩, ⟨zB⟩⟩
                ·replace c37 := Bool.eq_false_iff.mpr c37
                 subst c37
                 have H1 : (spec_l08Live.l4 k5 x3_5 x5_5 x6_3 t112 x8_4 x9_5 (wrap64 (x10_5 + 1)) l0_0 a0_1 a0_2 a0_3 l0_4) = some r := by rw [if_neg (show ¬ (false = true) by decide)] at H; exact H
                 clear H
                 have H := H1
                 clear H1
                 have H' := Zs0.mk H
                 clear H
                 obtain ⟨hcz50_0, hcz50_1, hcz50_2, hcz50_3, hcz50_4, hfz50_0, hfz50_1, hfz50_2, hfz50_3, hfz50_4⟩ := bx5 BK101.out
                 obtain ⟨Ao51, co51, eo51⟩ := Kd.R_slice HO_9.out
                 subst eo51
                 have p122 : 0 ≤ (x10_5 : Int) := zD
                 have q122 : x10_5 < (x9_5.length : Int) := zD
                 obtain ⟨ad122, e122, hx122_0⟩ := Kd.at_bool (Kd.R_reads' HO_9.out).2.2 x10_5 p122 q122
                 (try rw [← Nbq36.out] at hx122_0)
                 cases e122
                 replace p122 := eq_true p122
                 replace q122 := eq_true q122
                 go_wp2
                 (try simp only [← hl3_5])
                 go_roundg k5
                 case measure => have := HK1.out; have := HK2.out; have := HK3.out; have := HK4.out; have := HK5.out; omega
                 case rel => exact ⟨(x3_5), (x5_5), (x9_5), (wrap64 (x10_5 + 1)), zq, zq, H', ⟨by have := HK1.out; have := HK2.out; have := HK3.out; have := HK4.out; have := HK5.out; omega⟩, ⟨by (try simp only [hl3_5]); (with_reducible repeat (first | apply Kd.S_alloc | apply Kd.S_drewN | apply Kd.S_drew)); exact HO_3.out⟩, ⟨by (try simp only [hl3_5]); (with_reducible repeat (first | apply Kd.rA1 | apply Kd.rD1 | apply Kd.rD2)); exact HO_7.out⟩, ⟨by (try simp only [hl3_5]); (with_reducible repeat (first | apply Kd.rA1 | apply Kd.rD1 | apply Kd.rD2)); exact HO_9.out⟩, ⟨by (try simp only [hl3_5]); refine zE ?_; exact BK101.out⟩, ⟨zB⟩⟩
               ·rw [if_neg c33] at H
                have c33b0 : decide (x10_5 < a0_3) = false := decide_eq_false c33
                clear c33
                have H' := Zs0.mk H
                clear H
                obtain ⟨hcz52_0, hcz52_1, hcz52_2, hcz52_3, hcz52_4, hfz52_0, hfz52_1, hfz52_2, hfz52_3, hfz52_4⟩ := bx5 BK101.out
                go_wp2
                (try simp only [← hl3_5])
                go_roundg k5
                case measure => have := HK1.out; have := HK2.out; have := HK3.out; have := HK4.out; have := HK5.out; omega
                case rel => exact ⟨(x3_5), (x5_5), (wrap64 (x8_4 + 1)), zq, zq, H', ⟨by have := HK1.out; have := HK2.out; have := HK3.out; have := HK4.out; have := HK5.out; omega⟩, ⟨by (try simp only [hl3_5]); (with_reducible repeat (first | apply Kd.S_alloc | apply Kd.S_drewN | apply Kd.S_drew)); exact Kd.S_mono HO_3.out (fun _ hk => trivial)⟩, ⟨by (try simp only [hl3_5]); (with_reducible repeat (first | apply Kd.rA1 | apply Kd.rD1 | apply Kd.rD2)); exact HO_7.out⟩, ⟨by (try simp only [hl3_5]); refine zE ?_; exact BK101.out⟩, ⟨zB⟩⟩
            ·rw [if_neg c23] at H
             have c23b0 : decide (x8_4 < (t112.length : Int)) = false := decide_eq_false c23
             clear c23
             have H' := Zs0.mk H
             clear H
             obtain ⟨Ao53, co53, eo53⟩ := Kd.R_slice HO_7.out
             subst eo53
             go_wp2
             go_roundg k4
             case measure => have := HK1.out; have := HK2.out; have := HK3.out; have := HK4.out; omega
             case rel => exact ⟨(x3_4), (x5_4), (wrap64 (x6_3 - 1)), zq, zq, H', ⟨by have := HK1.out; have := HK2.out; have := HK3.out; have := HK4.out; omega⟩, ⟨zS HO_3.out⟩, ⟨zG BK101.out⟩, ⟨zB⟩⟩
         ·rw [if_neg c17] at H
          have c17b0 : decide (0 ≤ x6_3) = false := decide_eq_false c17
          clear c17
          have H' := Zs0.mk H
          clear H
          go_wp2
          go_roundg k3
          case measure => have := HK1.out; have := HK2.out; have := HK3.out; omega
          case rel => exact ⟨(x3_3), (x5_3), zq, H', ⟨by have := HK1.out; have := HK2.out; have := HK3.out; omega⟩, ⟨zS HO_3.out⟩, ⟨zG BK101.out⟩, ⟨zB⟩⟩
      ·replace c15 := Bool.eq_false_iff.mpr c15
       subst c15
       have H1 : (some x3_2) = some r := by rw [if_neg (show ¬ (false = true) by decide)] at H; exact H
       clear H
       have H := H1
       clear H1
       obtain rfl := Option.some.inj H
       go_wp2
       go_ret
       exact ⟨_, zr, by (with_reducible repeat (first | apply Kd.S_alloc | apply Kd.S_drewN | apply Kd.S_drew)); exact HO_3.out, zB⟩

end Go.Proofs.Ytcbpbnkoolpibaa.P
