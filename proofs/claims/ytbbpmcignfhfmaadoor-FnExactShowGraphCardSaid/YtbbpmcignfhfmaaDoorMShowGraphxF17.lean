/- Printed by a program over this seat's translation: a Lean function for each Go function, and that the Go code comes to its answers. -/
import Derived.Test.YtbbpmcignfhfmaaDoorMShowGraph0a
import Derived.Test.YtbbpmcignfhfmaaDoorMShowGraph0b
namespace Go.Proofs.YtbbpmcignfhfmaaDoor.P
open Go.RowKit Go.Proofs.YtbbpmcignfhfmaaDoorW.PrintWords Go.Proofs.YtbbpmcignfhfmaaDoorW.PrintLast Go.Proofs.YtbbpmcignfhfmaaDoorW.PrintMore
attribute [local go_sem] max2_int min2_int max_two min_two max_three min_three max_four min_four   -- for this text's walks alone
set_option linter.unusedVariables false
set_option linter.unusedSimpArgs false

/-! ### spec_l04Text: function 17 -/
def spec_l04Text.f (k : Nat) (a0_0 : Int) (a0_1 : Int) (a0_2 : Int) (a0_3 : Int) (a0_4 : Int) (a0_5 : Int) (a0_6 : ByteArray) : Option (ByteArray) := (spec_DecText.f k a0_1).bind fun t102 => (if 1 + t102.size ≤ 9223372036854775807 then (if ((⟨#[115]⟩ : ByteArray) ++ t102).size + 3 ≤ 9223372036854775807 then (if a0_0 = 0 then ((spec_DecText.f k a0_5).bind fun t103 => (if (((⟨#[115]⟩ : ByteArray) ++ t102) ++ (⟨#[32, 61, 32]⟩ : ByteArray)).size + t103.size ≤ 9223372036854775807 then (some ((((⟨#[115]⟩ : ByteArray) ++ t102) ++ (⟨#[32, 61, 32]⟩ : ByteArray)) ++ t103)) else (none))) else (if a0_0 = 1 then (if (((⟨#[115]⟩ : ByteArray) ++ t102) ++ (⟨#[32, 61, 32]⟩ : ByteArray)).size + 1 ≤ 9223372036854775807 then ((spec_DecText.f k a0_2).bind fun t104 => (if ((((⟨#[115]⟩ : ByteArray) ++ t102) ++ (⟨#[32, 61, 32]⟩ : ByteArray)) ++ (⟨#[115]⟩ : ByteArray)).size + t104.size ≤ 9223372036854775807 then (some (((((⟨#[115]⟩ : ByteArray) ++ t102) ++ (⟨#[32, 61, 32]⟩ : ByteArray)) ++ (⟨#[115]⟩ : ByteArray)) ++ t104)) else (none))) else (none)) else (if a0_0 = 2 then (if (((⟨#[115]⟩ : ByteArray) ++ t102) ++ (⟨#[32, 61, 32]⟩ : ByteArray)).size + 1 ≤ 9223372036854775807 then ((spec_DecText.f k a0_2).bind fun t105 => (if ((((⟨#[115]⟩ : ByteArray) ++ t102) ++ (⟨#[32, 61, 32]⟩ : ByteArray)) ++ (⟨#[115]⟩ : ByteArray)).size + t105.size ≤ 9223372036854775807 then (if (((((⟨#[115]⟩ : ByteArray) ++ t102) ++ (⟨#[32, 61, 32]⟩ : ByteArray)) ++ (⟨#[115]⟩ : ByteArray)) ++ t105).size + 1 ≤ 9223372036854775807 then (if ((((((⟨#[115]⟩ : ByteArray) ++ t102) ++ (⟨#[32, 61, 32]⟩ : ByteArray)) ++ (⟨#[115]⟩ : ByteArray)) ++ t105) ++ (⟨#[32]⟩ : ByteArray)).size + a0_6.size ≤ 9223372036854775807 then (if (((((((⟨#[115]⟩ : ByteArray) ++ t102) ++ (⟨#[32, 61, 32]⟩ : ByteArray)) ++ (⟨#[115]⟩ : ByteArray)) ++ t105) ++ (⟨#[32]⟩ : ByteArray)) ++ a0_6).size + 2 ≤ 9223372036854775807 then ((spec_DecText.f k a0_3).bind fun t106 => (if ((((((((⟨#[115]⟩ : ByteArray) ++ t102) ++ (⟨#[32, 61, 32]⟩ : ByteArray)) ++ (⟨#[115]⟩ : ByteArray)) ++ t105) ++ (⟨#[32]⟩ : ByteArray)) ++ a0_6) ++ (⟨#[32, 115]⟩ : ByteArray)).size + t106.size ≤ 9223372036854775807 then (some (((((((((⟨#[115]⟩ : ByteArray) ++ t102) ++ (⟨#[32, 61, 32]⟩ : ByteArray)) ++ (⟨#[115]⟩ : ByteArray)) ++ t105) ++ (⟨#[32]⟩ : ByteArray)) ++ a0_6) ++ (⟨#[32, 115]⟩ : ByteArray)) ++ t106)) else (none))) else (none)) else (none)) else (none)) else (none))) else (none)) else (if a0_0 = 3 then ((spec_l04At.f k a0_0 a0_1 a0_2 a0_3 a0_4 a0_5 a0_6).bind fun t107 => (if (((⟨#[115]⟩ : ByteArray) ++ t102) ++ (⟨#[32, 61, 32]⟩ : ByteArray)).size + t107.size ≤ 9223372036854775807 then (some ((((⟨#[115]⟩ : ByteArray) ++ t102) ++ (⟨#[32, 61, 32]⟩ : ByteArray)) ++ t107)) else (none))) else (if a0_0 = 4 then ((spec_l04At.f k a0_0 a0_1 a0_2 a0_3 a0_4 a0_5 a0_6).bind fun t108 => (if t108.size + 4 ≤ 9223372036854775807 then ((spec_DecText.f k a0_4).bind fun t109 => (if (t108 ++ (⟨#[32, 61, 32, 115]⟩ : ByteArray)).size + t109.size ≤ 9223372036854775807 then (some ((t108 ++ (⟨#[32, 61, 32, 115]⟩ : ByteArray)) ++ t109)) else (none))) else (none))) else (if a0_0 = 5 then (if (((⟨#[115]⟩ : ByteArray) ++ t102) ++ (⟨#[32, 61, 32]⟩ : ByteArray)).size + 3 ≤ 9223372036854775807 then (some ((((⟨#[115]⟩ : ByteArray) ++ t102) ++ (⟨#[32, 61, 32]⟩ : ByteArray)) ++ (⟨#[103, 101, 116]⟩ : ByteArray))) else (none)) else ((spec_DecText.f k a0_2).bind fun t110 => (if 5 + t110.size ≤ 9223372036854775807 then (some ((⟨#[112, 117, 116, 32, 115]⟩ : ByteArray) ++ t110)) else (none))))))))) else (none)) else (none))
theorem spec_l04Text.mono : ∀ a0 a1 a2 a3 a4 a5 a6 k, LeO (spec_l04Text.f k a0 a1 a2 a3 a4 a5 a6) (spec_l04Text.f (k + 1) a0 a1 a2 a3 a4 a5 a6) := by
  intro a0 a1 a2 a3 a4 a5 a6 k
  unfold spec_l04Text.f
  repeat' first
      | (with_reducible exact spec_DecText.mono _ _)
      | (with_reducible exact spec_l04At.mono _ _ _ _ _ _ _ _)
      | (with_reducible exact LeO.refl _)
      | (with_reducible exact LeO.none _)
      | (with_reducible refine LeO.ite ?_ ?_)
      | (with_reducible refine LeO.bind ?_ (fun _ => ?_))
      | exact spec_DecText.mono _ _
      | exact spec_l04At.mono _ _ _ _ _ _ _ _
      | exact LeO.none _
      | refine LeO.ite ?_ ?_
      | refine LeO.bind ?_ (fun _ => ?_)
def spec_l04Text.T8 : Bool × List (List Nat × List Nat) := (true, [([], []), ([0], [0]), ([], []), ([2], [2]), ([3], [3]), ([1, 4], [1, 4]), ([5], [5]), ([], []), ([7], [7]), ([6, 8], [6, 8]), ([9], [9]), ([], []), ([11], [11]), ([12, 4], [12]), ([10, 13], [10, 13]), ([14, 13, 0, 1, 2, 3, 4, 5, 6, 7, 8, 9, 10, 11, 12, 13, 14], [14])])
def spec_l04Text.B8 : List Nat := [0, 1, 0, 4, 12, 31, 63, 0, 128, 511, 1023, 0, 2048, 6172, 16383, 32767]
theorem spec_l04Text.tab8 : rtab .any (opsOf Tryd.f17 8) = spec_l04Text.T8 := by kernel_rfl
theorem spec_l04Text.bits8 : waitsOk spec_l04Text.T8.2 spec_l04Text.B8 = true := by kernel_rfl
def spec_l04Text.T12 : Bool × List (List Nat × List Nat) := (true, [([], []), ([0], [0]), ([1], [1]), ([], []), ([3], [3]), ([4, 1], [4]), ([2, 5], [2, 5]), ([6, 5, 0, 1, 2, 3, 4, 5, 6], [6])])
def spec_l04Text.B12 : List Nat := [0, 1, 3, 0, 8, 27, 63, 127]
theorem spec_l04Text.tab12 : rtab .any (opsOf Tryd.f17 12) = spec_l04Text.T12 := by kernel_rfl
theorem spec_l04Text.bits12 : waitsOk spec_l04Text.T12.2 spec_l04Text.B12 = true := by kernel_rfl
set_option maxHeartbeats 8000000 in
set_option maxRecDepth 100000 in
theorem spec_l04Text.calls (k : Nat) (a0_0 : Int) (a0_1 : Int) (a0_2 : Int) (a0_3 : Int) (a0_4 : Int) (a0_5 : Int) (a0_6 : ByteArray) (r : ByteArray) (w : World) (h : spec_l04Text.f k a0_0 a0_1 a0_2 a0_3 a0_4 a0_5 a0_6 = some r) :
    Calls Tryd.prog 17 #[.agg #[.int .i64 a0_0, .int .i64 a0_1, .int .i64 a0_2, .int .i64 a0_3, .int .i64 a0_4, .int .i64 a0_5, .string a0_6]] w fun e w' => e = .returned (.string r) ∧ Below w.heap.size w w' := by
  have hu35 := Tryd.underlying35
  have HB := Zs0.mk (Below.refl w.heap.size w)
  have H : ((spec_DecText.f k a0_1).bind fun t102 => (if 1 + t102.size ≤ 9223372036854775807 then (if ((⟨#[115]⟩ : ByteArray) ++ t102).size + 3 ≤ 9223372036854775807 then (if a0_0 = 0 then ((spec_DecText.f k a0_5).bind fun t103 => (if (((⟨#[115]⟩ : ByteArray) ++ t102) ++ (⟨#[32, 61, 32]⟩ : ByteArray)).size + t103.size ≤ 9223372036854775807 then (some ((((⟨#[115]⟩ : ByteArray) ++ t102) ++ (⟨#[32, 61, 32]⟩ : ByteArray)) ++ t103)) else (none))) else (if a0_0 = 1 then (if (((⟨#[115]⟩ : ByteArray) ++ t102) ++ (⟨#[32, 61, 32]⟩ : ByteArray)).size + 1 ≤ 9223372036854775807 then ((spec_DecText.f k a0_2).bind fun t104 => (if ((((⟨#[115]⟩ : ByteArray) ++ t102) ++ (⟨#[32, 61, 32]⟩ : ByteArray)) ++ (⟨#[115]⟩ : ByteArray)).size + t104.size ≤ 9223372036854775807 then (some (((((⟨#[115]⟩ : ByteArray) ++ t102) ++ (⟨#[32, 61, 32]⟩ : ByteArray)) ++ (⟨#[115]⟩ : ByteArray)) ++ t104)) else (none))) else (none)) else (if a0_0 = 2 then (if (((⟨#[115]⟩ : ByteArray) ++ t102) ++ (⟨#[32, 61, 32]⟩ : ByteArray)).size + 1 ≤ 9223372036854775807 then ((spec_DecText.f k a0_2).bind fun t105 => (if ((((⟨#[115]⟩ : ByteArray) ++ t102) ++ (⟨#[32, 61, 32]⟩ : ByteArray)) ++ (⟨#[115]⟩ : ByteArray)).size + t105.size ≤ 9223372036854775807 then (if (((((⟨#[115]⟩ : ByteArray) ++ t102) ++ (⟨#[32, 61, 32]⟩ : ByteArray)) ++ (⟨#[115]⟩ : ByteArray)) ++ t105).size + 1 ≤ 9223372036854775807 then (if ((((((⟨#[115]⟩ : ByteArray) ++ t102) ++ (⟨#[32, 61, 32]⟩ : ByteArray)) ++ (⟨#[115]⟩ : ByteArray)) ++ t105) ++ (⟨#[32]⟩ : ByteArray)).size + a0_6.size ≤ 9223372036854775807 then (if (((((((⟨#[115]⟩ : ByteArray) ++ t102) ++ (⟨#[32, 61, 32]⟩ : ByteArray)) ++ (⟨#[115]⟩ : ByteArray)) ++ t105) ++ (⟨#[32]⟩ : ByteArray)) ++ a0_6).size + 2 ≤ 9223372036854775807 then ((spec_DecText.f k a0_3).bind fun t106 => (if ((((((((⟨#[115]⟩ : ByteArray) ++ t102) ++ (⟨#[32, 61, 32]⟩ : ByteArray)) ++ (⟨#[115]⟩ : ByteArray)) ++ t105) ++ (⟨#[32]⟩ : ByteArray)) ++ a0_6) ++ (⟨#[32, 115]⟩ : ByteArray)).size + t106.size ≤ 9223372036854775807 then (some (((((((((⟨#[115]⟩ : ByteArray) ++ t102) ++ (⟨#[32, 61, 32]⟩ : ByteArray)) ++ (⟨#[115]⟩ : ByteArray)) ++ t105) ++ (⟨#[32]⟩ : ByteArray)) ++ a0_6) ++ (⟨#[32, 115]⟩ : ByteArray)) ++ t106)) else (none))) else (none)) else (none)) else (none)) else (none))) else (none)) else (if a0_0 = 3 then ((spec_l04At.f k a0_0 a0_1 a0_2 a0_3 a0_4 a0_5 a0_6).bind fun t107 => (if (((⟨#[115]⟩ : ByteArray) ++ t102) ++ (⟨#[32, 61, 32]⟩ : ByteArray)).size + t107.size ≤ 9223372036854775807 then (some ((((⟨#[115]⟩ : ByteArray) ++ t102) ++ (⟨#[32, 61, 32]⟩ : ByteArray)) ++ t107)) else (none))) else (if a0_0 = 4 then ((spec_l04At.f k a0_0 a0_1 a0_2 a0_3 a0_4 a0_5 a0_6).bind fun t108 => (if t108.size + 4 ≤ 9223372036854775807 then ((spec_DecText.f k a0_4).bind fun t109 => (if (t108 ++ (⟨#[32, 61, 32, 115]⟩ : ByteArray)).size + t109.size ≤ 9223372036854775807 then (some ((t108 ++ (⟨#[32, 61, 32, 115]⟩ : ByteArray)) ++ t109)) else (none))) else (none))) else (if a0_0 = 5 then (if (((⟨#[115]⟩ : ByteArray) ++ t102) ++ (⟨#[32, 61, 32]⟩ : ByteArray)).size + 3 ≤ 9223372036854775807 then (some ((((⟨#[115]⟩ : ByteArray) ++ t102) ++ (⟨#[32, 61, 32]⟩ : ByteArray)) ++ (⟨#[103, 101, 116]⟩ : ByteArray))) else (none)) else ((spec_DecText.f k a0_2).bind fun t110 => (if 5 + t110.size ≤ 9223372036854775807 then (some ((⟨#[112, 117, 116, 32, 115]⟩ : ByteArray) ++ t110)) else (none))))))))) else (none)) else (none))) = some r := h
  clear h
  replace H := Option.bind_eq_some_iff.mp H
  obtain ⟨t102, A20, H⟩ := H
  replace H : (if 1 + t102.size ≤ 9223372036854775807 then (if ((⟨#[115]⟩ : ByteArray) ++ t102).size + 3 ≤ 9223372036854775807 then (if a0_0 = 0 then ((spec_DecText.f k a0_5).bind fun t103 => (if (((⟨#[115]⟩ : ByteArray) ++ t102) ++ (⟨#[32, 61, 32]⟩ : ByteArray)).size + t103.size ≤ 9223372036854775807 then (some ((((⟨#[115]⟩ : ByteArray) ++ t102) ++ (⟨#[32, 61, 32]⟩ : ByteArray)) ++ t103)) else (none))) else (if a0_0 = 1 then (if (((⟨#[115]⟩ : ByteArray) ++ t102) ++ (⟨#[32, 61, 32]⟩ : ByteArray)).size + 1 ≤ 9223372036854775807 then ((spec_DecText.f k a0_2).bind fun t104 => (if ((((⟨#[115]⟩ : ByteArray) ++ t102) ++ (⟨#[32, 61, 32]⟩ : ByteArray)) ++ (⟨#[115]⟩ : ByteArray)).size + t104.size ≤ 9223372036854775807 then (some (((((⟨#[115]⟩ : ByteArray) ++ t102) ++ (⟨#[32, 61, 32]⟩ : ByteArray)) ++ (⟨#[115]⟩ : ByteArray)) ++ t104)) else (none))) else (none)) else (if a0_0 = 2 then (if (((⟨#[115]⟩ : ByteArray) ++ t102) ++ (⟨#[32, 61, 32]⟩ : ByteArray)).size + 1 ≤ 9223372036854775807 then ((spec_DecText.f k a0_2).bind fun t105 => (if ((((⟨#[115]⟩ : ByteArray) ++ t102) ++ (⟨#[32, 61, 32]⟩ : ByteArray)) ++ (⟨#[115]⟩ : ByteArray)).size + t105.size ≤ 9223372036854775807 then (if (((((⟨#[115]⟩ : ByteArray) ++ t102) ++ (⟨#[32, 61, 32]⟩ : ByteArray)) ++ (⟨#[115]⟩ : ByteArray)) ++ t105).size + 1 ≤ 9223372036854775807 then (if ((((((⟨#[115]⟩ : ByteArray) ++ t102) ++ (⟨#[32, 61, 32]⟩ : ByteArray)) ++ (⟨#[115]⟩ : ByteArray)) ++ t105) ++ (⟨#[32]⟩ : ByteArray)).size + a0_6.size ≤ 9223372036854775807 then (if (((((((⟨#[115]⟩ : ByteArray) ++ t102) ++ (⟨#[32, 61, 32]⟩ : ByteArray)) ++ (⟨#[115]⟩ : ByteArray)) ++ t105) ++ (⟨#[32]⟩ : ByteArray)) ++ a0_6).size + 2 ≤ 9223372036854775807 then ((spec_DecText.f k a0_3).bind fun t106 => (if ((((((((⟨#[115]⟩ : ByteArray) ++ t102) ++ (⟨#[32, 61, 32]⟩ : ByteArray)) ++ (⟨#[115]⟩ : ByteArray)) ++ t105) ++ (⟨#[32]⟩ : ByteArray)) ++ a0_6) ++ (⟨#[32, 115]⟩ : ByteArray)).size + t106.size ≤ 9223372036854775807 then (some (((((((((⟨#[115]⟩ : ByteArray) ++ t102) ++ (⟨#[32, 61, 32]⟩ : ByteArray)) ++ (⟨#[115]⟩ : ByteArray)) ++ t105) ++ (⟨#[32]⟩ : ByteArray)) ++ a0_6) ++ (⟨#[32, 115]⟩ : ByteArray)) ++ t106)) else (none))) else (none)) else (none)) else (none)) else (none))) else (none)) else (if a0_0 = 3 then ((spec_l04At.f k a0_0 a0_1 a0_2 a0_3 a0_4 a0_5 a0_6).bind fun t107 => (if (((⟨#[115]⟩ : ByteArray) ++ t102) ++ (⟨#[32, 61, 32]⟩ : ByteArray)).size + t107.size ≤ 9223372036854775807 then (some ((((⟨#[115]⟩ : ByteArray) ++ t102) ++ (⟨#[32, 61, 32]⟩ : ByteArray)) ++ t107)) else (none))) else (if a0_0 = 4 then ((spec_l04At.f k a0_0 a0_1 a0_2 a0_3 a0_4 a0_5 a0_6).bind fun t108 => (if t108.size + 4 ≤ 9223372036854775807 then ((spec_DecText.f k a0_4).bind fun t109 => (if (t108 ++ (⟨#[32, 61, 32, 115]⟩ : ByteArray)).size + t109.size ≤ 9223372036854775807 then (some ((t108 ++ (⟨#[32, 61, 32, 115]⟩ : ByteArray)) ++ t109)) else (none))) else (none))) else (if a0_0 = 5 then (if (((⟨#[115]⟩ : ByteArray) ++ t102) ++ (⟨#[32, 61, 32]⟩ : ByteArray)).size + 3 ≤ 9223372036854775807 then (some ((((⟨#[115]⟩ : ByteArray) ++ t102) ++ (⟨#[32, 61, 32]⟩ : ByteArray)) ++ (⟨#[103, 101, 116]⟩ : ByteArray))) else (none)) else ((spec_DecText.f k a0_2).bind fun t110 => (if 5 + t110.size ≤ 9223372036854775807 then (some ((⟨#[112, 117, 116, 32, 115]⟩ : ByteArray) ++ t110)) else (none))))))))) else (none)) else (none)) = some r := H
  have A2 := Zs0.mk A20
  clear A20
  have c3 := ipos H
  rw [if_pos c3] at H
  have c3b0 := eq_true c3
  have c3b1 := decide_eq_true c3
  try have c3b2 := eq_false (Nat.not_lt.2 c3)
  have c4 := ipos H
  rw [if_pos c4] at H
  have c4b0 := eq_true c4
  have c4b1 := decide_eq_true c4
  try have c4b2 := eq_false (Nat.not_lt.2 c4)
  have c4n0 : 1 + t102.size + 3 ≤ 9223372036854775807 := by have h_ := c4; simp only [ByteArray.size_append] at h_; exact h_
  have c4n1 := eq_true c4n0
  have c4n2 := eq_false (Nat.not_lt.2 c4n0)
  by_cases c5 : a0_0 = 0
  · rw [if_pos c5] at H
    have c5b0 : (a0_0 == 0) = true := beq_iff_eq.mpr c5
    have c5b1 : (a0_0 != 0) = false := bne_eq_false_iff_eq.mpr c5
    clear c5
    replace H := Option.bind_eq_some_iff.mp H
    obtain ⟨t103, A60, H⟩ := H
    replace H : (if (((⟨#[115]⟩ : ByteArray) ++ t102) ++ (⟨#[32, 61, 32]⟩ : ByteArray)).size + t103.size ≤ 9223372036854775807 then (some ((((⟨#[115]⟩ : ByteArray) ++ t102) ++ (⟨#[32, 61, 32]⟩ : ByteArray)) ++ t103)) else (none)) = some r := H
    have A6 := Zs0.mk A60
    clear A60
    have c7 := ipos H
    rw [if_pos c7] at H
    have c7b0 := eq_true c7
    have c7b1 := decide_eq_true c7
    try have c7b2 := eq_false (Nat.not_lt.2 c7)
    have c7n0 : 1 + t102.size + 3 + t103.size ≤ 9223372036854775807 := by have h_ := c7; simp only [ByteArray.size_append] at h_; exact h_
    have c7n1 := eq_true c7n0
    have c7n2 := eq_false (Nat.not_lt.2 c7n0)
    obtain rfl := Option.some.inj H
    go_enter Tryd.func17, Tryd.ntmps17
    go_wp2_with (first | ((with_reducible refine gtD (N := 1) rfl ?_); refine box_event ?hg (N := 1) ?hd (cs := #[.int .i64 a0_0, .int .i64 a0_1, .int .i64 a0_2, .int .i64 a0_3, .int .i64 a0_4, .int .i64 a0_5, .string a0_6]) (t := 35) ?hr ?_; (case hd => rfl); (case hg => rfl); (case hr => first | (go_simp; done) | (go_simp; rfl)); intro gb101 hg w8 hbox hb; have n0_ := Zs0.mk (blT (by repeat (first | (with_reducible first | exact HB.out | apply blA | apply pbN | apply bl1) | exact HB.out)) hb); have n1_ := Zs0.mk (hbox); have n2_ := Zs0.mk ((by rw [hg]; exact (blZ (by repeat (first | (with_reducible first | exact HB.out | apply blA | apply pbN | apply bl1) | exact HB.out))) : w.heap.size ≤ gb101)); have n3_ := Zs0.mk ((by rw [hg]; exact (blZ (by repeat (first | (with_reducible first | exact HB.out | apply blA | apply pbN | apply bl1) | exact HB.out))) : w.heap.size ≤ gb101)); clear HB; have HB := n0_; have BK101 := n1_; have GW101 := n2_; have GE101 := n3_; clear n0_ n1_ n2_ n3_; clear hb hbox hg; obtain ⟨hcz9_0, hcz9_1, hcz9_2, hcz9_3, hcz9_4, hcz9_5, hcz9_6, hfz9_0, hfz9_1, hfz9_2, hfz9_3, hfz9_4, hfz9_5, hfz9_6⟩ := bx7 BK101.out) | ((with_reducible refine gtC (f := 25) rfl ?_); refine goesL_ (some 6) rfl rfl Tryd.func25 (by kernel_rfl) rfl #[.int .i64 a0_1] rfl (by (try simp only [List.map_toArray, List.map_cons, List.map_nil]); first | done | rfl | (simp only [List.length_drop, List.length_take]; rfl)) ?_; (with_reducible refine (spec_DecText.calls k a0_1 t102 _ A2.out).mono ?_); rintro e w' ⟨rfl, ⟨nd, rfl⟩⟩; refine ⟨_, rfl, ?_⟩) | ((with_reducible refine gtC (f := 25) rfl ?_); refine goesL_ (some 16) rfl rfl Tryd.func25 (by kernel_rfl) rfl #[.int .i64 a0_5] rfl (by (try simp only [List.map_toArray, List.map_cons, List.map_nil]); first | done | rfl | (simp only [List.length_drop, List.length_take]; rfl)) ?_; (with_reducible refine (spec_DecText.calls k a0_5 t103 _ A6.out).mono ?_); rintro e w' ⟨rfl, ⟨nd, rfl⟩⟩; refine ⟨_, rfl, ?_⟩))
    go_ret
    exact ⟨by first | rfl | (simp [eWn, eWs] <;> rfl) | (simp [*, eWn, eWs] <;> rfl), by repeat (first | (with_reducible first | exact HB.out | apply blA | apply pbN | apply bl1 | refine blS ?_ GE101.out) | exact HB.out)⟩
  · rw [if_neg c5] at H
    have c5b0 : (a0_0 == 0) = false := beq_eq_false_iff_ne.mpr c5
    have c5b1 : (a0_0 != 0) = true := bne_iff_ne.mpr c5
    by_cases c10 : a0_0 = 1
    · rw [if_pos c10] at H
      have c10b0 : (a0_0 == 1) = true := beq_iff_eq.mpr c10
      have c10b1 : (a0_0 != 1) = false := bne_eq_false_iff_eq.mpr c10
      clear c10
      have c11 := ipos H
      rw [if_pos c11] at H
      have c11b0 := eq_true c11
      have c11b1 := decide_eq_true c11
      try have c11b2 := eq_false (Nat.not_lt.2 c11)
      have c11n0 : 1 + t102.size + 3 + 1 ≤ 9223372036854775807 := by have h_ := c11; simp only [ByteArray.size_append] at h_; exact h_
      have c11n1 := eq_true c11n0
      have c11n2 := eq_false (Nat.not_lt.2 c11n0)
      replace H := Option.bind_eq_some_iff.mp H
      obtain ⟨t104, A120, H⟩ := H
      replace H : (if ((((⟨#[115]⟩ : ByteArray) ++ t102) ++ (⟨#[32, 61, 32]⟩ : ByteArray)) ++ (⟨#[115]⟩ : ByteArray)).size + t104.size ≤ 9223372036854775807 then (some (((((⟨#[115]⟩ : ByteArray) ++ t102) ++ (⟨#[32, 61, 32]⟩ : ByteArray)) ++ (⟨#[115]⟩ : ByteArray)) ++ t104)) else (none)) = some r := H
      have A12 := Zs0.mk A120
      clear A120
      have c13 := ipos H
      rw [if_pos c13] at H
      have c13b0 := eq_true c13
      have c13b1 := decide_eq_true c13
      try have c13b2 := eq_false (Nat.not_lt.2 c13)
      have c13n0 : 1 + t102.size + 3 + 1 + t104.size ≤ 9223372036854775807 := by have h_ := c13; simp only [ByteArray.size_append] at h_; exact h_
      have c13n1 := eq_true c13n0
      have c13n2 := eq_false (Nat.not_lt.2 c13n0)
      obtain rfl := Option.some.inj H
      go_enter Tryd.func17, Tryd.ntmps17
      go_wp2_with (first | ((with_reducible refine gtD (N := 1) rfl ?_); refine box_event ?hg (N := 1) ?hd (cs := #[.int .i64 a0_0, .int .i64 a0_1, .int .i64 a0_2, .int .i64 a0_3, .int .i64 a0_4, .int .i64 a0_5, .string a0_6]) (t := 35) ?hr ?_; (case hd => rfl); (case hg => rfl); (case hr => first | (go_simp; done) | (go_simp; rfl)); intro gb101 hg w14 hbox hb; have n0_ := Zs0.mk (blT (by repeat (first | (with_reducible first | exact HB.out | apply blA | apply pbN | apply bl1) | exact HB.out)) hb); have n1_ := Zs0.mk (hbox); have n2_ := Zs0.mk ((by rw [hg]; exact (blZ (by repeat (first | (with_reducible first | exact HB.out | apply blA | apply pbN | apply bl1) | exact HB.out))) : w.heap.size ≤ gb101)); have n3_ := Zs0.mk ((by rw [hg]; exact (blZ (by repeat (first | (with_reducible first | exact HB.out | apply blA | apply pbN | apply bl1) | exact HB.out))) : w.heap.size ≤ gb101)); clear HB; have HB := n0_; have BK101 := n1_; have GW101 := n2_; have GE101 := n3_; clear n0_ n1_ n2_ n3_; clear hb hbox hg; obtain ⟨hcz15_0, hcz15_1, hcz15_2, hcz15_3, hcz15_4, hcz15_5, hcz15_6, hfz15_0, hfz15_1, hfz15_2, hfz15_3, hfz15_4, hfz15_5, hfz15_6⟩ := bx7 BK101.out) | ((with_reducible refine gtC (f := 25) rfl ?_); refine goesL_ (some 6) rfl rfl Tryd.func25 (by kernel_rfl) rfl #[.int .i64 a0_1] rfl (by (try simp only [List.map_toArray, List.map_cons, List.map_nil]); first | done | rfl | (simp only [List.length_drop, List.length_take]; rfl)) ?_; (with_reducible refine (spec_DecText.calls k a0_1 t102 _ A2.out).mono ?_); rintro e w' ⟨rfl, ⟨nd, rfl⟩⟩; refine ⟨_, rfl, ?_⟩) | ((with_reducible refine gtC (f := 25) rfl ?_); refine goesL_ (some 24) rfl rfl Tryd.func25 (by kernel_rfl) rfl #[.int .i64 a0_2] rfl (by (try simp only [List.map_toArray, List.map_cons, List.map_nil]); first | done | rfl | (simp only [List.length_drop, List.length_take]; rfl)) ?_; (with_reducible refine (spec_DecText.calls k a0_2 t104 _ A12.out).mono ?_); rintro e w' ⟨rfl, ⟨nd, rfl⟩⟩; refine ⟨_, rfl, ?_⟩))
      go_ret
      exact ⟨by first | rfl | (simp [eWn, eWs] <;> rfl) | (simp [*, eWn, eWs] <;> rfl), by repeat (first | (with_reducible first | exact HB.out | apply blA | apply pbN | apply bl1 | refine blS ?_ GE101.out) | exact HB.out)⟩
    · rw [if_neg c10] at H
      have c10b0 : (a0_0 == 1) = false := beq_eq_false_iff_ne.mpr c10
      have c10b1 : (a0_0 != 1) = true := bne_iff_ne.mpr c10
      by_cases c16 : a0_0 = 2
      · rw [if_pos c16] at H
        have c16b0 : (a0_0 == 2) = true := beq_iff_eq.mpr c16
        have c16b1 : (a0_0 != 2) = false := bne_eq_false_iff_eq.mpr c16
        clear c16
        have c17 := ipos H
        rw [if_pos c17] at H
        have c17b0 := eq_true c17
        have c17b1 := decide_eq_true c17
        try have c17b2 := eq_false (Nat.not_lt.2 c17)
        have c17n0 : 1 + t102.size + 3 + 1 ≤ 9223372036854775807 := by have h_ := c17; simp only [ByteArray.size_append] at h_; exact h_
        have c17n1 := eq_true c17n0
        have c17n2 := eq_false (Nat.not_lt.2 c17n0)
        replace H := Option.bind_eq_some_iff.mp H
        obtain ⟨t105, A180, H⟩ := H
        replace H : (if ((((⟨#[115]⟩ : ByteArray) ++ t102) ++ (⟨#[32, 61, 32]⟩ : ByteArray)) ++ (⟨#[115]⟩ : ByteArray)).size + t105.size ≤ 9223372036854775807 then (if (((((⟨#[115]⟩ : ByteArray) ++ t102) ++ (⟨#[32, 61, 32]⟩ : ByteArray)) ++ (⟨#[115]⟩ : ByteArray)) ++ t105).size + 1 ≤ 9223372036854775807 then (if ((((((⟨#[115]⟩ : ByteArray) ++ t102) ++ (⟨#[32, 61, 32]⟩ : ByteArray)) ++ (⟨#[115]⟩ : ByteArray)) ++ t105) ++ (⟨#[32]⟩ : ByteArray)).size + a0_6.size ≤ 9223372036854775807 then (if (((((((⟨#[115]⟩ : ByteArray) ++ t102) ++ (⟨#[32, 61, 32]⟩ : ByteArray)) ++ (⟨#[115]⟩ : ByteArray)) ++ t105) ++ (⟨#[32]⟩ : ByteArray)) ++ a0_6).size + 2 ≤ 9223372036854775807 then ((spec_DecText.f k a0_3).bind fun t106 => (if ((((((((⟨#[115]⟩ : ByteArray) ++ t102) ++ (⟨#[32, 61, 32]⟩ : ByteArray)) ++ (⟨#[115]⟩ : ByteArray)) ++ t105) ++ (⟨#[32]⟩ : ByteArray)) ++ a0_6) ++ (⟨#[32, 115]⟩ : ByteArray)).size + t106.size ≤ 9223372036854775807 then (some (((((((((⟨#[115]⟩ : ByteArray) ++ t102) ++ (⟨#[32, 61, 32]⟩ : ByteArray)) ++ (⟨#[115]⟩ : ByteArray)) ++ t105) ++ (⟨#[32]⟩ : ByteArray)) ++ a0_6) ++ (⟨#[32, 115]⟩ : ByteArray)) ++ t106)) else (none))) else (none)) else (none)) else (none)) else (none)) = some r := H
        have A18 := Zs0.mk A180
        clear A180
        have c19 := ipos H
        rw [if_pos c19] at H
        have c19b0 := eq_true c19
        have c19b1 := decide_eq_true c19
        try have c19b2 := eq_false (Nat.not_lt.2 c19)
        have c19n0 : 1 + t102.size + 3 + 1 + t105.size ≤ 9223372036854775807 := by have h_ := c19; simp only [ByteArray.size_append] at h_; exact h_
        have c19n1 := eq_true c19n0
        have c19n2 := eq_false (Nat.not_lt.2 c19n0)
        have c20 := ipos H
        rw [if_pos c20] at H
        have c20b0 := eq_true c20
        have c20b1 := decide_eq_true c20
        try have c20b2 := eq_false (Nat.not_lt.2 c20)
        have c20n0 : 1 + t102.size + 3 + 1 + t105.size + 1 ≤ 9223372036854775807 := by have h_ := c20; simp only [ByteArray.size_append] at h_; exact h_
        have c20n1 := eq_true c20n0
        have c20n2 := eq_false (Nat.not_lt.2 c20n0)
        have c21 := ipos H
        rw [if_pos c21] at H
        have c21b0 := eq_true c21
        have c21b1 := decide_eq_true c21
        try have c21b2 := eq_false (Nat.not_lt.2 c21)
        have c21n0 : 1 + t102.size + 3 + 1 + t105.size + 1 + a0_6.size ≤ 9223372036854775807 := by have h_ := c21; simp only [ByteArray.size_append] at h_; exact h_
        have c21n1 := eq_true c21n0
        have c21n2 := eq_false (Nat.not_lt.2 c21n0)
        have c22 := ipos H
        rw [if_pos c22] at H
        have c22b0 := eq_true c22
        have c22b1 := decide_eq_true c22
        try have c22b2 := eq_false (Nat.not_lt.2 c22)
        have c22n0 : 1 + t102.size + 3 + 1 + t105.size + 1 + a0_6.size + 2 ≤ 9223372036854775807 := by have h_ := c22; simp only [ByteArray.size_append] at h_; exact h_
        have c22n1 := eq_true c22n0
        have c22n2 := eq_false (Nat.not_lt.2 c22n0)
        replace H := Option.bind_eq_some_iff.mp H
        obtain ⟨t106, A230, H⟩ := H
        replace H : (if ((((((((⟨#[115]⟩ : ByteArray) ++ t102) ++ (⟨#[32, 61, 32]⟩ : ByteArray)) ++ (⟨#[115]⟩ : ByteArray)) ++ t105) ++ (⟨#[32]⟩ : ByteArray)) ++ a0_6) ++ (⟨#[32, 115]⟩ : ByteArray)).size + t106.size ≤ 9223372036854775807 then (some (((((((((⟨#[115]⟩ : ByteArray) ++ t102) ++ (⟨#[32, 61, 32]⟩ : ByteArray)) ++ (⟨#[115]⟩ : ByteArray)) ++ t105) ++ (⟨#[32]⟩ : ByteArray)) ++ a0_6) ++ (⟨#[32, 115]⟩ : ByteArray)) ++ t106)) else (none)) = some r := H
        have A23 := Zs0.mk A230
        clear A230
        have c24 := ipos H
        rw [if_pos c24] at H
        have c24b0 := eq_true c24
        have c24b1 := decide_eq_true c24
        try have c24b2 := eq_false (Nat.not_lt.2 c24)
        have c24n0 : 1 + t102.size + 3 + 1 + t105.size + 1 + a0_6.size + 2 + t106.size ≤ 9223372036854775807 := by have h_ := c24; simp only [ByteArray.size_append] at h_; exact h_
        have c24n1 := eq_true c24n0
        have c24n2 := eq_false (Nat.not_lt.2 c24n0)
        obtain rfl := Option.some.inj H
        go_enter Tryd.func17, Tryd.ntmps17
        try go_wp2_with (first | ((with_reducible refine gtD (N := 1) rfl ?_); refine box_event ?hg (N := 1) ?hd (cs := #[.int .i64 a0_0, .int .i64 a0_1, .int .i64 a0_2, .int .i64 a0_3, .int .i64 a0_4, .int .i64 a0_5, .string a0_6]) (t := 35) ?hr ?_; (case hd => rfl); (case hg => rfl); (case hr => first | (go_simp; done) | (go_simp; rfl)); intro gb101 hg w25 hbox hb; have n0_ := Zs0.mk (blT (by repeat (first | (with_reducible first | exact HB.out | apply blA | apply pbN | apply bl1) | exact HB.out)) hb); have n1_ := Zs0.mk (hbox); have n2_ := Zs0.mk ((by rw [hg]; exact (blZ (by repeat (first | (with_reducible first | exact HB.out | apply blA | apply pbN | apply bl1) | exact HB.out))) : w.heap.size ≤ gb101)); have n3_ := Zs0.mk ((by rw [hg]; exact (blZ (by repeat (first | (with_reducible first | exact HB.out | apply blA | apply pbN | apply bl1) | exact HB.out))) : w.heap.size ≤ gb101)); clear HB; have HB := n0_; have BK101 := n1_; have GW101 := n2_; have GE101 := n3_; clear n0_ n1_ n2_ n3_; clear hb hbox hg; obtain ⟨hcz26_0, hcz26_1, hcz26_2, hcz26_3, hcz26_4, hcz26_5, hcz26_6, hfz26_0, hfz26_1, hfz26_2, hfz26_3, hfz26_4, hfz26_5, hfz26_6⟩ := bx7 BK101.out) | ((with_reducible refine gtC (f := 25) rfl ?_); refine goesL_ (some 6) rfl rfl Tryd.func25 (by kernel_rfl) rfl #[.int .i64 a0_1] rfl (by (try simp only [List.map_toArray, List.map_cons, List.map_nil]); first | done | rfl | (simp only [List.length_drop, List.length_take]; rfl)) ?_; (with_reducible refine (spec_DecText.calls k a0_1 t102 _ A2.out).mono ?_); rintro e w' ⟨rfl, ⟨nd, rfl⟩⟩; refine ⟨_, rfl, ?_⟩))
        (try (rw [drewN_self w25]; generalize hq_ : World.drewN w25 _ = w25; have n0_ : Zs0 (w25.heap[gb101]? = some (.cells #[.int .i64 a0_0, .int .i64 a0_1, .int .i64 a0_2, .int .i64 a0_3, .int .i64 a0_4, .int .i64 a0_5, .string a0_6] 35 (0, 0))) := ⟨by rw [← hq_]; exact (by (with_reducible repeat (first | refine bkN ?_ _ | refine bk1 ?_ | refine bkA ?_ _)); exact BK101.out)⟩; have n1_ : Zs0 (Below w.heap.size w w25) := ⟨by rw [← hq_]; exact (by repeat (first | (with_reducible first | exact HB.out | apply blA | apply pbN | apply bl1 | refine blS ?_ GE101.out) | exact HB.out))⟩; clear BK101 HB hq_; have BK101 := n0_; have HB := n1_; clear n0_ n1_))
        have n0_ := Zs0.mk (bk1 BK101.out)
        have n1_ := Zs0.mk (bl1 HB.out)
        clear BK101
        clear HB
        have BK101 := n0_
        have HB := n1_
        clear n0_ n1_
        refine start_ (n := 16) (S := fun w' => w'.cell? ⟨gb101, 0, none⟩ = some (.int .i64 a0_0) ∧ w'.cell? ⟨gb101, 1, none⟩ = some (.int .i64 a0_1) ∧ w'.cell? ⟨gb101, 2, none⟩ = some (.int .i64 a0_2) ∧ w'.cell? ⟨gb101, 3, none⟩ = some (.int .i64 a0_3) ∧ w'.cell? ⟨gb101, 4, none⟩ = some (.int .i64 a0_4) ∧ w'.cell? ⟨gb101, 5, none⟩ = some (.int .i64 a0_5) ∧ w'.cell? ⟨gb101, 6, none⟩ = some (.string a0_6)) (ds := []) #[false, false, false, false, false, false, false, false, false, false, false, false, false, false, false, false] (by kernel_rfl) rfl rfl ⟨(blk_cell BK101.out 0).trans rfl, (blk_cell BK101.out 1).trans rfl, (blk_cell BK101.out 2).trans rfl, (blk_cell BK101.out 3).trans rfl, (blk_cell BK101.out 4).trans rfl, (blk_cell BK101.out 5).trans rfl, (blk_cell BK101.out 6).trans rfl⟩ (fun hHeld => ?_); refine with_tabW spec_l04Text.tab8 spec_l04Text.bits8 (fun HT_ HW_ => ?_)
        generalize w25.drew = w27 at BK101 HB hHeld ⊢
        refine pure_ (i := 0) (N := some 28) (v := ?_) (a' := ?_) #[true, false, false, false, false, false, false, false, false, false, false, false, false, false, false, false] rfl rfl (any_of HT_.out (by kernel_rfl)) (fun _ _ _ h => h) (Or.inl ⟨by rfl, ?_⟩) ?_ ?_
        rotate_left
        · intro w'
          go_simp
          with_reducible rfl
        rotate_left
        · simp only [Act.put, List.setIfInBounds_toArray, List.set_cons_zero, List.set_cons_succ, i64_w, i32_w]
          rfl
        refine pure_ (i := 1) (N := some 29) (v := ?_) (a' := ?_) #[true, true, false, false, false, false, false, false, false, false, false, false, false, false, false, false] rfl rfl (any_of HT_.out (by kernel_rfl)) (fun _ _ _ h => h) (Or.inl ⟨by rfl, ?_⟩) ?_ ?_
        rotate_left
        · intro w'
          go_simp
          with_reducible rfl
        rotate_left
        · simp only [Act.put, List.setIfInBounds_toArray, List.set_cons_zero, List.set_cons_succ, i64_w, i32_w]
          rfl
        refine pure_ (i := 2) (N := some 30) (v := ?_) (a' := ?_) #[true, true, true, false, false, false, false, false, false, false, false, false, false, false, false, false] rfl rfl (any_of HT_.out (by kernel_rfl)) (fun _ _ _ h => h) (Or.inl ⟨by rfl, ?_⟩) ?_ ?_
        rotate_left
        · intro w'
          go_simp
          with_reducible rfl
        rotate_left
        · simp only [Act.put, List.setIfInBounds_toArray, List.set_cons_zero, List.set_cons_succ, i64_w, i32_w]
          rfl
        refine pure_ (i := 7) (N := some 35) (v := ?_) (a' := ?_) #[true, true, true, false, false, false, false, true, false, false, false, false, false, false, false, false] rfl rfl (any_of HT_.out (by kernel_rfl)) (fun _ _ _ h => h) (Or.inl ⟨by rfl, ?_⟩) ?_ ?_
        rotate_left
        · intro w'
          go_simp
          with_reducible rfl
        rotate_left
        · simp only [Act.put, List.setIfInBounds_toArray, List.set_cons_zero, List.set_cons_succ, i64_w, i32_w]
          rfl
        refine pure_ (i := 11) (N := some 39) (v := ?_) (a' := ?_) #[true, true, true, false, false, false, false, true, false, false, false, true, false, false, false, false] rfl rfl (any_of HT_.out (by kernel_rfl)) (fun _ _ _ h => h) (Or.inl ⟨by rfl, ?_⟩) ?_ ?_
        rotate_left
        · intro w'
          go_simp
          with_reducible rfl
        rotate_left
        · simp only [Act.put, List.setIfInBounds_toArray, List.set_cons_zero, List.set_cons_succ, i64_w, i32_w]
          rfl
        refine take_ (i := 3) (N := some 31) (v := ?_) (a' := ?_) #[true, true, true, true, false, false, false, true, false, false, false, true, false, false, false, false] rfl rfl (take_ofW HT_.out HW_.out (by kernel_rfl)) (fun _ _ _ h => h) (Or.inl ⟨by rfl, ?_⟩) hHeld ?_ ?_
        rotate_left
        · rintro w' ⟨s0, s1, s2, s3, s4, s5, s6⟩
          go_simp
          with_reducible rfl
        rotate_left
        · simp only [Act.put, List.setIfInBounds_toArray, List.set_cons_zero, List.set_cons_succ, i64_w, i32_w]
          rfl
        refine take_ (i := 8) (N := some 36) (v := ?_) (a' := ?_) #[true, true, true, true, false, false, false, true, true, false, false, true, false, false, false, false] rfl rfl (take_ofW HT_.out HW_.out (by kernel_rfl)) (fun _ _ _ h => h) (Or.inl ⟨by rfl, ?_⟩) hHeld ?_ ?_
        rotate_left
        · rintro w' ⟨s0, s1, s2, s3, s4, s5, s6⟩
          go_simp
          with_reducible rfl
        rotate_left
        · simp only [Act.put, List.setIfInBounds_toArray, List.set_cons_zero, List.set_cons_succ, i64_w, i32_w]
          rfl
        refine take_ (i := 12) (N := some 40) (v := ?_) (a' := ?_) #[true, true, true, true, false, false, false, true, true, false, false, true, true, false, false, false] rfl rfl (take_ofW HT_.out HW_.out (by kernel_rfl)) (fun _ _ _ h => h) (Or.inl ⟨by rfl, ?_⟩) hHeld ?_ ?_
        rotate_left
        · rintro w' ⟨s0, s1, s2, s3, s4, s5, s6⟩
          go_simp
          with_reducible rfl
        rotate_left
        · simp only [Act.put, List.setIfInBounds_toArray, List.set_cons_zero, List.set_cons_succ, i64_w, i32_w]
          rfl
        refine one_ (i := 4) (N := some 32) #[true, true, true, true, true, false, false, true, true, false, false, true, true, false, false, false] rfl rfl (one_of HT_.out (by kernel_rfl)) (by decide) (fun K hK => ?_)
        refine goes_ Tryd.func25 (by kernel_rfl) rfl #[.int .i64 a0_2] (by rfl) rfl rfl (by (try simp only [List.map_toArray, List.map_cons, List.map_nil]); first | done | rfl | (simp only [List.length_drop, List.length_take]; rfl)) ?_
        with_reducible refine (spec_DecText.calls k a0_2 t105 _ A18.out).mono ?_
        rintro e w' ⟨rfl, ⟨nd, rfl⟩⟩
        refine ⟨_, rfl, ?_⟩
        refine hK.out _ _ ⟨(blk_cell BK101.out 0).trans rfl, (blk_cell BK101.out 1).trans rfl, (blk_cell BK101.out 2).trans rfl, (blk_cell BK101.out 3).trans rfl, (blk_cell BK101.out 4).trans rfl, (blk_cell BK101.out 5).trans rfl, (blk_cell BK101.out 6).trans rfl⟩ (fun hHeld => ?_)
        clear hK K
        refine norm_ (a' := ?_) ?_ ?_
        rotate_left
        · show Act.put _ (some 32) _ = _
          simp only [Act.put, List.setIfInBounds_toArray, List.set_cons_zero, List.set_cons_succ, i64_w, i32_w]
          rfl
        refine pure_ (i := 5) (N := some 33) (v := ?_) (a' := ?_) #[true, true, true, true, true, true, false, true, true, false, false, true, true, false, false, false] rfl rfl (any_of HT_.out (by kernel_rfl)) (fun _ _ _ h => h) (Or.inl ⟨by rfl, ?_⟩) ?_ ?_
        rotate_left
        · intro w'
          go_simp
          with_reducible rfl
        rotate_left
        · simp only [Act.put, List.setIfInBounds_toArray, List.set_cons_zero, List.set_cons_succ, i64_w, i32_w]
          rfl
        refine pure_ (i := 6) (N := some 34) (v := ?_) (a' := ?_) #[true, true, true, true, true, true, true, true, true, false, false, true, true, false, false, false] rfl rfl (any_of HT_.out (by kernel_rfl)) (fun _ _ _ h => h) (Or.inl ⟨by rfl, ?_⟩) ?_ ?_
        rotate_left
        · intro w'
          go_simp
          with_reducible rfl
        rotate_left
        · simp only [Act.put, List.setIfInBounds_toArray, List.set_cons_zero, List.set_cons_succ, i64_w, i32_w]
          rfl
        refine pure_ (i := 9) (N := some 37) (v := ?_) (a' := ?_) #[true, true, true, true, true, true, true, true, true, true, false, true, true, false, false, false] rfl rfl (any_of HT_.out (by kernel_rfl)) (fun _ _ _ h => h) (Or.inl ⟨by rfl, ?_⟩) ?_ ?_
        rotate_left
        · intro w'
          go_simp
          with_reducible rfl
        rotate_left
        · simp only [Act.put, List.setIfInBounds_toArray, List.set_cons_zero, List.set_cons_succ, i64_w, i32_w]
          rfl
        refine pure_ (i := 10) (N := some 38) (v := ?_) (a' := ?_) #[true, true, true, true, true, true, true, true, true, true, true, true, true, false, false, false] rfl rfl (any_of HT_.out (by kernel_rfl)) (fun _ _ _ h => h) (Or.inl ⟨by rfl, ?_⟩) ?_ ?_
        rotate_left
        · intro w'
          go_simp
          with_reducible rfl
        rotate_left
        · simp only [Act.put, List.setIfInBounds_toArray, List.set_cons_zero, List.set_cons_succ, i64_w, i32_w]
          rfl
        refine one_ (i := 13) (N := some 41) #[true, true, true, true, true, true, true, true, true, true, true, true, true, true, false, false] rfl rfl (one_of HT_.out (by kernel_rfl)) (by decide) (fun K hK => ?_)
        refine goes_ Tryd.func25 (by kernel_rfl) rfl #[.int .i64 a0_3] (by rfl) rfl rfl (by (try simp only [List.map_toArray, List.map_cons, List.map_nil]); first | done | rfl | (simp only [List.length_drop, List.length_take]; rfl)) ?_
        with_reducible refine (spec_DecText.calls k a0_3 t106 _ A23.out).mono ?_
        rintro e w' ⟨rfl, ⟨nd, rfl⟩⟩
        refine ⟨_, rfl, ?_⟩
        refine hK.out _ _ ⟨(blk_cell BK101.out 0).trans rfl, (blk_cell BK101.out 1).trans rfl, (blk_cell BK101.out 2).trans rfl, (blk_cell BK101.out 3).trans rfl, (blk_cell BK101.out 4).trans rfl, (blk_cell BK101.out 5).trans rfl, (blk_cell BK101.out 6).trans rfl⟩ (fun hHeld => ?_)
        clear hK K
        refine norm_ (a' := ?_) ?_ ?_
        rotate_left
        · show Act.put _ (some 41) _ = _
          simp only [Act.put, List.setIfInBounds_toArray, List.set_cons_zero, List.set_cons_succ, i64_w, i32_w]
          rfl
        refine pure_ (i := 14) (N := some 42) (v := ?_) (a' := ?_) #[true, true, true, true, true, true, true, true, true, true, true, true, true, true, true, false] rfl rfl (any_of HT_.out (by kernel_rfl)) (fun _ _ _ h => h) (Or.inl ⟨by rfl, ?_⟩) ?_ ?_
        rotate_left
        · intro w'
          go_simp
          with_reducible rfl
        rotate_left
        · simp only [Act.put, List.setIfInBounds_toArray, List.set_cons_zero, List.set_cons_succ, i64_w, i32_w]
          rfl
        refine pure_ (i := 15) (N := some 2) (v := ?_) (a' := ?_) #[true, true, true, true, true, true, true, true, true, true, true, true, true, true, true, true] rfl rfl (any_of HT_.out (by kernel_rfl)) (fun _ _ _ h => h) (Or.inl ⟨by rfl, ?_⟩) ?_ ?_
        rotate_left
        · intro w'
          go_simp
          with_reducible rfl
        rotate_left
        · simp only [Act.put, List.setIfInBounds_toArray, List.set_cons_zero, List.set_cons_succ, i64_w, i32_w]
          rfl
        refine done_ (done_of HT_.out (by kernel_rfl)) ?_
        try go_wp2
        go_ret
        exact ⟨by first | rfl | (simp [eWn, eWs] <;> rfl) | (simp [*, eWn, eWs] <;> rfl), by repeat (first | (with_reducible first | exact HB.out | apply blA | apply pbN | apply bl1 | refine blS ?_ GE101.out) | exact HB.out)⟩
      · rw [if_neg c16] at H
        have c16b0 : (a0_0 == 2) = false := beq_eq_false_iff_ne.mpr c16
        have c16b1 : (a0_0 != 2) = true := bne_iff_ne.mpr c16
        by_cases c28 : a0_0 = 3
        · rw [if_pos c28] at H
          have c28b0 : (a0_0 == 3) = true := beq_iff_eq.mpr c28
          have c28b1 : (a0_0 != 3) = false := bne_eq_false_iff_eq.mpr c28
          clear c28
          replace H := Option.bind_eq_some_iff.mp H
          obtain ⟨t107, A290, H⟩ := H
          replace H : (if (((⟨#[115]⟩ : ByteArray) ++ t102) ++ (⟨#[32, 61, 32]⟩ : ByteArray)).size + t107.size ≤ 9223372036854775807 then (some ((((⟨#[115]⟩ : ByteArray) ++ t102) ++ (⟨#[32, 61, 32]⟩ : ByteArray)) ++ t107)) else (none)) = some r := H
          have A29 := Zs0.mk A290
          clear A290
          have c30 := ipos H
          rw [if_pos c30] at H
          have c30b0 := eq_true c30
          have c30b1 := decide_eq_true c30
          try have c30b2 := eq_false (Nat.not_lt.2 c30)
          have c30n0 : 1 + t102.size + 3 + t107.size ≤ 9223372036854775807 := by have h_ := c30; simp only [ByteArray.size_append] at h_; exact h_
          have c30n1 := eq_true c30n0
          have c30n2 := eq_false (Nat.not_lt.2 c30n0)
          obtain rfl := Option.some.inj H
          go_enter Tryd.func17, Tryd.ntmps17
          go_wp2_with (first | ((with_reducible refine gtD (N := 1) rfl ?_); refine box_event ?hg (N := 1) ?hd (cs := #[.int .i64 a0_0, .int .i64 a0_1, .int .i64 a0_2, .int .i64 a0_3, .int .i64 a0_4, .int .i64 a0_5, .string a0_6]) (t := 35) ?hr ?_; (case hd => rfl); (case hg => rfl); (case hr => first | (go_simp; done) | (go_simp; rfl)); intro gb101 hg w31 hbox hb; have n0_ := Zs0.mk (blT (by repeat (first | (with_reducible first | exact HB.out | apply blA | apply pbN | apply bl1) | exact HB.out)) hb); have n1_ := Zs0.mk (hbox); have n2_ := Zs0.mk ((by rw [hg]; exact (blZ (by repeat (first | (with_reducible first | exact HB.out | apply blA | apply pbN | apply bl1) | exact HB.out))) : w.heap.size ≤ gb101)); have n3_ := Zs0.mk ((by rw [hg]; exact (blZ (by repeat (first | (with_reducible first | exact HB.out | apply blA | apply pbN | apply bl1) | exact HB.out))) : w.heap.size ≤ gb101)); clear HB; have HB := n0_; have BK101 := n1_; have GW101 := n2_; have GE101 := n3_; clear n0_ n1_ n2_ n3_; clear hb hbox hg; obtain ⟨hcz32_0, hcz32_1, hcz32_2, hcz32_3, hcz32_4, hcz32_5, hcz32_6, hfz32_0, hfz32_1, hfz32_2, hfz32_3, hfz32_4, hfz32_5, hfz32_6⟩ := bx7 BK101.out) | ((with_reducible refine gtC (f := 25) rfl ?_); refine goesL_ (some 6) rfl rfl Tryd.func25 (by kernel_rfl) rfl #[.int .i64 a0_1] rfl (by (try simp only [List.map_toArray, List.map_cons, List.map_nil]); first | done | rfl | (simp only [List.length_drop, List.length_take]; rfl)) ?_; (with_reducible refine (spec_DecText.calls k a0_1 t102 _ A2.out).mono ?_); rintro e w' ⟨rfl, ⟨nd, rfl⟩⟩; refine ⟨_, rfl, ?_⟩) | ((with_reducible refine gtC (f := 31) rfl ?_); refine goesL_ (some 47) rfl rfl Tryd.func31 (by kernel_rfl) rfl #[.agg #[.int .i64 a0_0, .int .i64 a0_1, .int .i64 a0_2, .int .i64 a0_3, .int .i64 a0_4, .int .i64 a0_5, .string a0_6]] rfl (by (try simp only [List.map_toArray, List.map_cons, List.map_nil]); first | done | rfl | (simp only [List.length_drop, List.length_take]; rfl)) ?_; (with_reducible refine (spec_l04At.calls k a0_0 a0_1 a0_2 a0_3 a0_4 a0_5 a0_6 t107 _ A29.out).mono ?_); rintro e w33 ⟨rfl, hb⟩; refine ⟨_, rfl, ?_⟩; have n0_ := Zs0.mk (blk_below (g := gb101) (o := .cells #[.int .i64 a0_0, .int .i64 a0_1, .int .i64 a0_2, .int .i64 a0_3, .int .i64 a0_4, .int .i64 a0_5, .string a0_6] 35 (0, 0)) (by (with_reducible repeat (first | refine bkN ?_ _ | refine bk1 ?_ | refine bkA ?_ _)); exact BK101.out) hb); have n1_ := Zs0.mk (blT (by repeat (first | (with_reducible first | exact HB.out | apply blA | apply pbN | apply bl1 | refine blS ?_ GE101.out) | exact HB.out)) hb); clear BK101; clear HB; have BK101 := n0_; have HB := n1_; clear n0_ n1_; (try clear hb); (try clear hb2); (try clear hk); (try clear hi)))
          go_ret
          exact ⟨by first | rfl | (simp [eWn, eWs] <;> rfl) | (simp [*, eWn, eWs] <;> rfl), by repeat (first | (with_reducible first | exact HB.out | apply blA | apply pbN | apply bl1 | refine blS ?_ GE101.out) | exact HB.out)⟩
        · rw [if_neg c28] at H
          have c28b0 : (a0_0 == 3) = false := beq_eq_false_iff_ne.mpr c28
          have c28b1 : (a0_0 != 3) = true := bne_iff_ne.mpr c28
          by_cases c34 : a0_0 = 4
          · rw [if_pos c34] at H
            have c34b0 : (a0_0 == 4) = true := beq_iff_eq.mpr c34
            have c34b1 : (a0_0 != 4) = false := bne_eq_false_iff_eq.mpr c34
            clear c34
            replace H := Option.bind_eq_some_iff.mp H
            obtain ⟨t108, A350, H⟩ := H
            replace H : (if t108.size + 4 ≤ 9223372036854775807 then ((spec_DecText.f k a0_4).bind fun t109 => (if (t108 ++ (⟨#[32, 61, 32, 115]⟩ : ByteArray)).size + t109.size ≤ 9223372036854775807 then (some ((t108 ++ (⟨#[32, 61, 32, 115]⟩ : ByteArray)) ++ t109)) else (none))) else (none)) = some r := H
            have A35 := Zs0.mk A350
            clear A350
            have c36 := ipos H
            rw [if_pos c36] at H
            have c36b0 := eq_true c36
            have c36b1 := decide_eq_true c36
            try have c36b2 := eq_false (Nat.not_lt.2 c36)
            replace H := Option.bind_eq_some_iff.mp H
            obtain ⟨t109, A370, H⟩ := H
            replace H : (if (t108 ++ (⟨#[32, 61, 32, 115]⟩ : ByteArray)).size + t109.size ≤ 9223372036854775807 then (some ((t108 ++ (⟨#[32, 61, 32, 115]⟩ : ByteArray)) ++ t109)) else (none)) = some r := H
            have A37 := Zs0.mk A370
            clear A370
            have c38 := ipos H
            rw [if_pos c38] at H
            have c38b0 := eq_true c38
            have c38b1 := decide_eq_true c38
            try have c38b2 := eq_false (Nat.not_lt.2 c38)
            have c38n0 : t108.size + 4 + t109.size ≤ 9223372036854775807 := by have h_ := c38; simp only [ByteArray.size_append] at h_; exact h_
            have c38n1 := eq_true c38n0
            have c38n2 := eq_false (Nat.not_lt.2 c38n0)
            obtain rfl := Option.some.inj H
            go_enter Tryd.func17, Tryd.ntmps17
            try go_wp2_with (first | ((with_reducible refine gtD (N := 1) rfl ?_); refine box_event ?hg (N := 1) ?hd (cs := #[.int .i64 a0_0, .int .i64 a0_1, .int .i64 a0_2, .int .i64 a0_3, .int .i64 a0_4, .int .i64 a0_5, .string a0_6]) (t := 35) ?hr ?_; (case hd => rfl); (case hg => rfl); (case hr => first | (go_simp; done) | (go_simp; rfl)); intro gb101 hg w39 hbox hb; have n0_ := Zs0.mk (blT (by repeat (first | (with_reducible first | exact HB.out | apply blA | apply pbN | apply bl1) | exact HB.out)) hb); have n1_ := Zs0.mk (hbox); have n2_ := Zs0.mk ((by rw [hg]; exact (blZ (by repeat (first | (with_reducible first | exact HB.out | apply blA | apply pbN | apply bl1) | exact HB.out))) : w.heap.size ≤ gb101)); have n3_ := Zs0.mk ((by rw [hg]; exact (blZ (by repeat (first | (with_reducible first | exact HB.out | apply blA | apply pbN | apply bl1) | exact HB.out))) : w.heap.size ≤ gb101)); clear HB; have HB := n0_; have BK101 := n1_; have GW101 := n2_; have GE101 := n3_; clear n0_ n1_ n2_ n3_; clear hb hbox hg; obtain ⟨hcz40_0, hcz40_1, hcz40_2, hcz40_3, hcz40_4, hcz40_5, hcz40_6, hfz40_0, hfz40_1, hfz40_2, hfz40_3, hfz40_4, hfz40_5, hfz40_6⟩ := bx7 BK101.out) | ((with_reducible refine gtC (f := 25) rfl ?_); refine goesL_ (some 6) rfl rfl Tryd.func25 (by kernel_rfl) rfl #[.int .i64 a0_1] rfl (by (try simp only [List.map_toArray, List.map_cons, List.map_nil]); first | done | rfl | (simp only [List.length_drop, List.length_take]; rfl)) ?_; (with_reducible refine (spec_DecText.calls k a0_1 t102 _ A2.out).mono ?_); rintro e w' ⟨rfl, ⟨nd, rfl⟩⟩; refine ⟨_, rfl, ?_⟩))
            (try (rw [drewN_self w39]; generalize hq_ : World.drewN w39 _ = w39; have n0_ : Zs0 (w39.heap[gb101]? = some (.cells #[.int .i64 a0_0, .int .i64 a0_1, .int .i64 a0_2, .int .i64 a0_3, .int .i64 a0_4, .int .i64 a0_5, .string a0_6] 35 (0, 0))) := ⟨by rw [← hq_]; exact (by (with_reducible repeat (first | refine bkN ?_ _ | refine bk1 ?_ | refine bkA ?_ _)); exact BK101.out)⟩; have n1_ : Zs0 (Below w.heap.size w w39) := ⟨by rw [← hq_]; exact (by repeat (first | (with_reducible first | exact HB.out | apply blA | apply pbN | apply bl1 | refine blS ?_ GE101.out) | exact HB.out))⟩; clear BK101 HB hq_; have BK101 := n0_; have HB := n1_; clear n0_ n1_))
            have n0_ := Zs0.mk (bk1 BK101.out)
            have n1_ := Zs0.mk (bl1 HB.out)
            clear BK101
            clear HB
            have BK101 := n0_
            have HB := n1_
            clear n0_ n1_
            refine start_ (n := 8) (S := fun w' => w'.cell? ⟨gb101, 0, none⟩ = some (.int .i64 a0_0) ∧ w'.cell? ⟨gb101, 1, none⟩ = some (.int .i64 a0_1) ∧ w'.cell? ⟨gb101, 2, none⟩ = some (.int .i64 a0_2) ∧ w'.cell? ⟨gb101, 3, none⟩ = some (.int .i64 a0_3) ∧ w'.cell? ⟨gb101, 4, none⟩ = some (.int .i64 a0_4) ∧ w'.cell? ⟨gb101, 5, none⟩ = some (.int .i64 a0_5) ∧ w'.cell? ⟨gb101, 6, none⟩ = some (.string a0_6)) (ds := []) #[false, false, false, false, false, false, false, false] (by kernel_rfl) rfl rfl ⟨(blk_cell BK101.out 0).trans rfl, (blk_cell BK101.out 1).trans rfl, (blk_cell BK101.out 2).trans rfl, (blk_cell BK101.out 3).trans rfl, (blk_cell BK101.out 4).trans rfl, (blk_cell BK101.out 5).trans rfl, (blk_cell BK101.out 6).trans rfl⟩ (fun hHeld => ?_); refine with_tabW spec_l04Text.tab12 spec_l04Text.bits12 (fun HT_ HW_ => ?_)
            generalize w39.drew = w41 at BK101 HB hHeld ⊢
            refine pure_ (i := 3) (N := some 54) (v := ?_) (a' := ?_) #[false, false, false, true, false, false, false, false] rfl rfl (any_of HT_.out (by kernel_rfl)) (fun _ _ _ h => h) (Or.inl ⟨by rfl, ?_⟩) ?_ ?_
            rotate_left
            · intro w'
              go_simp
              with_reducible rfl
            rotate_left
            · simp only [Act.put, List.setIfInBounds_toArray, List.set_cons_zero, List.set_cons_succ, i64_w, i32_w]
              rfl
            refine take_ (i := 0) (N := some 51) (v := ?_) (a' := ?_) #[true, false, false, true, false, false, false, false] rfl rfl (take_ofW HT_.out HW_.out (by kernel_rfl)) (fun _ _ _ h => h) (Or.inl ⟨by rfl, ?_⟩) hHeld ?_ ?_
            rotate_left
            · rintro w' ⟨s0, s1, s2, s3, s4, s5, s6⟩
              go_simp
              with_reducible rfl
            rotate_left
            · simp only [Act.put, List.setIfInBounds_toArray, List.set_cons_zero, List.set_cons_succ, i64_w, i32_w]
              rfl
            refine take_ (i := 4) (N := some 55) (v := ?_) (a' := ?_) #[true, false, false, true, true, false, false, false] rfl rfl (take_ofW HT_.out HW_.out (by kernel_rfl)) (fun _ _ _ h => h) (Or.inl ⟨by rfl, ?_⟩) hHeld ?_ ?_
            rotate_left
            · rintro w' ⟨s0, s1, s2, s3, s4, s5, s6⟩
              go_simp
              with_reducible rfl
            rotate_left
            · simp only [Act.put, List.setIfInBounds_toArray, List.set_cons_zero, List.set_cons_succ, i64_w, i32_w]
              rfl
            refine one_ (i := 1) (N := some 52) #[true, true, false, true, true, false, false, false] rfl rfl (one_of HT_.out (by kernel_rfl)) (by decide) (fun K hK => ?_)
            refine goes_ Tryd.func31 (by kernel_rfl) rfl #[.agg #[.int .i64 a0_0, .int .i64 a0_1, .int .i64 a0_2, .int .i64 a0_3, .int .i64 a0_4, .int .i64 a0_5, .string a0_6]] (by rfl) rfl rfl (by (try simp only [List.map_toArray, List.map_cons, List.map_nil]); first | done | rfl | (simp only [List.length_drop, List.length_take]; rfl)) ?_
            with_reducible refine (spec_l04At.calls k a0_0 a0_1 a0_2 a0_3 a0_4 a0_5 a0_6 t108 _ A35.out).mono ?_
            rintro e w42 ⟨rfl, hb⟩
            refine ⟨_, rfl, ?_⟩
            have n0_ := Zs0.mk (blk_below (g := gb101) (o := .cells #[.int .i64 a0_0, .int .i64 a0_1, .int .i64 a0_2, .int .i64 a0_3, .int .i64 a0_4, .int .i64 a0_5, .string a0_6] 35 (0, 0)) (by (with_reducible repeat (first | refine bkN ?_ _ | refine bk1 ?_ | refine bkA ?_ _)); exact BK101.out) hb)
            have n1_ := Zs0.mk (blT (by repeat (first | (with_reducible first | exact HB.out | apply blA | apply pbN | apply bl1 | refine blS ?_ GE101.out) | exact HB.out)) hb)
            clear BK101
            clear HB
            have BK101 := n0_
            have HB := n1_
            clear n0_ n1_
            (try clear hb)
            (try clear hb2)
            (try clear hk)
            (try clear hi)
            refine hK.out _ _ ⟨(blk_cell BK101.out 0).trans rfl, (blk_cell BK101.out 1).trans rfl, (blk_cell BK101.out 2).trans rfl, (blk_cell BK101.out 3).trans rfl, (blk_cell BK101.out 4).trans rfl, (blk_cell BK101.out 5).trans rfl, (blk_cell BK101.out 6).trans rfl⟩ (fun hHeld => ?_)
            clear hK K
            refine norm_ (a' := ?_) ?_ ?_
            rotate_left
            · show Act.put _ (some 52) _ = _
              simp only [Act.put, List.setIfInBounds_toArray, List.set_cons_zero, List.set_cons_succ, i64_w, i32_w]
              rfl
            refine pure_ (i := 2) (N := some 53) (v := ?_) (a' := ?_) #[true, true, true, true, true, false, false, false] rfl rfl (any_of HT_.out (by kernel_rfl)) (fun _ _ _ h => h) (Or.inl ⟨by rfl, ?_⟩) ?_ ?_
            rotate_left
            · intro w'
              go_simp
              with_reducible rfl
            rotate_left
            · simp only [Act.put, List.setIfInBounds_toArray, List.set_cons_zero, List.set_cons_succ, i64_w, i32_w]
              rfl
            refine one_ (i := 5) (N := some 56) #[true, true, true, true, true, true, false, false] rfl rfl (one_of HT_.out (by kernel_rfl)) (by decide) (fun K hK => ?_)
            refine goes_ Tryd.func25 (by kernel_rfl) rfl #[.int .i64 a0_4] (by rfl) rfl rfl (by (try simp only [List.map_toArray, List.map_cons, List.map_nil]); first | done | rfl | (simp only [List.length_drop, List.length_take]; rfl)) ?_
            with_reducible refine (spec_DecText.calls k a0_4 t109 _ A37.out).mono ?_
            rintro e w' ⟨rfl, ⟨nd, rfl⟩⟩
            refine ⟨_, rfl, ?_⟩
            refine hK.out _ _ ⟨(blk_cell BK101.out 0).trans rfl, (blk_cell BK101.out 1).trans rfl, (blk_cell BK101.out 2).trans rfl, (blk_cell BK101.out 3).trans rfl, (blk_cell BK101.out 4).trans rfl, (blk_cell BK101.out 5).trans rfl, (blk_cell BK101.out 6).trans rfl⟩ (fun hHeld => ?_)
            clear hK K
            refine norm_ (a' := ?_) ?_ ?_
            rotate_left
            · show Act.put _ (some 56) _ = _
              simp only [Act.put, List.setIfInBounds_toArray, List.set_cons_zero, List.set_cons_succ, i64_w, i32_w]
              rfl
            refine pure_ (i := 6) (N := some 57) (v := ?_) (a' := ?_) #[true, true, true, true, true, true, true, false] rfl rfl (any_of HT_.out (by kernel_rfl)) (fun _ _ _ h => h) (Or.inl ⟨by rfl, ?_⟩) ?_ ?_
            rotate_left
            · intro w'
              go_simp
              with_reducible rfl
            rotate_left
            · simp only [Act.put, List.setIfInBounds_toArray, List.set_cons_zero, List.set_cons_succ, i64_w, i32_w]
              rfl
            refine pure_ (i := 7) (N := some 2) (v := ?_) (a' := ?_) #[true, true, true, true, true, true, true, true] rfl rfl (any_of HT_.out (by kernel_rfl)) (fun _ _ _ h => h) (Or.inl ⟨by rfl, ?_⟩) ?_ ?_
            rotate_left
            · intro w'
              go_simp
              with_reducible rfl
            rotate_left
            · simp only [Act.put, List.setIfInBounds_toArray, List.set_cons_zero, List.set_cons_succ, i64_w, i32_w]
              rfl
            refine done_ (done_of HT_.out (by kernel_rfl)) ?_
            try go_wp2
            go_ret
            exact ⟨by first | rfl | (simp [eWn, eWs] <;> rfl) | (simp [*, eWn, eWs] <;> rfl), by repeat (first | (with_reducible first | exact HB.out | apply blA | apply pbN | apply bl1 | refine blS ?_ GE101.out) | exact HB.out)⟩
          · rw [if_neg c34] at H
            have c34b0 : (a0_0 == 4) = false := beq_eq_false_iff_ne.mpr c34
            have c34b1 : (a0_0 != 4) = true := bne_iff_ne.mpr c34
            by_cases c43 : a0_0 = 5
            · rw [if_pos c43] at H
              have c43b0 : (a0_0 == 5) = true := beq_iff_eq.mpr c43
              have c43b1 : (a0_0 != 5) = false := bne_eq_false_iff_eq.mpr c43
              clear c43
              have c44 := ipos H
              rw [if_pos c44] at H
              have c44b0 := eq_true c44
              have c44b1 := decide_eq_true c44
              try have c44b2 := eq_false (Nat.not_lt.2 c44)
              have c44n0 : 1 + t102.size + 3 + 3 ≤ 9223372036854775807 := by have h_ := c44; simp only [ByteArray.size_append] at h_; exact h_
              have c44n1 := eq_true c44n0
              have c44n2 := eq_false (Nat.not_lt.2 c44n0)
              obtain rfl := Option.some.inj H
              go_enter Tryd.func17, Tryd.ntmps17
              go_wp2_with (first | ((with_reducible refine gtD (N := 1) rfl ?_); refine box_event ?hg (N := 1) ?hd (cs := #[.int .i64 a0_0, .int .i64 a0_1, .int .i64 a0_2, .int .i64 a0_3, .int .i64 a0_4, .int .i64 a0_5, .string a0_6]) (t := 35) ?hr ?_; (case hd => rfl); (case hg => rfl); (case hr => first | (go_simp; done) | (go_simp; rfl)); intro gb101 hg w45 hbox hb; have n0_ := Zs0.mk (blT (by repeat (first | (with_reducible first | exact HB.out | apply blA | apply pbN | apply bl1) | exact HB.out)) hb); have n1_ := Zs0.mk (hbox); have n2_ := Zs0.mk ((by rw [hg]; exact (blZ (by repeat (first | (with_reducible first | exact HB.out | apply blA | apply pbN | apply bl1) | exact HB.out))) : w.heap.size ≤ gb101)); have n3_ := Zs0.mk ((by rw [hg]; exact (blZ (by repeat (first | (with_reducible first | exact HB.out | apply blA | apply pbN | apply bl1) | exact HB.out))) : w.heap.size ≤ gb101)); clear HB; have HB := n0_; have BK101 := n1_; have GW101 := n2_; have GE101 := n3_; clear n0_ n1_ n2_ n3_; clear hb hbox hg; obtain ⟨hcz46_0, hcz46_1, hcz46_2, hcz46_3, hcz46_4, hcz46_5, hcz46_6, hfz46_0, hfz46_1, hfz46_2, hfz46_3, hfz46_4, hfz46_5, hfz46_6⟩ := bx7 BK101.out) | ((with_reducible refine gtC (f := 25) rfl ?_); refine goesL_ (some 6) rfl rfl Tryd.func25 (by kernel_rfl) rfl #[.int .i64 a0_1] rfl (by (try simp only [List.map_toArray, List.map_cons, List.map_nil]); first | done | rfl | (simp only [List.length_drop, List.length_take]; rfl)) ?_; (with_reducible refine (spec_DecText.calls k a0_1 t102 _ A2.out).mono ?_); rintro e w' ⟨rfl, ⟨nd, rfl⟩⟩; refine ⟨_, rfl, ?_⟩))
              go_ret
              exact ⟨by first | rfl | (simp [eWn, eWs] <;> rfl) | (simp [*, eWn, eWs] <;> rfl), by repeat (first | (with_reducible first | exact HB.out | apply blA | apply pbN | apply bl1 | refine blS ?_ GE101.out) | exact HB.out)⟩
            · rw [if_neg c43] at H
              have c43b0 : (a0_0 == 5) = false := beq_eq_false_iff_ne.mpr c43
              have c43b1 : (a0_0 != 5) = true := bne_iff_ne.mpr c43
              replace H := Option.bind_eq_some_iff.mp H
              obtain ⟨t110, A470, H⟩ := H
              replace H : (if 5 + t110.size ≤ 9223372036854775807 then (some ((⟨#[112, 117, 116, 32, 115]⟩ : ByteArray) ++ t110)) else (none)) = some r := H
              have A47 := Zs0.mk A470
              clear A470
              have c48 := ipos H
              rw [if_pos c48] at H
              have c48b0 := eq_true c48
              have c48b1 := decide_eq_true c48
              try have c48b2 := eq_false (Nat.not_lt.2 c48)
              obtain rfl := Option.some.inj H
              go_enter Tryd.func17, Tryd.ntmps17
              go_wp2_with (first | ((with_reducible refine gtD (N := 1) rfl ?_); refine box_event ?hg (N := 1) ?hd (cs := #[.int .i64 a0_0, .int .i64 a0_1, .int .i64 a0_2, .int .i64 a0_3, .int .i64 a0_4, .int .i64 a0_5, .string a0_6]) (t := 35) ?hr ?_; (case hd => rfl); (case hg => rfl); (case hr => first | (go_simp; done) | (go_simp; rfl)); intro gb101 hg w49 hbox hb; have n0_ := Zs0.mk (blT (by repeat (first | (with_reducible first | exact HB.out | apply blA | apply pbN | apply bl1) | exact HB.out)) hb); have n1_ := Zs0.mk (hbox); have n2_ := Zs0.mk ((by rw [hg]; exact (blZ (by repeat (first | (with_reducible first | exact HB.out | apply blA | apply pbN | apply bl1) | exact HB.out))) : w.heap.size ≤ gb101)); have n3_ := Zs0.mk ((by rw [hg]; exact (blZ (by repeat (first | (with_reducible first | exact HB.out | apply blA | apply pbN | apply bl1) | exact HB.out))) : w.heap.size ≤ gb101)); clear HB; have HB := n0_; have BK101 := n1_; have GW101 := n2_; have GE101 := n3_; clear n0_ n1_ n2_ n3_; clear hb hbox hg; obtain ⟨hcz50_0, hcz50_1, hcz50_2, hcz50_3, hcz50_4, hcz50_5, hcz50_6, hfz50_0, hfz50_1, hfz50_2, hfz50_3, hfz50_4, hfz50_5, hfz50_6⟩ := bx7 BK101.out) | ((with_reducible refine gtC (f := 25) rfl ?_); refine goesL_ (some 6) rfl rfl Tryd.func25 (by kernel_rfl) rfl #[.int .i64 a0_1] rfl (by (try simp only [List.map_toArray, List.map_cons, List.map_nil]); first | done | rfl | (simp only [List.length_drop, List.length_take]; rfl)) ?_; (with_reducible refine (spec_DecText.calls k a0_1 t102 _ A2.out).mono ?_); rintro e w' ⟨rfl, ⟨nd, rfl⟩⟩; refine ⟨_, rfl, ?_⟩) | ((with_reducible refine gtC (f := 25) rfl ?_); refine goesL_ (some 64) rfl rfl Tryd.func25 (by kernel_rfl) rfl #[.int .i64 a0_2] rfl (by (try simp only [List.map_toArray, List.map_cons, List.map_nil]); first | done | rfl | (simp only [List.length_drop, List.length_take]; rfl)) ?_; (with_reducible refine (spec_DecText.calls k a0_2 t110 _ A47.out).mono ?_); rintro e w' ⟨rfl, ⟨nd, rfl⟩⟩; refine ⟨_, rfl, ?_⟩))
              go_ret
              exact ⟨by first | rfl | (simp [eWn, eWs] <;> rfl) | (simp [*, eWn, eWs] <;> rfl), by repeat (first | (with_reducible first | exact HB.out | apply blA | apply pbN | apply bl1 | refine blS ?_ GE101.out) | exact HB.out)⟩

end Go.Proofs.YtbbpmcignfhfmaaDoor.P
