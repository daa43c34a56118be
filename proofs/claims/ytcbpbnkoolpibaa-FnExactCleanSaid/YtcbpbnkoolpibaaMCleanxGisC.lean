/- The contract of impl.isInstr, path by path, for every step and every graph of which the sizes and the number of slots are told. No conditions. -/
import Derived.Test.YtcbpbnkoolpibaaMClean0va
set_option maxHeartbeats 2000000
set_option maxRecDepth 100000
set_option linter.unusedVariables false
set_option linter.unusedSimpArgs false
namespace Go.Proofs.Ytcbpbnkoolpibaa.P
open RowKit YtcbpbnkoolpibaaW.wA YtcbpbnkoolpibaaW.wB YtcbpbnkoolpibaaW.wC
attribute [local go_sem high] eqA57
section
variable (A0 : Option Addr) (n0 c0 : Nat) (p v s : Int) (A4 : Option Addr) (n4 c4 : Nat) (o d a b c n : Int) (t : ByteArray) (w : World)
theorem i3_D_no (hD : inB d s = false)   (hn : n0 ≤ 9223372036854775807) : Calls Try.prog 76 #[.agg #[.slice A0 n0 c0, .int .i64 p, .int .i64 v, .int .i64 s, .slice A4 n4 c4], .agg #[.int .i64 3, .int .i64 d, .int .i64 a, .int .i64 b, .int .i64 c, .int .i64 n, .string t]] w fun e w' => e = .returned (.bool false) ∧ Below w.heap.size w w' := by
  have hu30 := Try.underlying29
  have hu39 := Try.underlying57
  go_enter Try.func76, Try.ntmps76
  go_wp2_with (first | (go_at_call 53; refine (in_calls2 _ _ _ _).mono ?_; rintro e w' ⟨rfl, rfl⟩) | (go_at_call 90; refine (is_calls _ _ s _ ?hc).mono ?_; (case hc => go_simp); rintro e w' ⟨rfl, rfl⟩))
  go_region
  go_wp2_with (first | (go_at_call 53; refine (in_calls2 _ _ _ _).mono ?_; rintro e w' ⟨rfl, rfl⟩) | (go_at_call 90; refine (is_calls _ _ s _ ?hc).mono ?_; (case hc => go_simp); rintro e w' ⟨rfl, rfl⟩))
  go_ret
  exact ⟨rfl, by repeat (first | exact Below.refl _ _ | apply blA | apply pbN | apply bl1 | refine Below.setCell ?_ (by simp <;> omega) _)⟩

theorem i3_B_no (hD : inB d s = true) (hB : inB b s = false)   (hn : n0 ≤ 9223372036854775807) : Calls Try.prog 76 #[.agg #[.slice A0 n0 c0, .int .i64 p, .int .i64 v, .int .i64 s, .slice A4 n4 c4], .agg #[.int .i64 3, .int .i64 d, .int .i64 a, .int .i64 b, .int .i64 c, .int .i64 n, .string t]] w fun e w' => e = .returned (.bool false) ∧ Below w.heap.size w w' := by
  have hu30 := Try.underlying29
  have hu39 := Try.underlying57
  go_enter Try.func76, Try.ntmps76
  go_wp2_with (first | (go_at_call 53; refine (in_calls2 _ _ _ _).mono ?_; rintro e w' ⟨rfl, rfl⟩) | (go_at_call 90; refine (is_calls _ _ s _ ?hc).mono ?_; (case hc => go_simp); rintro e w' ⟨rfl, rfl⟩))
  go_region
  go_wp2_with (first | (go_at_call 53; refine (in_calls2 _ _ _ _).mono ?_; rintro e w' ⟨rfl, rfl⟩) | (go_at_call 90; refine (is_calls _ _ s _ ?hc).mono ?_; (case hc => go_simp); rintro e w' ⟨rfl, rfl⟩))
  go_ret
  exact ⟨rfl, by repeat (first | exact Below.refl _ _ | apply blA | apply pbN | apply bl1 | refine Below.setCell ?_ (by simp <;> omega) _)⟩

theorem i3_R_no (hD : inB d s = true) (hB : inB b s = true) (hR : inR n 0 ((n0 : Int) - 1) = false)   (hn : n0 ≤ 9223372036854775807) : Calls Try.prog 76 #[.agg #[.slice A0 n0 c0, .int .i64 p, .int .i64 v, .int .i64 s, .slice A4 n4 c4], .agg #[.int .i64 3, .int .i64 d, .int .i64 a, .int .i64 b, .int .i64 c, .int .i64 n, .string t]] w fun e w' => e = .returned (.bool false) ∧ Below w.heap.size w w' := by
  have hu30 := Try.underlying29
  have hu39 := Try.underlying57
  go_enter Try.func76, Try.ntmps76
  go_wp2_with (first | (go_at_call 53; refine (in_calls2 _ _ _ _).mono ?_; rintro e w' ⟨rfl, rfl⟩) | (go_at_call 90; refine (is_calls _ _ s _ ?hc).mono ?_; (case hc => go_simp); rintro e w' ⟨rfl, rfl⟩))
  go_region
  go_wp2_with (first | (go_at_call 53; refine (in_calls2 _ _ _ _).mono ?_; rintro e w' ⟨rfl, rfl⟩) | (go_at_call 90; refine (is_calls _ _ s _ ?hc).mono ?_; (case hc => go_simp); rintro e w' ⟨rfl, rfl⟩))
  go_ret
  exact ⟨rfl, by repeat (first | exact Below.refl _ _ | apply blA | apply pbN | apply bl1 | refine Below.setCell ?_ (by simp <;> omega) _)⟩

theorem i3_X_no (hD : inB d s = true) (hB : inB b s = true) (hR : inR n 0 ((n0 : Int) - 1) = true) (hA : inB a s = false) (hM : (a == -1) = false) (hM2 : (a != -1) = true)  (hn : n0 ≤ 9223372036854775807) : Calls Try.prog 76 #[.agg #[.slice A0 n0 c0, .int .i64 p, .int .i64 v, .int .i64 s, .slice A4 n4 c4], .agg #[.int .i64 3, .int .i64 d, .int .i64 a, .int .i64 b, .int .i64 c, .int .i64 n, .string t]] w fun e w' => e = .returned (.bool false) ∧ Below w.heap.size w w' := by
  have hu30 := Try.underlying29
  have hu39 := Try.underlying57
  go_enter Try.func76, Try.ntmps76
  go_wp2_with (first | (go_at_call 53; refine (in_calls2 _ _ _ _).mono ?_; rintro e w' ⟨rfl, rfl⟩) | (go_at_call 90; refine (is_calls _ _ s _ ?hc).mono ?_; (case hc => go_simp); rintro e w' ⟨rfl, rfl⟩))
  go_region
  go_wp2_with (first | (go_at_call 53; refine (in_calls2 _ _ _ _).mono ?_; rintro e w' ⟨rfl, rfl⟩) | (go_at_call 90; refine (is_calls _ _ s _ ?hc).mono ?_; (case hc => go_simp); rintro e w' ⟨rfl, rfl⟩))
  go_ret
  exact ⟨rfl, by repeat (first | exact Below.refl _ _ | apply blA | apply pbN | apply bl1 | refine Below.setCell ?_ (by simp <;> omega) _)⟩

theorem i3_a (hD : inB d s = true) (hB : inB b s = true) (hR : inR n 0 ((n0 : Int) - 1) = true) (hA : inB a s = true)   (hn : n0 ≤ 9223372036854775807) : Calls Try.prog 76 #[.agg #[.slice A0 n0 c0, .int .i64 p, .int .i64 v, .int .i64 s, .slice A4 n4 c4], .agg #[.int .i64 3, .int .i64 d, .int .i64 a, .int .i64 b, .int .i64 c, .int .i64 n, .string t]] w fun e w' => e = .returned (.bool (c == 0 && t.toList.isEmpty)) ∧ Below w.heap.size w w' := by
  have hu30 := Try.underlying29
  have hu39 := Try.underlying57
  go_enter Try.func76, Try.ntmps76
  go_wp2_with (first | (go_at_call 53; refine (in_calls2 _ _ _ _).mono ?_; rintro e w' ⟨rfl, rfl⟩) | (go_at_call 90; refine (is_calls _ _ s _ ?hc).mono ?_; (case hc => go_simp); rintro e w' ⟨rfl, rfl⟩))
  go_region
  go_wp2_with (first | (go_at_call 53; refine (in_calls2 _ _ _ _).mono ?_; rintro e w' ⟨rfl, rfl⟩) | (go_at_call 90; refine (is_calls _ _ s _ ?hc).mono ?_; (case hc => go_simp); rintro e w' ⟨rfl, rfl⟩))
  go_ret
  exact ⟨rfl, by repeat (first | exact Below.refl _ _ | apply blA | apply pbN | apply bl1 | refine Below.setCell ?_ (by simp <;> omega) _)⟩

theorem i3_m (hD : inB d s = true) (hB : inB b s = true) (hR : inR n 0 ((n0 : Int) - 1) = true) (hA : inB a s = false) (hM : (a == -1) = true) (hM2 : (a != -1) = false)  (hn : n0 ≤ 9223372036854775807) : Calls Try.prog 76 #[.agg #[.slice A0 n0 c0, .int .i64 p, .int .i64 v, .int .i64 s, .slice A4 n4 c4], .agg #[.int .i64 3, .int .i64 d, .int .i64 a, .int .i64 b, .int .i64 c, .int .i64 n, .string t]] w fun e w' => e = .returned (.bool (c == 0 && t.toList.isEmpty)) ∧ Below w.heap.size w w' := by
  have hu30 := Try.underlying29
  have hu39 := Try.underlying57
  go_enter Try.func76, Try.ntmps76
  go_wp2_with (first | (go_at_call 53; refine (in_calls2 _ _ _ _).mono ?_; rintro e w' ⟨rfl, rfl⟩) | (go_at_call 90; refine (is_calls _ _ s _ ?hc).mono ?_; (case hc => go_simp); rintro e w' ⟨rfl, rfl⟩))
  go_region
  go_wp2_with (first | (go_at_call 53; refine (in_calls2 _ _ _ _).mono ?_; rintro e w' ⟨rfl, rfl⟩) | (go_at_call 90; refine (is_calls _ _ s _ ?hc).mono ?_; (case hc => go_simp); rintro e w' ⟨rfl, rfl⟩))
  go_ret
  exact ⟨rfl, by repeat (first | exact Below.refl _ _ | apply blA | apply pbN | apply bl1 | refine Below.setCell ?_ (by simp <;> omega) _)⟩
end
end Go.Proofs.Ytcbpbnkoolpibaa.P
