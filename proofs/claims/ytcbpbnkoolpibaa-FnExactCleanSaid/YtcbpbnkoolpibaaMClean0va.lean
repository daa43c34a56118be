/- The contract of impl.isInstr, for every step and every graph of which the sizes and the number of slots are told. No conditions. -/
import Derived.Test.YtcbpbnkoolpibaaMClean0b
import Derived.RegionTactic
import Derived.ChangeAlike
set_option linter.unusedVariables false
set_option linter.unusedSimpArgs false
namespace Go.Proofs.Ytcbpbnkoolpibaa.P
open RowKit YtcbpbnkoolpibaaW.wA YtcbpbnkoolpibaaW.wB YtcbpbnkoolpibaaW.wC
attribute [local go_sem high] eqA57
def inB (x s : Int) : Bool := decide (0 ≤ x) && decide (x < s)
theorem is_calls (b : Nat) (x s : Int) (w : World) (hc : w.cell? ⟨b, 3, none⟩ = some (.int .i64 s)) :
    Calls Try.prog 90 #[.int .i64 x, .pointer (some ⟨b, 0, none⟩)] w fun e w' => e = .returned (.bool (inB x s)) ∧ w = w' := by
  unfold inB
  by_cases h : 0 ≤ x
  · have d0 : decide (0 ≤ x) = true := decide_eq_true h
    by_cases h2 : x < s
    · have d1 : decide (x < s) = true := decide_eq_true h2
      go_enter Try.func90, Try.ntmps90
      go_wp2
      go_ret
      exact ⟨by simp [d0, d1], rfl⟩
    · have d1 : decide (x < s) = false := decide_eq_false h2
      go_enter Try.func90, Try.ntmps90
      go_wp2
      go_ret
      exact ⟨by simp [d0, d1], rfl⟩
  · have d0 : decide (0 ≤ x) = false := decide_eq_false h
    go_enter Try.func90, Try.ntmps90
    go_wp2
    go_ret
    exact ⟨by simp [d0], rfl⟩
def instrB (z : Int) (s o d a b c n : Int) (t : ByteArray) : Bool :=
  if o = 0 then inB d s && (a == 0 && (b == 0 && (c == 0 && t.toList.isEmpty)))
  else if o = 1 then inB d s && (inB a s && (b == 0 && (c == 0 && (n == 0 && t.toList.isEmpty))))
  else if o = 2 then inB d s && (inB a s && (inB b s && (signB t && (c == 0 && n == 0))))
  else if o = 3 then inB d s && (inB b s && (inR n 0 (z - 1) && ((inB a s || a == -1) && (c == 0 && t.toList.isEmpty))))
  else if o = 4 then inB c s && (inB b s && (inR n 0 (z - 1) && ((inB a s || a == -1) && (d == 0 && t.toList.isEmpty))))
  else if o = 5 then inB d s && (a == 0 && (b == 0 && (c == 0 && (n == 0 && t.toList.isEmpty))))
  else if o = 6 then inB a s && (d == 0 && (b == 0 && (c == 0 && (n == 0 && t.toList.isEmpty))))
  else false
def impl_isInstr.f (l0_0 : List Int) (a0_1 : Int) (a0_2 : Int) (a0_3 : Int) (l0_4 : List (S47)) (a1_0 : Int) (a1_1 : Int) (a1_2 : Int) (a1_3 : Int) (a1_4 : Int) (a1_5 : Int) (a1_6 : ByteArray) : Option Bool := some (instrB (l0_0.length : Int) a0_3 a1_0 a1_1 a1_2 a1_3 a1_4 a1_5 a1_6)
end Go.Proofs.Ytcbpbnkoolpibaa.P
