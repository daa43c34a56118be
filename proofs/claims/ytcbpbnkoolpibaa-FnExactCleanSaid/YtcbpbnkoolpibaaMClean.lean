/- THE ROW. From the contract of FnExactClean to the given statement: the arguments are opened by their types, and read behind the call as before. Conditions: those of the given statement, no other. -/
import Derived.Test.YtcbpbnkoolpibaaRows
import Derived.Test.YtcbpbnkoolpibaaMCleanxF5
import Derived.Test.YtcbpbnkoolpibaaMClean6ma
import Derived.Test.YtcbpbnkoolpibaaMClean0ta
import Derived.WalkKit
import Derived.ProofKit
import Derived.OpenShut
import Derived.ShutString
import Derived.ChangeOld
import Derived.Below
import Derived.SizedLaws
set_option maxRecDepth 100000
set_option linter.unusedVariables false
namespace Go.Proofs.Ytcbpbnkoolpibaa.fnExactClean
open ChangeShapes WideShapes ChangeAt RowKit YtcbpbnkoolpibaaW.wA P Opens
theorem own : ownKnob Try.prog.godebug = none := by kernel_rfl
theorem laidOut : laidOutB Try.prog = true := by kernel_rfl
theorem lifted (os : Os) (started : os.Started) (H : Type) (enc : TypeId × Value → H) :
    ReturnsInHanded {} Try.checked os 5 .any (Rows.fnExactCleanSpec.pre6 enc Try.prog Try.f5 Rows.fnExactCleanRow.domain false) (Rows.fnExactCleanSpec.post enc Try.prog Try.f5 false true false false) := by
  refine returnsInHanded_of_change (C := Try.checked) own started (by kernel_rfl) Try.func5
    (ChangeSpec.witness6 (enc := enc) (C := Try.checked) false ⟨#[], #[.agg #[.slice none 0 0, .int .i64 0, .int .i64 0, .int .i64 0, .slice none 0 0]], []⟩ 8 (by kernel_rfl) (by kernel_rfl) (by kernel_rfl) (by kernel_rfl)) ?_
  intro W base args ds gs before hval0 hW hcnd _
  have hval : ∀ (j : Nat) t v, Try.f5.params[j]? = some t → args[j]? = some v → Value.okWide Try.prog W .any base t v := hval0
  have hW' := hW
  obtain ⟨p, q, hA0, hV, rfl, hfz, hnd⟩ := hW
  have hA : DataW.TrodAll enc Try.prog W 0 (fun _ => true) true Try.f5.params.toList args.toList ds p := hA0
  rw [Try.params5] at hA hval
  obtain ⟨v0, vs0, d0, ds0, p0, q0, hargs, rfl, rfl, h0, r0⟩ := trodAll_cons hA
  obtain ⟨rfl, rfl, rfl⟩ := trodAll_nil r0
  obtain rfl : args = #[v0] := by cases args; simp_all
  obtain ⟨rfl, rfl⟩ := trodVars_none hV
  have k0 := h0
  have lt0 : ∀ x ∈ p0, x.block < W.heap.size := by obtain ⟨m, hm⟩ := k0; exact DataW.trod_lt m _ _ _ hm
  obtain ⟨x0, cs0, rfl, hK0, hq0⟩ := open_agg (k := (Kd.pair (Kd.slice 3 (Kd.int .i64)) (Kd.pair (Kd.int .i64) (Kd.pair (Kd.int .i64) (Kd.pair (Kd.int .i64) (Kd.slice 67 k67)))))) Try.underlying25 (opens_up fun n => opens_fields (total := 5) Try.underlying25 (by kernel_rfl) (opensF_cons (off := 0) (off' := 1) rfl (by kernel_rfl) (opens_up (fun n => opens_slice Try.underlying22 (by kernel_rfl) (opens_int Try.underlying3)) n) (opensF_cons (off := 1) (off' := 2) rfl (by kernel_rfl) (opens_int Try.underlying3) (opensF_cons (off := 2) (off' := 3) rfl (by kernel_rfl) (opens_int Try.underlying3) (opensF_cons (off := 3) (off' := 4) rfl (by kernel_rfl) (opens_int Try.underlying3) (opensF_one (off := 4) (total := 5) rfl (by kernel_rfl) (opens_up (fun n => opens_slice Try.underlying23 (by kernel_rfl) (open67 n)) n))))))) (hval 0 25 v0 rfl rfl) h0
  obtain ⟨l0_0, a0_1, a0_2, a0_3, l0_4⟩ := x0
  obtain ⟨_, _, rfl, ⟨A0_0, c0_0, rfl, hc0_0, hC0_0⟩, ⟨_, _, rfl, rfl, ⟨_, _, rfl, rfl, ⟨_, _, rfl, rfl, ⟨A0_4, c0_4, rfl, hc0_4, hC0_4⟩⟩⟩⟩⟩ := hK0
  obtain ⟨w0_0, w0_1, w0_2, w0_3, w0_4⟩ := hq0
  clear hA0 hval0
  obtain ⟨k, hf⟩ := Pure.FnExactClean l0_0 a0_1 a0_2 a0_3 l0_4 w0_0 w0_1 w0_2 w0_3 w0_4
  refine (laws_FnExactClean.calls k _ _ l0_0 a0_1 a0_2 a0_3 _ _ l0_4 true W hC0_0 hc0_0 hC0_4 hc0_4 hf).mono fun e W' ⟨he, bel⟩ => ?_
  subst he
  exact ⟨_, rfl, _, _, _, [], _, [], hW', trodAll_mk1 (shut_bool Try.underlying4 _), (trodAll_cons_mk (Below.trod laidOut (by kernel_rfl) (of_decide_eq_true (by kernel_rfl)) k0 bel lt0) trodAll_mk0), rfl, bel.frame _, fun h => by cases h⟩
theorem over : Rows.fnExactCleanRow.holds Try.pinned (OpenSpec.ofChange Rows.fnExactCleanSpec) :=
  OpenClaim.holds_of_wide 5 Try.f5 rfl rfl rfl rfl rfl rfl rfl ⟨rfl, rfl, rfl, rfl, rfl⟩ rfl rfl rfl rfl rfl (by kernel_rfl) Try.func5 (by kernel_rfl)
    (of_decide_eq_true (by kernel_rfl)) (by unfold Func.isWrapper; first | (rw [if_pos (by decide +kernel)]; kernel_rfl) | (rw [if_neg (by decide +kernel)]; exact ⟨rfl, rfl⟩))
    (fun os started H enc _ => lifted os started H enc)
theorem proved : Rows.FnExactCleanSaid := over
end Go.Proofs.Ytcbpbnkoolpibaa.fnExactClean
namespace Go.Proofs.Ytcbpbnkoolpibaa
theorem fnExactClean_holds : Rows.FnExactCleanSaid := fnExactClean.proved
#print axioms fnExactClean_holds
end Go.Proofs.Ytcbpbnkoolpibaa
