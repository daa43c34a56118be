/- THE ROW. From the contract of FnExactLive to the given statement: the arguments are opened by their types, and read behind the call as before. Conditions: those of the given statement, no other. -/
import Derived.Test.YtcbpbnkoolpibaaRows
import Derived.Test.YtcbpbnkoolpibaaMLivexF4
import Derived.Test.YtcbpbnkoolpibaaMLive4va
import Derived.Test.YtcbpbnkoolpibaaMLive0xa
import Derived.WalkKit
import Derived.ProofKit
import Derived.OpenShut
import Derived.ShutString
import Derived.ChangeOld
import Derived.Below
import Derived.SizedLaws
namespace Go.Proofs.Ytcbpbnkoolpibaa.fnExactLive
open Go.ChangeShapes Go.WideShapes Go.ChangeAt Go.RowKit Go.Proofs.YtcbpbnkoolpibaaW.PrintWords Go.Proofs.Ytcbpbnkoolpibaa.P Go.Proofs.Ytcbpbnkoolpibaa.Opens
set_option linter.unusedVariables false
theorem own : ownKnob Try.prog.godebug = none := by kernel_rfl
theorem laidOut : laidOutB Try.prog = true := by kernel_rfl
set_option maxRecDepth 100000 in
theorem lifted (os : Os) (started : os.Started) (H : Type) (enc : TypeId × Value → H) :
    ReturnsInHanded {} Try.checked os 4 .any (Rows.fnExactLiveSpec.pre6 enc Try.prog Try.f4 Rows.fnExactLiveRow.domain false) (Rows.fnExactLiveSpec.post enc Try.prog Try.f4 false true false false) := by
  refine returnsInHanded_of_change (C := Try.checked) own started (by kernel_rfl) Try.func4
    (ChangeSpec.witness6 (enc := enc) (C := Try.checked) false ⟨#[], #[.agg #[.slice none 0 0, .int .i64 0, .int .i64 0, .int .i64 0, .slice none 0 0]], []⟩ 8 (by kernel_rfl) (by kernel_rfl) (by kernel_rfl) (by kernel_rfl)) ?_
  intro W base args ds gs before hval0 hW hcnd _
  have hval : ∀ (j : Nat) t v, Try.f4.params[j]? = some t → args[j]? = some v → Value.okWide Try.prog W .any base t v := hval0
  have hW' := hW
  obtain ⟨p, q, hA0, hV, rfl, hfz, hnd⟩ := hW
  have hA : DataW.TrodAll enc Try.prog W 0 (fun _ => true) true Try.f4.params.toList args.toList ds p := hA0
  rw [Try.params4] at hA hval
  obtain ⟨v0, vs0, d0, ds0, p0, q0, hargs, rfl, rfl, h0, r0⟩ := trodAll_cons hA
  obtain ⟨rfl, rfl, rfl⟩ := trodAll_nil r0
  obtain rfl : args = #[v0] := by cases args; simp_all
  obtain ⟨rfl, rfl⟩ := trodVars_none hV
  have k0 := h0
  have lt0 : ∀ x ∈ p0, x.block < W.heap.size := by obtain ⟨m, hm⟩ := k0; exact DataW.trod_lt m _ _ _ hm
  obtain ⟨x0, cs0, rfl, hK0, hq0⟩ := open_agg (k := (Kd.pair (Kd.slice 3 (Kd.int .i64)) (Kd.pair (Kd.int .i64) (Kd.pair (Kd.int .i64) (Kd.pair (Kd.int .i64) (Kd.slice 67 k67)))))) Try.underlying25 (opens_up fun n => opens_fields (total := 5) Try.underlying25 (by kernel_rfl) (opensF_cons (off := 0) (off' := 1) rfl (by kernel_rfl) (opens_up (fun n => opens_slice Try.underlying22 (by kernel_rfl) (opens_int Try.underlying3)) n) (opensF_cons (off := 1) (off' := 2) rfl (by kernel_rfl) (opens_int Try.underlying3) (opensF_cons (off := 2) (off' := 3) rfl (by kernel_rfl) (opens_int Try.underlying3) (opensF_cons (off := 3) (off' := 4) rfl (by kernel_rfl) (opens_int Try.underlying3) (opensF_one (off := 4) (total := 5) rfl (by kernel_rfl) (opens_up (fun n => opens_slice Try.underlying23 (by kernel_rfl) (open67 n)) n))))))) (hval 0 25 v0 rfl rfl) h0
  obtain ⟨l0_0, a0_1, a0_2, a0_3, l0_4⟩ := x0
  obtain ⟨_, _, rfl, ⟨A0_0, c0_0, rfl, hc0_0, hC0_0⟩, ⟨_, _, rfl, rfl, ⟨_, _, rfl, rfl, ⟨_, _, rfl, rfl, ⟨A0_4, c0_4, rfl, hc0_4, hC0_4⟩⟩⟩⟩⟩ := hK0
  obtain ⟨w0_0, w0_1, w0_2, w0_3, w0_4⟩ := hq0
  clear hA0 hval0
  obtain ⟨k, hf⟩ := Pure.FnExactLive l0_0 a0_1 a0_2 a0_3 l0_4 w0_0 w0_1 w0_2 w0_3 w0_4
  refine (laws_FnExactLive.calls k _ _ l0_0 a0_1 a0_2 a0_3 _ _ l0_4 true W hC0_0 hc0_0 hC0_4 hc0_4 hf).mono fun e W' ⟨he, bel⟩ => ?_
  subst he
  exact ⟨_, rfl, _, _, _, [], _, [], hW', trodAll_mk1 (shut_bool Try.underlying4 _), (trodAll_cons_mk (Below.trod laidOut (by kernel_rfl) (of_decide_eq_true (by kernel_rfl)) k0 bel lt0) trodAll_mk0), rfl, bel.frame _, fun h => by cases h⟩
theorem over : Rows.fnExactLiveRow.holds Try.pinned (OpenSpec.ofChange Rows.fnExactLiveSpec) :=
  OpenClaim.holds_of_wide 4 Try.f4 rfl rfl rfl rfl rfl rfl rfl ⟨rfl, rfl, rfl, rfl, rfl⟩ rfl rfl rfl rfl rfl (by kernel_rfl) Try.func4 (by kernel_rfl)
    (of_decide_eq_true (by kernel_rfl)) (by unfold Func.isWrapper; first | (rw [if_pos (by decide +kernel)]; kernel_rfl) | (rw [if_neg (by decide +kernel)]; exact ⟨rfl, rfl⟩))
    (fun os started H enc _ => lifted os started H enc)
theorem proved : Rows.FnExactLiveSaid := over
end Go.Proofs.Ytcbpbnkoolpibaa.fnExactLive
namespace Go.Proofs.Ytcbpbnkoolpibaa
/-- The row, under a short name, for the claim. -/
theorem fnExactLive_holds : Rows.FnExactLiveSaid := fnExactLive.proved
#print axioms fnExactLive_holds
end Go.Proofs.Ytcbpbnkoolpibaa
