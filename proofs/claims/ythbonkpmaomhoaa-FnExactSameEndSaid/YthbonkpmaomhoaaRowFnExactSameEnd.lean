/- THE ROW. From the contract of FnExactSameEnd to the given statement: the arguments are opened by their types, and read behind the call as before. Conditions: those of the given statement, no other. -/
import Derived.Test.YthbonkpmaomhoaaRows
import Derived.Test.YthbonkpmaomhoaaF11
import Derived.Test.YthbonkpmaomhoaaPureFnExactSameEnd
import Derived.Test.YthbonkpmaomhoaaOpenT
import Derived.WalkKit
import Derived.ProofKit
import Derived.OpenShut
import Derived.ShutString
import Derived.ChangeOld
import Derived.Below
import Derived.SizedLaws
namespace Go.Proofs.Ythbonkpmaomhoaa.fnExactSameEnd
open Go.ChangeShapes Go.WideShapes Go.ChangeAt Go.RowKit Go.Proofs.YthbonkpmaomhoaaW.PrintWords Go.Proofs.Ythbonkpmaomhoaa.P Go.Proofs.Ythbonkpmaomhoaa.Opens
set_option linter.unusedVariables false
theorem own : ownKnob Try.prog.godebug = none := by kernel_rfl
theorem laidOut : laidOutB Try.prog = true := by kernel_rfl
set_option maxRecDepth 100000 in
theorem lifted (os : Os) (started : os.Started) (H : Type) (enc : TypeId × Value → H) :
    ReturnsInHanded {} Try.checked os 11 .any (Rows.fnExactSameEndSpec.pre6 enc Try.prog Try.f11 Rows.fnExactSameEndRow.domain false) (Rows.fnExactSameEndSpec.post enc Try.prog Try.f11 false true false false) := by
  refine returnsInHanded_of_change (C := Try.checked) own started (by kernel_rfl) Try.func11
    (ChangeSpec.witness6 (enc := enc) (C := Try.checked) false ⟨#[], #[.agg #[.int .i64 0, .int .i64 0, .slice none 0 0], .agg #[.int .i64 0, .int .i64 0, .slice none 0 0]], []⟩ 8 (by kernel_rfl) (by kernel_rfl) (by kernel_rfl) (by kernel_rfl)) ?_
  intro W base args ds gs before hval0 hW hcnd _
  have hval : ∀ (j : Nat) t v, Try.f11.params[j]? = some t → args[j]? = some v → Value.okWide Try.prog W .any base t v := hval0
  have hW' := hW
  obtain ⟨p, q, hA0, hV, rfl, hfz, hnd⟩ := hW
  have hA : DataW.TrodAll enc Try.prog W 0 (fun _ => true) true Try.f11.params.toList args.toList ds p := hA0
  rw [Try.params11] at hA hval
  obtain ⟨v0, vs0, d0, ds0, p0, q0, hargs, rfl, rfl, h0, r0⟩ := trodAll_cons hA
  obtain ⟨v1, vs1, d1, ds1, p1, q1, rfl, rfl, rfl, h1, r1⟩ := trodAll_cons r0
  obtain ⟨rfl, rfl, rfl⟩ := trodAll_nil r1
  obtain rfl : args = #[v0, v1] := by cases args; simp_all
  obtain ⟨rfl, rfl⟩ := trodVars_none hV
  have k0 := h0
  have lt0 : ∀ x ∈ p0, x.block < W.heap.size := by obtain ⟨m, hm⟩ := k0; exact DataW.trod_lt m _ _ _ hm
  obtain ⟨x0, cs0, rfl, hK0, hq0⟩ := open_agg (k := (Kd.pair (Kd.int .i64) (Kd.pair (Kd.int .i64) (Kd.slice 3 (Kd.int .i64))))) Try.underlying45 (opens_up fun n => opens_fields (total := 3) Try.underlying45 (by kernel_rfl) (opensF_cons (off := 0) (off' := 1) rfl (by kernel_rfl) (opens_int Try.underlying3) (opensF_cons (off := 1) (off' := 2) rfl (by kernel_rfl) (opens_int Try.underlying3) (opensF_one (off := 2) (total := 3) rfl (by kernel_rfl) (opens_up (fun n => opens_slice Try.underlying41 (by kernel_rfl) (opens_int Try.underlying3)) n))))) (hval 0 45 v0 rfl rfl) h0
  obtain ⟨a0_0, a0_1, l0_2⟩ := x0
  obtain ⟨_, _, rfl, rfl, ⟨_, _, rfl, rfl, ⟨A0_2, c0_2, rfl, hc0_2, hC0_2⟩⟩⟩ := hK0
  obtain ⟨w0_0, w0_1, w0_2⟩ := hq0
  have k1 := h1
  have lt1 : ∀ x ∈ p1, x.block < W.heap.size := by obtain ⟨m, hm⟩ := k1; exact DataW.trod_lt m _ _ _ hm
  obtain ⟨x1, cs1, rfl, hK1, hq1⟩ := open_agg (k := (Kd.pair (Kd.int .i64) (Kd.pair (Kd.int .i64) (Kd.slice 3 (Kd.int .i64))))) Try.underlying45 (opens_up fun n => opens_fields (total := 3) Try.underlying45 (by kernel_rfl) (opensF_cons (off := 0) (off' := 1) rfl (by kernel_rfl) (opens_int Try.underlying3) (opensF_cons (off := 1) (off' := 2) rfl (by kernel_rfl) (opens_int Try.underlying3) (opensF_one (off := 2) (total := 3) rfl (by kernel_rfl) (opens_up (fun n => opens_slice Try.underlying41 (by kernel_rfl) (opens_int Try.underlying3)) n))))) (hval 1 45 v1 rfl rfl) h1
  obtain ⟨a1_0, a1_1, l1_2⟩ := x1
  obtain ⟨_, _, rfl, rfl, ⟨_, _, rfl, rfl, ⟨A1_2, c1_2, rfl, hc1_2, hC1_2⟩⟩⟩ := hK1
  obtain ⟨w1_0, w1_1, w1_2⟩ := hq1
  clear hA0 hval0
  obtain ⟨k, hf⟩ := Pure.FnExactSameEnd a0_0 a0_1 l0_2 a1_0 a1_1 l1_2 w0_0 w0_1 w0_2 w1_0 w1_1 w1_2
  refine (laws_FnExactSameEnd.calls k a0_0 a0_1 _ _ l0_2 a1_0 a1_1 _ _ l1_2 true W hC0_2 hc0_2 hC1_2 hc1_2 hf).mono fun e W' ⟨he, bel⟩ => ?_
  subst he
  exact ⟨_, rfl, _, _, _, [], _, [], hW', trodAll_mk1 (shut_bool Try.underlying4 _), (trodAll_cons_mk (Below.trod laidOut (by kernel_rfl) (of_decide_eq_true (by kernel_rfl)) k0 bel lt0) (trodAll_cons_mk (Below.trod laidOut (by kernel_rfl) (of_decide_eq_true (by kernel_rfl)) k1 bel lt1) trodAll_mk0)), rfl, bel.frame _, fun h => by cases h⟩
theorem over : Rows.fnExactSameEndRow.holds Try.pinned (OpenSpec.ofChange Rows.fnExactSameEndSpec) :=
  OpenClaim.holds_of_wide 11 Try.f11 rfl rfl rfl rfl rfl rfl rfl ⟨rfl, rfl, rfl, rfl, rfl⟩ rfl rfl rfl rfl rfl (by kernel_rfl) Try.func11 (by kernel_rfl)
    (of_decide_eq_true (by kernel_rfl)) (by unfold Func.isWrapper; first | (rw [if_pos (by decide +kernel)]; kernel_rfl) | (rw [if_neg (by decide +kernel)]; exact ⟨rfl, rfl⟩))
    (fun os started H enc _ => lifted os started H enc)
theorem proved : Rows.FnExactSameEndSaid := over
end Go.Proofs.Ythbonkpmaomhoaa.fnExactSameEnd
namespace Go.Proofs.Ythbonkpmaomhoaa
/-- The row, under a short name, for the claim. -/
theorem fnExactSameEnd_holds : Rows.FnExactSameEndSaid := fnExactSameEnd.proved
#print axioms fnExactSameEnd_holds
end Go.Proofs.Ythbonkpmaomhoaa
