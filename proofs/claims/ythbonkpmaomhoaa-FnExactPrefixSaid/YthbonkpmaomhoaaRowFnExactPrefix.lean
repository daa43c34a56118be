/- THE ROW. From the contract of FnExactPrefix to the given statement: the arguments are opened by their types, and read behind the call as before. Conditions: those of the given statement, no other. -/
import Derived.Test.YthbonkpmaomhoaaRows
import Derived.Test.YthbonkpmaomhoaaF9
import Derived.Test.YthbonkpmaomhoaaPureFnExactPrefix
import Derived.Test.YthbonkpmaomhoaaOpenT
import Derived.WalkKit
import Derived.ProofKit
import Derived.OpenShut
import Derived.ShutString
import Derived.ChangeOld
import Derived.Below
import Derived.SizedLaws
namespace Go.Proofs.Ythbonkpmaomhoaa.fnExactPrefix
open Go.ChangeShapes Go.WideShapes Go.ChangeAt Go.RowKit Go.Proofs.YthbonkpmaomhoaaW.PrintWords Go.Proofs.Ythbonkpmaomhoaa.P Go.Proofs.Ythbonkpmaomhoaa.Opens
set_option linter.unusedVariables false
theorem own : ownKnob Try.prog.godebug = none := by kernel_rfl
theorem laidOut : laidOutB Try.prog = true := by kernel_rfl
set_option maxRecDepth 100000 in
theorem lifted (os : Os) (started : os.Started) (H : Type) (enc : TypeId × Value → H) :
    ReturnsInHanded {} Try.checked os 9 .any (Rows.fnExactPrefixSpec.pre6 enc Try.prog Try.f9 Rows.fnExactPrefixRow.domain false) (Rows.fnExactPrefixSpec.post enc Try.prog Try.f9 false true false false) := by
  refine returnsInHanded_of_change (C := Try.checked) own started (by kernel_rfl) Try.func9
    (ChangeSpec.witness6 (enc := enc) (C := Try.checked) false ⟨#[], #[.slice none 0 0, .slice none 0 0], []⟩ 8 (by kernel_rfl) (by kernel_rfl) (by kernel_rfl) (by kernel_rfl)) ?_
  intro W base args ds gs before hval0 hW hcnd _
  have hval : ∀ (j : Nat) t v, Try.f9.params[j]? = some t → args[j]? = some v → Value.okWide Try.prog W .any base t v := hval0
  have hW' := hW
  obtain ⟨p, q, hA0, hV, rfl, hfz, hnd⟩ := hW
  have hA : DataW.TrodAll enc Try.prog W 0 (fun _ => true) true Try.f9.params.toList args.toList ds p := hA0
  rw [Try.params9] at hA hval
  obtain ⟨v0, vs0, d0, ds0, p0, q0, hargs, rfl, rfl, h0, r0⟩ := trodAll_cons hA
  obtain ⟨v1, vs1, d1, ds1, p1, q1, rfl, rfl, rfl, h1, r1⟩ := trodAll_cons r0
  obtain ⟨rfl, rfl, rfl⟩ := trodAll_nil r1
  obtain rfl : args = #[v0, v1] := by cases args; simp_all
  obtain ⟨rfl, rfl⟩ := trodVars_none hV
  have k0 := h0
  have lt0 : ∀ x ∈ p0, x.block < W.heap.size := by obtain ⟨m, hm⟩ := k0; exact DataW.trod_lt m _ _ _ hm
  obtain ⟨a0, len0, cap0, rfl⟩ := okWide_slice Try.underlying41 (hval 0 41 v0 rfl rfl)
  obtain ⟨l0, hK0, w0⟩ : ∃ l, (Kd.slice 3 (Kd.int .i64)).K W l [.slice a0 len0 cap0] ∧ (l.length ≤ maxLen ∧ ∀ x_ ∈ l, (Lit.int .i64 x_).wf = true) := by obtain ⟨fuel, hf⟩ := h0; exact (opens_up fun n => opens_slice Try.underlying41 (by kernel_rfl) (opens_int Try.underlying3)) fuel _ _ (by simpa [Value.cells] using hf)
  obtain ⟨A0, c0, he0, hc0, hC0⟩ := hK0
  obtain ⟨rfl, rfl, rfl⟩ : a0 = A0 ∧ len0 = l0.length ∧ cap0 = c0 := by simpa using he0
  have k1 := h1
  have lt1 : ∀ x ∈ p1, x.block < W.heap.size := by obtain ⟨m, hm⟩ := k1; exact DataW.trod_lt m _ _ _ hm
  obtain ⟨a1, len1, cap1, rfl⟩ := okWide_slice Try.underlying41 (hval 1 41 v1 rfl rfl)
  obtain ⟨l1, hK1, w1⟩ : ∃ l, (Kd.slice 3 (Kd.int .i64)).K W l [.slice a1 len1 cap1] ∧ (l.length ≤ maxLen ∧ ∀ x_ ∈ l, (Lit.int .i64 x_).wf = true) := by obtain ⟨fuel, hf⟩ := h1; exact (opens_up fun n => opens_slice Try.underlying41 (by kernel_rfl) (opens_int Try.underlying3)) fuel _ _ (by simpa [Value.cells] using hf)
  obtain ⟨A1, c1, he1, hc1, hC1⟩ := hK1
  obtain ⟨rfl, rfl, rfl⟩ : a1 = A1 ∧ len1 = l1.length ∧ cap1 = c1 := by simpa using he1
  clear hA0 hval0
  obtain ⟨k, hf⟩ := Pure.FnExactPrefix l0 l1 w0 w1
  refine (laws_FnExactPrefix.calls k _ _ l0 _ _ l1 true W hC0 hc0 hC1 hc1 hf).mono fun e W' ⟨he, bel⟩ => ?_
  subst he
  exact ⟨_, rfl, _, _, _, [], _, [], hW', trodAll_mk1 (shut_bool Try.underlying4 _), (trodAll_cons_mk (Below.trod laidOut (by kernel_rfl) (of_decide_eq_true (by kernel_rfl)) k0 bel lt0) (trodAll_cons_mk (Below.trod laidOut (by kernel_rfl) (of_decide_eq_true (by kernel_rfl)) k1 bel lt1) trodAll_mk0)), rfl, bel.frame _, fun h => by cases h⟩
theorem over : Rows.fnExactPrefixRow.holds Try.pinned (OpenSpec.ofChange Rows.fnExactPrefixSpec) :=
  OpenClaim.holds_of_wide 9 Try.f9 rfl rfl rfl rfl rfl rfl rfl ⟨rfl, rfl, rfl, rfl, rfl⟩ rfl rfl rfl rfl rfl (by kernel_rfl) Try.func9 (by kernel_rfl)
    (of_decide_eq_true (by kernel_rfl)) (by unfold Func.isWrapper; first | (rw [if_pos (by decide +kernel)]; kernel_rfl) | (rw [if_neg (by decide +kernel)]; exact ⟨rfl, rfl⟩))
    (fun os started H enc _ => lifted os started H enc)
theorem proved : Rows.FnExactPrefixSaid := over
end Go.Proofs.Ythbonkpmaomhoaa.fnExactPrefix
namespace Go.Proofs.Ythbonkpmaomhoaa
/-- The row, under a short name, for the claim. -/
theorem fnExactPrefix_holds : Rows.FnExactPrefixSaid := fnExactPrefix.proved
#print axioms fnExactPrefix_holds
end Go.Proofs.Ythbonkpmaomhoaa
