/- What the values of this seat's struct types keep when they come in as data, and that they can be opened. -/
import Derived.Test.YthbonkpmaomhoaaOpens
import Derived.Test.YthbonkpmaomhoaaF0
namespace Go.Proofs.Ythbonkpmaomhoaa.Opens
open Go.RowKit Go.Proofs.YthbonkpmaomhoaaW.PrintWords Go.Proofs.Ythbonkpmaomhoaa.P
set_option linter.unusedVariables false
def W33 (x : S33) : Prop := (Lit.int .i64 x.f0).wf = true ∧ (Lit.int .i64 x.f1).wf = true ∧ (Lit.int .i64 x.f2).wf = true ∧ (Lit.int .i64 x.f3).wf = true ∧ (Lit.int .i64 x.f4).wf = true ∧ (Lit.int .i64 x.f5).wf = true ∧ x.f6.size ≤ maxLen
theorem open33 {H : Type} {enc : TypeId × Value → H} {w : World} : ∀ n, OpensN enc Try.prog w n 33 k33 W33 :=
  opens_up fun n => opens_iso (fun x : S33 => (x.f0, x.f1, x.f2, x.f3, x.f4, x.f5, x.f6)) (fun p => (⟨p.1, p.2.1, p.2.2.1, p.2.2.2.1, p.2.2.2.2.1, p.2.2.2.2.2.1, p.2.2.2.2.2.2⟩ : S33)) (fun _ => rfl) (opens_fields (total := 7) Try.underlying33 (by kernel_rfl) (opensF_cons (off := 0) (off' := 1) rfl (by kernel_rfl) (opens_int Try.underlying3) (opensF_cons (off := 1) (off' := 2) rfl (by kernel_rfl) (opens_int Try.underlying3) (opensF_cons (off := 2) (off' := 3) rfl (by kernel_rfl) (opens_int Try.underlying3) (opensF_cons (off := 3) (off' := 4) rfl (by kernel_rfl) (opens_int Try.underlying3) (opensF_cons (off := 4) (off' := 5) rfl (by kernel_rfl) (opens_int Try.underlying3) (opensF_cons (off := 5) (off' := 6) rfl (by kernel_rfl) (opens_int Try.underlying3) (opensF_one (off := 6) (total := 7) rfl (by kernel_rfl) (opens_string Try.underlying9)))))))))
end Go.Proofs.Ythbonkpmaomhoaa.Opens
