/- Loads and Stores: both sides tell the same number of a small graph. -/
import Derived.Test.YtbbpmcignfhfmaaCount
import Derived.Test.YtbbpmcignfhfmaaF17
import Derived.Test.YtbbpmcignfhfmaaF19
import Derived.Test.YtbbpmcignfhfmaaF21
import Derived.Test.YtbbpmcignfhfmaaF22
namespace Go.Proofs.Ytbbpmcignfhfmaa.Gr
open Go.RowKit Go.Proofs.Ytbbpmcignfhfmaa.P Go.Proofs.YtbbpmcignfhfmaaW.PrintWords Go.Proofs.YtbbpmcignfhfmaaW.PrintLast Go.Proofs.Ytbbpmcignfhfmaa.Aux Go.Proofs.Ytbbpmcignfhfmaa.Opens
set_option linter.unusedVariables false
theorem Loads_same (zs : List Int) (p v s : Int) (bs : List S44) (h : Small zs bs) (_ : zs.length ≤ maxLen ∧ ∀ x_ ∈ zs, (Lit.int .i64 x_).wf = true) (_ : (Lit.int .i64 p).wf = true) (_ : (Lit.int .i64 v).wf = true) (_ : (Lit.int .i64 s).wf = true) (_ : bs.length ≤ maxLen ∧ ∀ x_ ∈ bs, W44 x_) :
    ∃ r, Ev (fun k => spec_Loads.f k zs p v s (bs.map convB)) r ∧ Ev (fun k => impl_Loads.f k zs p v s (bs.map convB)) r :=
  ⟨_, Ev.bind (f := fun _ t => some t) (spec_count 3 zs p v s bs h) (Ev.now _), Ev.bind (f := fun _ t => some t) (impl_count 3 zs p v s bs h) (Ev.now _)⟩
theorem Stores_same (zs : List Int) (p v s : Int) (bs : List S44) (h : Small zs bs) (_ : zs.length ≤ maxLen ∧ ∀ x_ ∈ zs, (Lit.int .i64 x_).wf = true) (_ : (Lit.int .i64 p).wf = true) (_ : (Lit.int .i64 v).wf = true) (_ : (Lit.int .i64 s).wf = true) (_ : bs.length ≤ maxLen ∧ ∀ x_ ∈ bs, W44 x_) :
    ∃ r, Ev (fun k => spec_Stores.f k zs p v s (bs.map convB)) r ∧ Ev (fun k => impl_Stores.f k zs p v s (bs.map convB)) r :=
  ⟨_, Ev.bind (f := fun _ t => some t) (spec_count 4 zs p v s bs h) (Ev.now _), Ev.bind (f := fun _ t => some t) (impl_count 4 zs p v s bs h) (Ev.now _)⟩
end Go.Proofs.Ytbbpmcignfhfmaa.Gr
