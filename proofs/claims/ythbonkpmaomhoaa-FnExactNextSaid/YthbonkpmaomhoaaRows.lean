/-
  NARROWER THAN 'FOR EVERY INPUT', by the rows' own cells (each row's printed sentence says how): FnExactSameExp: loops.
  DERIVED. THE GIVEN ROWS OF THIS SEAT. 12 by the template 'for every input the law returns true; each argument reads behind the call as it read before'; 0 by the template 'total and deterministic' (their statements: YthbonkpmaomhoaaTotals.lean).
  GIVEN WITH THE SEED: the statements are not yours to turn. If you find one false, say at which input.
  Laid BY PROGRAM, IN A SANDBOX (cutbox-rows.mjs): the forced cells as the released guide's own fill.sh prints them over the translation 9d12fb07d685ef3b… (all of the seat's roots in one cut). By AI agents, Wed Nov 11 2026. No macro, syntax, notation, axiom, sorry.
-/
import Derived.Test.YthbonkpmaomhoaaChecked
import GoSem.Claim
import GoSem.ClaimJoined
import GoSem.ClaimMapViews
import Derived.JoinedTies
import Derived.KernelRfl
namespace Go.Proofs.Ythbonkpmaomhoaa
/- THE CELL 'sum', in the pinned program and in every row, IS THE sha256 OF THE DUMP (.gsa) THAT YthbonkpmaomhoaaProg.lean LOADS. Nothing in Lean hashes anything: it is a label: what it is worth is what the hold of that sum in a sandbox is worth. -/
noncomputable def Try.pinned : Pinned := { name := "ythbonkpmaomhoaa", sum := "9d12fb07d685ef3b6eaa1d83c8f6ed0674a349ad7342f21d808cf8f8b4c9c5a4", checked := Try.checked }
namespace Rows
def none {H : Type} : Left H := { results := [], args := [] }

/-- 'laws.FnExactConstants': WHATEVER THE INPUT: true; the input reads as it did. -/
def fnExactConstantsSpec : ChangeSpec := { name := "fnExactConstants", fn := fun _ => fun
  | [] => { results := [.lit (.bool true)], args := [] }
  | _ => none }
def fnExactConstantsRow : OpenClaim := { program := "ythbonkpmaomhoaa", sum := "9d12fb07d685ef3b6eaa1d83c8f6ed0674a349ad7342f21d808cf8f8b4c9c5a4", func := "loop.example/g00385/laws.FnExactConstants", spec := "fnExactConstants", apart := false }
def FnExactConstantsSaid : Prop := fnExactConstantsRow.holds Try.pinned (OpenSpec.ofChange fnExactConstantsSpec)

/-- ITS FALSE NEIGHBOUR: 'it returns false'. Refute it at one input. -/
def fnExactConstantsWrong : ChangeSpec := { name := "fnExactConstants", fn := fun _ => fun
  | [] => { results := [.lit (.bool false)], args := [] }
  | _ => none }
def FnExactConstantsWrongFalsely : Prop := fnExactConstantsRow.holds Try.pinned (OpenSpec.ofChange fnExactConstantsWrong)

/-- 'laws.FnExactAliasText': WHATEVER THE INPUT: true; the input reads as it did. -/
def fnExactAliasTextSpec : ChangeSpec := { name := "fnExactAliasText", fn := fun _ => fun
  | [d] => { results := [.lit (.bool true)], args := [d] }
  | _ => none }
def fnExactAliasTextRow : OpenClaim := { program := "ythbonkpmaomhoaa", sum := "9d12fb07d685ef3b6eaa1d83c8f6ed0674a349ad7342f21d808cf8f8b4c9c5a4", func := "loop.example/g00385/laws.FnExactAliasText", spec := "fnExactAliasText", apart := false }
def FnExactAliasTextSaid : Prop := fnExactAliasTextRow.holds Try.pinned (OpenSpec.ofChange fnExactAliasTextSpec)

/-- ITS FALSE NEIGHBOUR: 'it returns false'. Refute it at one input. -/
def fnExactAliasTextWrong : ChangeSpec := { name := "fnExactAliasText", fn := fun _ => fun
  | [d] => { results := [.lit (.bool false)], args := [d] }
  | _ => none }
def FnExactAliasTextWrongFalsely : Prop := fnExactAliasTextRow.holds Try.pinned (OpenSpec.ofChange fnExactAliasTextWrong)

/-- 'laws.FnExactIsWord': WHATEVER THE INPUT: true; the input reads as it did. -/
def fnExactIsWordSpec : ChangeSpec := { name := "fnExactIsWord", fn := fun _ => fun
  | [d] => { results := [.lit (.bool true)], args := [d] }
  | _ => none }
def fnExactIsWordRow : OpenClaim := { program := "ythbonkpmaomhoaa", sum := "9d12fb07d685ef3b6eaa1d83c8f6ed0674a349ad7342f21d808cf8f8b4c9c5a4", func := "loop.example/g00385/laws.FnExactIsWord", spec := "fnExactIsWord", apart := false }
def FnExactIsWordSaid : Prop := fnExactIsWordRow.holds Try.pinned (OpenSpec.ofChange fnExactIsWordSpec)

/-- ITS FALSE NEIGHBOUR: 'it returns false'. Refute it at one input. -/
def fnExactIsWordWrong : ChangeSpec := { name := "fnExactIsWord", fn := fun _ => fun
  | [d] => { results := [.lit (.bool false)], args := [d] }
  | _ => none }
def FnExactIsWordWrongFalsely : Prop := fnExactIsWordRow.holds Try.pinned (OpenSpec.ofChange fnExactIsWordWrong)

/-- 'laws.FnExactAlias': WHATEVER THE INPUT: true; the input reads as it did. -/
def fnExactAliasSpec : ChangeSpec := { name := "fnExactAlias", fn := fun _ => fun
  | [d1, d2] => { results := [.lit (.bool true)], args := [d1, d2] }
  | _ => none }
def fnExactAliasRow : OpenClaim := { program := "ythbonkpmaomhoaa", sum := "9d12fb07d685ef3b6eaa1d83c8f6ed0674a349ad7342f21d808cf8f8b4c9c5a4", func := "loop.example/g00385/laws.FnExactAlias", spec := "fnExactAlias", apart := false }
def FnExactAliasSaid : Prop := fnExactAliasRow.holds Try.pinned (OpenSpec.ofChange fnExactAliasSpec)

/-- ITS FALSE NEIGHBOUR: 'it returns false'. Refute it at one input. -/
def fnExactAliasWrong : ChangeSpec := { name := "fnExactAlias", fn := fun _ => fun
  | [d1, d2] => { results := [.lit (.bool false)], args := [d1, d2] }
  | _ => none }
def FnExactAliasWrongFalsely : Prop := fnExactAliasRow.holds Try.pinned (OpenSpec.ofChange fnExactAliasWrong)

/-- 'laws.FnExactMakes': WHATEVER THE INPUT: true; the input reads as it did. -/
def fnExactMakesSpec : ChangeSpec := { name := "fnExactMakes", fn := fun _ => fun
  | [d] => { results := [.lit (.bool true)], args := [d] }
  | _ => none }
def fnExactMakesRow : OpenClaim := { program := "ythbonkpmaomhoaa", sum := "9d12fb07d685ef3b6eaa1d83c8f6ed0674a349ad7342f21d808cf8f8b4c9c5a4", func := "loop.example/g00385/laws.FnExactMakes", spec := "fnExactMakes", apart := false }
def FnExactMakesSaid : Prop := fnExactMakesRow.holds Try.pinned (OpenSpec.ofChange fnExactMakesSpec)

/-- ITS FALSE NEIGHBOUR: 'it returns false'. Refute it at one input. -/
def fnExactMakesWrong : ChangeSpec := { name := "fnExactMakes", fn := fun _ => fun
  | [d] => { results := [.lit (.bool false)], args := [d] }
  | _ => none }
def FnExactMakesWrongFalsely : Prop := fnExactMakesRow.holds Try.pinned (OpenSpec.ofChange fnExactMakesWrong)

/-- 'laws.FnExactBin': WHATEVER THE INPUT: true; the input reads as it did. -/
def fnExactBinSpec : ChangeSpec := { name := "fnExactBin", fn := fun _ => fun
  | [d1, d2, d3] => { results := [.lit (.bool true)], args := [d1, d2, d3] }
  | _ => none }
def fnExactBinRow : OpenClaim := { program := "ythbonkpmaomhoaa", sum := "9d12fb07d685ef3b6eaa1d83c8f6ed0674a349ad7342f21d808cf8f8b4c9c5a4", func := "loop.example/g00385/laws.FnExactBin", spec := "fnExactBin", apart := false }
def FnExactBinSaid : Prop := fnExactBinRow.holds Try.pinned (OpenSpec.ofChange fnExactBinSpec)

/-- ITS FALSE NEIGHBOUR: 'it returns false'. Refute it at one input. -/
def fnExactBinWrong : ChangeSpec := { name := "fnExactBin", fn := fun _ => fun
  | [d1, d2, d3] => { results := [.lit (.bool false)], args := [d1, d2, d3] }
  | _ => none }
def FnExactBinWrongFalsely : Prop := fnExactBinRow.holds Try.pinned (OpenSpec.ofChange fnExactBinWrong)

/-- 'laws.FnExactPrefix': WHATEVER THE INPUT: true; the input reads as it did. -/
def fnExactPrefixSpec : ChangeSpec := { name := "fnExactPrefix", fn := fun _ => fun
  | [d1, d2] => { results := [.lit (.bool true)], args := [d1, d2] }
  | _ => none }
def fnExactPrefixRow : OpenClaim := { program := "ythbonkpmaomhoaa", sum := "9d12fb07d685ef3b6eaa1d83c8f6ed0674a349ad7342f21d808cf8f8b4c9c5a4", func := "loop.example/g00385/laws.FnExactPrefix", spec := "fnExactPrefix", apart := false }
def FnExactPrefixSaid : Prop := fnExactPrefixRow.holds Try.pinned (OpenSpec.ofChange fnExactPrefixSpec)

/-- ITS FALSE NEIGHBOUR: 'it returns false'. Refute it at one input. -/
def fnExactPrefixWrong : ChangeSpec := { name := "fnExactPrefix", fn := fun _ => fun
  | [d1, d2] => { results := [.lit (.bool false)], args := [d1, d2] }
  | _ => none }
def FnExactPrefixWrongFalsely : Prop := fnExactPrefixRow.holds Try.pinned (OpenSpec.ofChange fnExactPrefixWrong)

/-- 'laws.FnExactNameOk': WHATEVER THE INPUT: true; the input reads as it did. -/
def fnExactNameOkSpec : ChangeSpec := { name := "fnExactNameOk", fn := fun _ => fun
  | [d] => { results := [.lit (.bool true)], args := [d] }
  | _ => none }
def fnExactNameOkRow : OpenClaim := { program := "ythbonkpmaomhoaa", sum := "9d12fb07d685ef3b6eaa1d83c8f6ed0674a349ad7342f21d808cf8f8b4c9c5a4", func := "loop.example/g00385/laws.FnExactNameOk", spec := "fnExactNameOk", apart := false }
def FnExactNameOkSaid : Prop := fnExactNameOkRow.holds Try.pinned (OpenSpec.ofChange fnExactNameOkSpec)

/-- ITS FALSE NEIGHBOUR: 'it returns false'. Refute it at one input. -/
def fnExactNameOkWrong : ChangeSpec := { name := "fnExactNameOk", fn := fun _ => fun
  | [d] => { results := [.lit (.bool false)], args := [d] }
  | _ => none }
def FnExactNameOkWrongFalsely : Prop := fnExactNameOkRow.holds Try.pinned (OpenSpec.ofChange fnExactNameOkWrong)

/-- 'laws.FnExactSameEnd': WHATEVER THE INPUT: true; the input reads as it did. -/
def fnExactSameEndSpec : ChangeSpec := { name := "fnExactSameEnd", fn := fun _ => fun
  | [d1, d2] => { results := [.lit (.bool true)], args := [d1, d2] }
  | _ => none }
def fnExactSameEndRow : OpenClaim := { program := "ythbonkpmaomhoaa", sum := "9d12fb07d685ef3b6eaa1d83c8f6ed0674a349ad7342f21d808cf8f8b4c9c5a4", func := "loop.example/g00385/laws.FnExactSameEnd", spec := "fnExactSameEnd", apart := false }
def FnExactSameEndSaid : Prop := fnExactSameEndRow.holds Try.pinned (OpenSpec.ofChange fnExactSameEndSpec)

/-- ITS FALSE NEIGHBOUR: 'it returns false'. Refute it at one input. -/
def fnExactSameEndWrong : ChangeSpec := { name := "fnExactSameEnd", fn := fun _ => fun
  | [d1, d2] => { results := [.lit (.bool false)], args := [d1, d2] }
  | _ => none }
def FnExactSameEndWrongFalsely : Prop := fnExactSameEndRow.holds Try.pinned (OpenSpec.ofChange fnExactSameEndWrong)

/-- 'laws.FnExactUses': WHATEVER THE INPUT: true; the input reads as it did. -/
def fnExactUsesSpec : ChangeSpec := { name := "fnExactUses", fn := fun _ => fun
  | [d] => { results := [.lit (.bool true)], args := [d] }
  | _ => none }
def fnExactUsesRow : OpenClaim := { program := "ythbonkpmaomhoaa", sum := "9d12fb07d685ef3b6eaa1d83c8f6ed0674a349ad7342f21d808cf8f8b4c9c5a4", func := "loop.example/g00385/laws.FnExactUses", spec := "fnExactUses", apart := false }
def FnExactUsesSaid : Prop := fnExactUsesRow.holds Try.pinned (OpenSpec.ofChange fnExactUsesSpec)

/-- ITS FALSE NEIGHBOUR: 'it returns false'. Refute it at one input. -/
def fnExactUsesWrong : ChangeSpec := { name := "fnExactUses", fn := fun _ => fun
  | [d] => { results := [.lit (.bool false)], args := [d] }
  | _ => none }
def FnExactUsesWrongFalsely : Prop := fnExactUsesRow.holds Try.pinned (OpenSpec.ofChange fnExactUsesWrong)

/-- 'laws.FnExactSameExp': WHATEVER THE INPUT: true; the input reads as it did. -/
def fnExactSameExpSpec : ChangeSpec := { name := "fnExactSameExp", fn := fun _ => fun
  | [d1, d2] => { results := [.lit (.bool true)], args := [d1, d2] }
  | _ => none }
def fnExactSameExpRow : OpenClaim := { program := "ythbonkpmaomhoaa", sum := "9d12fb07d685ef3b6eaa1d83c8f6ed0674a349ad7342f21d808cf8f8b4c9c5a4", func := "loop.example/g00385/laws.FnExactSameExp", spec := "fnExactSameExp", unfollowed := true, recurses := true, loops := true, apart := false }
def FnExactSameExpSaid : Prop := fnExactSameExpRow.holds Try.pinned (OpenSpec.ofChange fnExactSameExpSpec)

/-- ITS FALSE NEIGHBOUR: 'it returns false'. Refute it at one input. -/
def fnExactSameExpWrong : ChangeSpec := { name := "fnExactSameExp", fn := fun _ => fun
  | [d1, d2] => { results := [.lit (.bool false)], args := [d1, d2] }
  | _ => none }
def FnExactSameExpWrongFalsely : Prop := fnExactSameExpRow.holds Try.pinned (OpenSpec.ofChange fnExactSameExpWrong)

/-- 'laws.FnExactNext': WHATEVER THE INPUT: true; the input reads as it did. -/
def fnExactNextSpec : ChangeSpec := { name := "fnExactNext", fn := fun _ => fun
  | [d] => { results := [.lit (.bool true)], args := [d] }
  | _ => none }
def fnExactNextRow : OpenClaim := { program := "ythbonkpmaomhoaa", sum := "9d12fb07d685ef3b6eaa1d83c8f6ed0674a349ad7342f21d808cf8f8b4c9c5a4", func := "loop.example/g00385/laws.FnExactNext", spec := "fnExactNext", apart := false }
def FnExactNextSaid : Prop := fnExactNextRow.holds Try.pinned (OpenSpec.ofChange fnExactNextSpec)

/-- ITS FALSE NEIGHBOUR: 'it returns false'. Refute it at one input. -/
def fnExactNextWrong : ChangeSpec := { name := "fnExactNext", fn := fun _ => fun
  | [d] => { results := [.lit (.bool false)], args := [d] }
  | _ => none }
def FnExactNextWrongFalsely : Prop := fnExactNextRow.holds Try.pinned (OpenSpec.ofChange fnExactNextWrong)

/- THE SECOND FORM. 'bulk': how many values and letters a reading holds, each counted each time it is reached (what is shared counts as often as it is met; a slice's spare places count too). A statement '..UptoSaid' is the law's where the arguments, and the package variables that the reading takes, are together of bulk at most 1048576: NARROWER than '..Said'. Prove '..Said' where nothing that the law and all that it calls make is longer than what came in: it says more and counts as full. Else prove '..UptoSaid'. A law counts once. -/
mutual
def uptoBulk {H : Type} : DataW H → Nat
  | .lit (.string bytes) => bytes.length + 1
  | .lit _ => 1
  | .nil => 1
  | .ptr d => uptoBulk d + 1
  | .slice elems spare => uptoBulkAll elems + uptoBulkAll spare + 1
  | .agg parts => uptoBulkAll parts + 1
  | .iface _ d => uptoBulk d + 1
  | .map entries => uptoBulkEntries entries + 1
  | .held _ => 1
def uptoBulkAll {H : Type} : List (DataW H) → Nat
  | [] => 0
  | d :: r => uptoBulk d + uptoBulkAll r
def uptoBulkEntries {H : Type} : List (Lit × DataW H) → Nat
  | [] => 0
  | x :: r => uptoBulkEntry x + uptoBulkEntries r
def uptoBulkEntry {H : Type} : Lit × DataW H → Nat
  | (.string bytes, d) => bytes.length + uptoBulk d + 1
  | (_, d) => uptoBulk d + 1
 end
def uptoSmall : (H : Type) → List (DataW H) → Bool := fun _ ds => decide (uptoBulkAll ds ≤ 1048576)
def OpenSpec.upto (s : _root_.Go.ChangeSpec) : _root_.Go.OpenSpec := { _root_.Go.OpenSpec.ofChange s with cond := some uptoSmall }

/-- 'laws.FnExactConstants', WHERE WHAT IT READS IS OF BULK AT MOST 1048576: true; the input reads as it did. -/
def fnExactConstantsUptoRow : OpenClaim := { program := "ythbonkpmaomhoaa", sum := "9d12fb07d685ef3b6eaa1d83c8f6ed0674a349ad7342f21d808cf8f8b4c9c5a4", func := "loop.example/g00385/laws.FnExactConstants", spec := "fnExactConstants", apart := false, narrowed := true }
def FnExactConstantsUptoSaid : Prop := fnExactConstantsUptoRow.holds Try.pinned (OpenSpec.upto fnExactConstantsSpec)

/-- 'laws.FnExactAliasText', WHERE WHAT IT READS IS OF BULK AT MOST 1048576: true; the input reads as it did. -/
def fnExactAliasTextUptoRow : OpenClaim := { program := "ythbonkpmaomhoaa", sum := "9d12fb07d685ef3b6eaa1d83c8f6ed0674a349ad7342f21d808cf8f8b4c9c5a4", func := "loop.example/g00385/laws.FnExactAliasText", spec := "fnExactAliasText", apart := false, narrowed := true }
def FnExactAliasTextUptoSaid : Prop := fnExactAliasTextUptoRow.holds Try.pinned (OpenSpec.upto fnExactAliasTextSpec)

/-- 'laws.FnExactIsWord', WHERE WHAT IT READS IS OF BULK AT MOST 1048576: true; the input reads as it did. -/
def fnExactIsWordUptoRow : OpenClaim := { program := "ythbonkpmaomhoaa", sum := "9d12fb07d685ef3b6eaa1d83c8f6ed0674a349ad7342f21d808cf8f8b4c9c5a4", func := "loop.example/g00385/laws.FnExactIsWord", spec := "fnExactIsWord", apart := false, narrowed := true }
def FnExactIsWordUptoSaid : Prop := fnExactIsWordUptoRow.holds Try.pinned (OpenSpec.upto fnExactIsWordSpec)

/-- 'laws.FnExactAlias', WHERE WHAT IT READS IS OF BULK AT MOST 1048576: true; the input reads as it did. -/
def fnExactAliasUptoRow : OpenClaim := { program := "ythbonkpmaomhoaa", sum := "9d12fb07d685ef3b6eaa1d83c8f6ed0674a349ad7342f21d808cf8f8b4c9c5a4", func := "loop.example/g00385/laws.FnExactAlias", spec := "fnExactAlias", apart := false, narrowed := true }
def FnExactAliasUptoSaid : Prop := fnExactAliasUptoRow.holds Try.pinned (OpenSpec.upto fnExactAliasSpec)

/-- 'laws.FnExactMakes', WHERE WHAT IT READS IS OF BULK AT MOST 1048576: true; the input reads as it did. -/
def fnExactMakesUptoRow : OpenClaim := { program := "ythbonkpmaomhoaa", sum := "9d12fb07d685ef3b6eaa1d83c8f6ed0674a349ad7342f21d808cf8f8b4c9c5a4", func := "loop.example/g00385/laws.FnExactMakes", spec := "fnExactMakes", apart := false, narrowed := true }
def FnExactMakesUptoSaid : Prop := fnExactMakesUptoRow.holds Try.pinned (OpenSpec.upto fnExactMakesSpec)

/-- 'laws.FnExactBin', WHERE WHAT IT READS IS OF BULK AT MOST 1048576: true; the input reads as it did. -/
def fnExactBinUptoRow : OpenClaim := { program := "ythbonkpmaomhoaa", sum := "9d12fb07d685ef3b6eaa1d83c8f6ed0674a349ad7342f21d808cf8f8b4c9c5a4", func := "loop.example/g00385/laws.FnExactBin", spec := "fnExactBin", apart := false, narrowed := true }
def FnExactBinUptoSaid : Prop := fnExactBinUptoRow.holds Try.pinned (OpenSpec.upto fnExactBinSpec)

/-- 'laws.FnExactPrefix', WHERE WHAT IT READS IS OF BULK AT MOST 1048576: true; the input reads as it did. -/
def fnExactPrefixUptoRow : OpenClaim := { program := "ythbonkpmaomhoaa", sum := "9d12fb07d685ef3b6eaa1d83c8f6ed0674a349ad7342f21d808cf8f8b4c9c5a4", func := "loop.example/g00385/laws.FnExactPrefix", spec := "fnExactPrefix", apart := false, narrowed := true }
def FnExactPrefixUptoSaid : Prop := fnExactPrefixUptoRow.holds Try.pinned (OpenSpec.upto fnExactPrefixSpec)

/-- 'laws.FnExactNameOk', WHERE WHAT IT READS IS OF BULK AT MOST 1048576: true; the input reads as it did. -/
def fnExactNameOkUptoRow : OpenClaim := { program := "ythbonkpmaomhoaa", sum := "9d12fb07d685ef3b6eaa1d83c8f6ed0674a349ad7342f21d808cf8f8b4c9c5a4", func := "loop.example/g00385/laws.FnExactNameOk", spec := "fnExactNameOk", apart := false, narrowed := true }
def FnExactNameOkUptoSaid : Prop := fnExactNameOkUptoRow.holds Try.pinned (OpenSpec.upto fnExactNameOkSpec)

/-- 'laws.FnExactSameEnd', WHERE WHAT IT READS IS OF BULK AT MOST 1048576: true; the input reads as it did. -/
def fnExactSameEndUptoRow : OpenClaim := { program := "ythbonkpmaomhoaa", sum := "9d12fb07d685ef3b6eaa1d83c8f6ed0674a349ad7342f21d808cf8f8b4c9c5a4", func := "loop.example/g00385/laws.FnExactSameEnd", spec := "fnExactSameEnd", apart := false, narrowed := true }
def FnExactSameEndUptoSaid : Prop := fnExactSameEndUptoRow.holds Try.pinned (OpenSpec.upto fnExactSameEndSpec)

/-- 'laws.FnExactUses', WHERE WHAT IT READS IS OF BULK AT MOST 1048576: true; the input reads as it did. -/
def fnExactUsesUptoRow : OpenClaim := { program := "ythbonkpmaomhoaa", sum := "9d12fb07d685ef3b6eaa1d83c8f6ed0674a349ad7342f21d808cf8f8b4c9c5a4", func := "loop.example/g00385/laws.FnExactUses", spec := "fnExactUses", apart := false, narrowed := true }
def FnExactUsesUptoSaid : Prop := fnExactUsesUptoRow.holds Try.pinned (OpenSpec.upto fnExactUsesSpec)

/-- 'laws.FnExactSameExp', WHERE WHAT IT READS IS OF BULK AT MOST 1048576: true; the input reads as it did. -/
def fnExactSameExpUptoRow : OpenClaim := { program := "ythbonkpmaomhoaa", sum := "9d12fb07d685ef3b6eaa1d83c8f6ed0674a349ad7342f21d808cf8f8b4c9c5a4", func := "loop.example/g00385/laws.FnExactSameExp", spec := "fnExactSameExp", unfollowed := true, recurses := true, loops := true, apart := false, narrowed := true }
def FnExactSameExpUptoSaid : Prop := fnExactSameExpUptoRow.holds Try.pinned (OpenSpec.upto fnExactSameExpSpec)

/-- 'laws.FnExactNext', WHERE WHAT IT READS IS OF BULK AT MOST 1048576: true; the input reads as it did. -/
def fnExactNextUptoRow : OpenClaim := { program := "ythbonkpmaomhoaa", sum := "9d12fb07d685ef3b6eaa1d83c8f6ed0674a349ad7342f21d808cf8f8b4c9c5a4", func := "loop.example/g00385/laws.FnExactNext", spec := "fnExactNext", apart := false, narrowed := true }
def FnExactNextUptoSaid : Prop := fnExactNextUptoRow.holds Try.pinned (OpenSpec.upto fnExactNextSpec)

end Rows
end Go.Proofs.Ythbonkpmaomhoaa
