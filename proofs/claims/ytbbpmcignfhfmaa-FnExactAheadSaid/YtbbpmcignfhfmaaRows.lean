/-
  No cell of these rows narrows 'for every input' (looked for: loops, veiled, ifaces, maps, wideKeys, modest, calm, conditions, laid).
  DERIVED. THE GIVEN ROWS OF THIS SEAT. 13 by the template 'for every input the law returns true; each argument reads behind the call as it read before'; 0 by the template 'total and deterministic' (their statements: YtbbpmcignfhfmaaTotals.lean).
  GIVEN WITH THE SEED: the statements are not yours to turn. If you find one false, say at which input.
  Laid BY PROGRAM, IN A SANDBOX (cutbox-rows.mjs): the forced cells as the released guide's own fill.sh prints them over the translation 627e90eb527daf01… (all of the seat's roots in one cut). By AI agents, Wed Nov 11 2026. No macro, syntax, notation, axiom, sorry.
-/
import Derived.Test.YtbbpmcignfhfmaaChecked
import GoSem.Claim
import GoSem.ClaimJoined
import GoSem.ClaimMapViews
import Derived.JoinedTies
import Derived.KernelRfl
namespace Go.Proofs.Ytbbpmcignfhfmaa
/- THE CELL 'sum', in the pinned program and in every row, IS THE sha256 OF THE DUMP (.gsa) THAT YtbbpmcignfhfmaaProg.lean LOADS. Nothing in Lean hashes anything: it is a label: what it is worth is what the hold of that sum in a sandbox is worth. -/
noncomputable def Try.pinned : Pinned := { name := "ytbbpmcignfhfmaa", sum := "627e90eb527daf01a99be5baf07ccc11aba3a75b8047865f2de02116cd6377f3", checked := Try.checked }
namespace Rows
def none {H : Type} : Left H := { results := [], args := [] }

/-- 'laws.FnExactLoads': WHATEVER THE INPUT: true; the input reads as it did. -/
def fnExactLoadsSpec : ChangeSpec := { name := "fnExactLoads", fn := fun _ => fun
  | [d] => { results := [.lit (.bool true)], args := [d] }
  | _ => none }
def fnExactLoadsRow : OpenClaim := { program := "ytbbpmcignfhfmaa", sum := "627e90eb527daf01a99be5baf07ccc11aba3a75b8047865f2de02116cd6377f3", func := "loop.example/g00385/laws.FnExactLoads", spec := "fnExactLoads", apart := false }
def FnExactLoadsSaid : Prop := fnExactLoadsRow.holds Try.pinned (OpenSpec.ofChange fnExactLoadsSpec)

/-- ITS FALSE NEIGHBOUR: 'it returns false'. Refute it at one input. -/
def fnExactLoadsWrong : ChangeSpec := { name := "fnExactLoads", fn := fun _ => fun
  | [d] => { results := [.lit (.bool false)], args := [d] }
  | _ => none }
def FnExactLoadsWrongFalsely : Prop := fnExactLoadsRow.holds Try.pinned (OpenSpec.ofChange fnExactLoadsWrong)

/-- 'laws.FnExactStores': WHATEVER THE INPUT: true; the input reads as it did. -/
def fnExactStoresSpec : ChangeSpec := { name := "fnExactStores", fn := fun _ => fun
  | [d] => { results := [.lit (.bool true)], args := [d] }
  | _ => none }
def fnExactStoresRow : OpenClaim := { program := "ytbbpmcignfhfmaa", sum := "627e90eb527daf01a99be5baf07ccc11aba3a75b8047865f2de02116cd6377f3", func := "loop.example/g00385/laws.FnExactStores", spec := "fnExactStores", apart := false }
def FnExactStoresSaid : Prop := fnExactStoresRow.holds Try.pinned (OpenSpec.ofChange fnExactStoresSpec)

/-- ITS FALSE NEIGHBOUR: 'it returns false'. Refute it at one input. -/
def fnExactStoresWrong : ChangeSpec := { name := "fnExactStores", fn := fun _ => fun
  | [d] => { results := [.lit (.bool false)], args := [d] }
  | _ => none }
def FnExactStoresWrongFalsely : Prop := fnExactStoresRow.holds Try.pinned (OpenSpec.ofChange fnExactStoresWrong)

/-- 'laws.FnExactSameGraph': WHATEVER THE INPUT: true; the input reads as it did. -/
def fnExactSameGraphSpec : ChangeSpec := { name := "fnExactSameGraph", fn := fun _ => fun
  | [d1, d2] => { results := [.lit (.bool true)], args := [d1, d2] }
  | _ => none }
def fnExactSameGraphRow : OpenClaim := { program := "ytbbpmcignfhfmaa", sum := "627e90eb527daf01a99be5baf07ccc11aba3a75b8047865f2de02116cd6377f3", func := "loop.example/g00385/laws.FnExactSameGraph", spec := "fnExactSameGraph", unfollowed := true, recurses := true, apart := false }
def FnExactSameGraphSaid : Prop := fnExactSameGraphRow.holds Try.pinned (OpenSpec.ofChange fnExactSameGraphSpec)

/-- ITS FALSE NEIGHBOUR: 'it returns false'. Refute it at one input. -/
def fnExactSameGraphWrong : ChangeSpec := { name := "fnExactSameGraph", fn := fun _ => fun
  | [d1, d2] => { results := [.lit (.bool false)], args := [d1, d2] }
  | _ => none }
def FnExactSameGraphWrongFalsely : Prop := fnExactSameGraphRow.holds Try.pinned (OpenSpec.ofChange fnExactSameGraphWrong)

/-- 'laws.FnExactInstrOk': WHATEVER THE INPUT: true; the input reads as it did. -/
def fnExactInstrOkSpec : ChangeSpec := { name := "fnExactInstrOk", fn := fun _ => fun
  | [d1, d2] => { results := [.lit (.bool true)], args := [d1, d2] }
  | _ => none }
def fnExactInstrOkRow : OpenClaim := { program := "ytbbpmcignfhfmaa", sum := "627e90eb527daf01a99be5baf07ccc11aba3a75b8047865f2de02116cd6377f3", func := "loop.example/g00385/laws.FnExactInstrOk", spec := "fnExactInstrOk", unfollowed := true, recurses := true, apart := false }
def FnExactInstrOkSaid : Prop := fnExactInstrOkRow.holds Try.pinned (OpenSpec.ofChange fnExactInstrOkSpec)

/-- ITS FALSE NEIGHBOUR: 'it returns false'. Refute it at one input. -/
def fnExactInstrOkWrong : ChangeSpec := { name := "fnExactInstrOk", fn := fun _ => fun
  | [d1, d2] => { results := [.lit (.bool false)], args := [d1, d2] }
  | _ => none }
def FnExactInstrOkWrongFalsely : Prop := fnExactInstrOkRow.holds Try.pinned (OpenSpec.ofChange fnExactInstrOkWrong)

/-- 'laws.FnExactBlockOk': WHATEVER THE INPUT: true; the input reads as it did. -/
def fnExactBlockOkSpec : ChangeSpec := { name := "fnExactBlockOk", fn := fun _ => fun
  | [d1, d2] => { results := [.lit (.bool true)], args := [d1, d2] }
  | _ => none }
def fnExactBlockOkRow : OpenClaim := { program := "ytbbpmcignfhfmaa", sum := "627e90eb527daf01a99be5baf07ccc11aba3a75b8047865f2de02116cd6377f3", func := "loop.example/g00385/laws.FnExactBlockOk", spec := "fnExactBlockOk", unfollowed := true, recurses := true, apart := false }
def FnExactBlockOkSaid : Prop := fnExactBlockOkRow.holds Try.pinned (OpenSpec.ofChange fnExactBlockOkSpec)

/-- ITS FALSE NEIGHBOUR: 'it returns false'. Refute it at one input. -/
def fnExactBlockOkWrong : ChangeSpec := { name := "fnExactBlockOk", fn := fun _ => fun
  | [d1, d2] => { results := [.lit (.bool false)], args := [d1, d2] }
  | _ => none }
def FnExactBlockOkWrongFalsely : Prop := fnExactBlockOkRow.holds Try.pinned (OpenSpec.ofChange fnExactBlockOkWrong)

/-- 'laws.FnExactGraphOk': WHATEVER THE INPUT: true; the input reads as it did. -/
def fnExactGraphOkSpec : ChangeSpec := { name := "fnExactGraphOk", fn := fun _ => fun
  | [d] => { results := [.lit (.bool true)], args := [d] }
  | _ => none }
def fnExactGraphOkRow : OpenClaim := { program := "ytbbpmcignfhfmaa", sum := "627e90eb527daf01a99be5baf07ccc11aba3a75b8047865f2de02116cd6377f3", func := "loop.example/g00385/laws.FnExactGraphOk", spec := "fnExactGraphOk", unfollowed := true, recurses := true, apart := false }
def FnExactGraphOkSaid : Prop := fnExactGraphOkRow.holds Try.pinned (OpenSpec.ofChange fnExactGraphOkSpec)

/-- ITS FALSE NEIGHBOUR: 'it returns false'. Refute it at one input. -/
def fnExactGraphOkWrong : ChangeSpec := { name := "fnExactGraphOk", fn := fun _ => fun
  | [d] => { results := [.lit (.bool false)], args := [d] }
  | _ => none }
def FnExactGraphOkWrongFalsely : Prop := fnExactGraphOkRow.holds Try.pinned (OpenSpec.ofChange fnExactGraphOkWrong)

/-- 'laws.FnExactMaxSlot': WHATEVER THE INPUT: true; the input reads as it did. -/
def fnExactMaxSlotSpec : ChangeSpec := { name := "fnExactMaxSlot", fn := fun _ => fun
  | [d] => { results := [.lit (.bool true)], args := [d] }
  | _ => none }
def fnExactMaxSlotRow : OpenClaim := { program := "ytbbpmcignfhfmaa", sum := "627e90eb527daf01a99be5baf07ccc11aba3a75b8047865f2de02116cd6377f3", func := "loop.example/g00385/laws.FnExactMaxSlot", spec := "fnExactMaxSlot", unfollowed := true, recurses := true, apart := false }
def FnExactMaxSlotSaid : Prop := fnExactMaxSlotRow.holds Try.pinned (OpenSpec.ofChange fnExactMaxSlotSpec)

/-- ITS FALSE NEIGHBOUR: 'it returns false'. Refute it at one input. -/
def fnExactMaxSlotWrong : ChangeSpec := { name := "fnExactMaxSlot", fn := fun _ => fun
  | [d] => { results := [.lit (.bool false)], args := [d] }
  | _ => none }
def FnExactMaxSlotWrongFalsely : Prop := fnExactMaxSlotRow.holds Try.pinned (OpenSpec.ofChange fnExactMaxSlotWrong)

/-- 'laws.FnExactAhead': WHATEVER THE INPUT: true; the input reads as it did. -/
def fnExactAheadSpec : ChangeSpec := { name := "fnExactAhead", fn := fun _ => fun
  | [d1, d2] => { results := [.lit (.bool true)], args := [d1, d2] }
  | _ => none }
def fnExactAheadRow : OpenClaim := { program := "ytbbpmcignfhfmaa", sum := "627e90eb527daf01a99be5baf07ccc11aba3a75b8047865f2de02116cd6377f3", func := "loop.example/g00385/laws.FnExactAhead", spec := "fnExactAhead", unfollowed := true, recurses := true, apart := false }
def FnExactAheadSaid : Prop := fnExactAheadRow.holds Try.pinned (OpenSpec.ofChange fnExactAheadSpec)

/-- ITS FALSE NEIGHBOUR: 'it returns false'. Refute it at one input. -/
def fnExactAheadWrong : ChangeSpec := { name := "fnExactAhead", fn := fun _ => fun
  | [d1, d2] => { results := [.lit (.bool false)], args := [d1, d2] }
  | _ => none }
def FnExactAheadWrongFalsely : Prop := fnExactAheadRow.holds Try.pinned (OpenSpec.ofChange fnExactAheadWrong)

/-- 'laws.FnExactOrder': WHATEVER THE INPUT: true; the input reads as it did. -/
def fnExactOrderSpec : ChangeSpec := { name := "fnExactOrder", fn := fun _ => fun
  | [d] => { results := [.lit (.bool true)], args := [d] }
  | _ => none }
def fnExactOrderRow : OpenClaim := { program := "ytbbpmcignfhfmaa", sum := "627e90eb527daf01a99be5baf07ccc11aba3a75b8047865f2de02116cd6377f3", func := "loop.example/g00385/laws.FnExactOrder", spec := "fnExactOrder", unfollowed := true, recurses := true, apart := false }
def FnExactOrderSaid : Prop := fnExactOrderRow.holds Try.pinned (OpenSpec.ofChange fnExactOrderSpec)

/-- ITS FALSE NEIGHBOUR: 'it returns false'. Refute it at one input. -/
def fnExactOrderWrong : ChangeSpec := { name := "fnExactOrder", fn := fun _ => fun
  | [d] => { results := [.lit (.bool false)], args := [d] }
  | _ => none }
def FnExactOrderWrongFalsely : Prop := fnExactOrderRow.holds Try.pinned (OpenSpec.ofChange fnExactOrderWrong)

/-- 'laws.FnExactBlocks': WHATEVER THE INPUT: true; the input reads as it did. -/
def fnExactBlocksSpec : ChangeSpec := { name := "fnExactBlocks", fn := fun _ => fun
  | [d] => { results := [.lit (.bool true)], args := [d] }
  | _ => none }
def fnExactBlocksRow : OpenClaim := { program := "ytbbpmcignfhfmaa", sum := "627e90eb527daf01a99be5baf07ccc11aba3a75b8047865f2de02116cd6377f3", func := "loop.example/g00385/laws.FnExactBlocks", spec := "fnExactBlocks", unfollowed := true, recurses := true, apart := false }
def FnExactBlocksSaid : Prop := fnExactBlocksRow.holds Try.pinned (OpenSpec.ofChange fnExactBlocksSpec)

/-- ITS FALSE NEIGHBOUR: 'it returns false'. Refute it at one input. -/
def fnExactBlocksWrong : ChangeSpec := { name := "fnExactBlocks", fn := fun _ => fun
  | [d] => { results := [.lit (.bool false)], args := [d] }
  | _ => none }
def FnExactBlocksWrongFalsely : Prop := fnExactBlocksRow.holds Try.pinned (OpenSpec.ofChange fnExactBlocksWrong)

/-- 'laws.FnExactTrim': WHATEVER THE INPUT: true; the input reads as it did. -/
def fnExactTrimSpec : ChangeSpec := { name := "fnExactTrim", fn := fun _ => fun
  | [d] => { results := [.lit (.bool true)], args := [d] }
  | _ => none }
def fnExactTrimRow : OpenClaim := { program := "ytbbpmcignfhfmaa", sum := "627e90eb527daf01a99be5baf07ccc11aba3a75b8047865f2de02116cd6377f3", func := "loop.example/g00385/laws.FnExactTrim", spec := "fnExactTrim", unfollowed := true, recurses := true, apart := false }
def FnExactTrimSaid : Prop := fnExactTrimRow.holds Try.pinned (OpenSpec.ofChange fnExactTrimSpec)

/-- ITS FALSE NEIGHBOUR: 'it returns false'. Refute it at one input. -/
def fnExactTrimWrong : ChangeSpec := { name := "fnExactTrim", fn := fun _ => fun
  | [d] => { results := [.lit (.bool false)], args := [d] }
  | _ => none }
def FnExactTrimWrongFalsely : Prop := fnExactTrimRow.holds Try.pinned (OpenSpec.ofChange fnExactTrimWrong)

/-- 'laws.FnExactLive': WHATEVER THE INPUT: true; the input reads as it did. -/
def fnExactLiveSpec : ChangeSpec := { name := "fnExactLive", fn := fun _ => fun
  | [d] => { results := [.lit (.bool true)], args := [d] }
  | _ => none }
def fnExactLiveRow : OpenClaim := { program := "ytbbpmcignfhfmaa", sum := "627e90eb527daf01a99be5baf07ccc11aba3a75b8047865f2de02116cd6377f3", func := "loop.example/g00385/laws.FnExactLive", spec := "fnExactLive", unfollowed := true, recurses := true, apart := false }
def FnExactLiveSaid : Prop := fnExactLiveRow.holds Try.pinned (OpenSpec.ofChange fnExactLiveSpec)

/-- ITS FALSE NEIGHBOUR: 'it returns false'. Refute it at one input. -/
def fnExactLiveWrong : ChangeSpec := { name := "fnExactLive", fn := fun _ => fun
  | [d] => { results := [.lit (.bool false)], args := [d] }
  | _ => none }
def FnExactLiveWrongFalsely : Prop := fnExactLiveRow.holds Try.pinned (OpenSpec.ofChange fnExactLiveWrong)

/-- 'laws.FnExactClean': WHATEVER THE INPUT: true; the input reads as it did. -/
def fnExactCleanSpec : ChangeSpec := { name := "fnExactClean", fn := fun _ => fun
  | [d] => { results := [.lit (.bool true)], args := [d] }
  | _ => none }
def fnExactCleanRow : OpenClaim := { program := "ytbbpmcignfhfmaa", sum := "627e90eb527daf01a99be5baf07ccc11aba3a75b8047865f2de02116cd6377f3", func := "loop.example/g00385/laws.FnExactClean", spec := "fnExactClean", unfollowed := true, recurses := true, apart := false }
def FnExactCleanSaid : Prop := fnExactCleanRow.holds Try.pinned (OpenSpec.ofChange fnExactCleanSpec)

/-- ITS FALSE NEIGHBOUR: 'it returns false'. Refute it at one input. -/
def fnExactCleanWrong : ChangeSpec := { name := "fnExactClean", fn := fun _ => fun
  | [d] => { results := [.lit (.bool false)], args := [d] }
  | _ => none }
def FnExactCleanWrongFalsely : Prop := fnExactCleanRow.holds Try.pinned (OpenSpec.ofChange fnExactCleanWrong)

/- THE SECOND FORM. 'bulk': how many values and letters a reading holds, each counted each time it is reached (what is shared counts as often as it is met; a slice's spare places count too). A statement '..UptoSaid' is the law's where the arguments, and the package variables that the reading takes, are together of bulk at most 1048576: NARROWER than '..Said'. Prove '..Said' where nothing that the law and all that it calls make is longer than what came in: it says more and counts as full. Else prove '..UptoSaid'. A law counts once. -/
mutual
def uptoBulk {H : Type} : DataW H → Nat
  | .lit (.string bytes) => bytes.length + 1
  | .lit _ => 1
  | .nil => 1
  | .ptr d => uptoBulk d + 1
  | .slice elems spare => uptoBulkAll elems + uptoBulkAll spare + 1
  | .agg parts => uptoBulkAll parts + 1
  | .iface _ d => uptoBulk d + 1
  | .map entries => uptoBulkEntries entries + 1
  | .held _ => 1
def uptoBulkAll {H : Type} : List (DataW H) → Nat
  | [] => 0
  | d :: r => uptoBulk d + uptoBulkAll r
def uptoBulkEntries {H : Type} : List (Lit × DataW H) → Nat
  | [] => 0
  | x :: r => uptoBulkEntry x + uptoBulkEntries r
def uptoBulkEntry {H : Type} : Lit × DataW H → Nat
  | (.string bytes, d) => bytes.length + uptoBulk d + 1
  | (_, d) => uptoBulk d + 1
 end
def uptoSmall : (H : Type) → List (DataW H) → Bool := fun _ ds => decide (uptoBulkAll ds ≤ 1048576)
def OpenSpec.upto (s : _root_.Go.ChangeSpec) : _root_.Go.OpenSpec := { _root_.Go.OpenSpec.ofChange s with cond := some uptoSmall }

/-- 'laws.FnExactLoads', WHERE WHAT IT READS IS OF BULK AT MOST 1048576: true; the input reads as it did. -/
def fnExactLoadsUptoRow : OpenClaim := { program := "ytbbpmcignfhfmaa", sum := "627e90eb527daf01a99be5baf07ccc11aba3a75b8047865f2de02116cd6377f3", func := "loop.example/g00385/laws.FnExactLoads", spec := "fnExactLoads", apart := false, narrowed := true }
def FnExactLoadsUptoSaid : Prop := fnExactLoadsUptoRow.holds Try.pinned (OpenSpec.upto fnExactLoadsSpec)

/-- 'laws.FnExactStores', WHERE WHAT IT READS IS OF BULK AT MOST 1048576: true; the input reads as it did. -/
def fnExactStoresUptoRow : OpenClaim := { program := "ytbbpmcignfhfmaa", sum := "627e90eb527daf01a99be5baf07ccc11aba3a75b8047865f2de02116cd6377f3", func := "loop.example/g00385/laws.FnExactStores", spec := "fnExactStores", apart := false, narrowed := true }
def FnExactStoresUptoSaid : Prop := fnExactStoresUptoRow.holds Try.pinned (OpenSpec.upto fnExactStoresSpec)

/-- 'laws.FnExactSameGraph', WHERE WHAT IT READS IS OF BULK AT MOST 1048576: true; the input reads as it did. -/
def fnExactSameGraphUptoRow : OpenClaim := { program := "ytbbpmcignfhfmaa", sum := "627e90eb527daf01a99be5baf07ccc11aba3a75b8047865f2de02116cd6377f3", func := "loop.example/g00385/laws.FnExactSameGraph", spec := "fnExactSameGraph", unfollowed := true, recurses := true, apart := false, narrowed := true }
def FnExactSameGraphUptoSaid : Prop := fnExactSameGraphUptoRow.holds Try.pinned (OpenSpec.upto fnExactSameGraphSpec)

/-- 'laws.FnExactInstrOk', WHERE WHAT IT READS IS OF BULK AT MOST 1048576: true; the input reads as it did. -/
def fnExactInstrOkUptoRow : OpenClaim := { program := "ytbbpmcignfhfmaa", sum := "627e90eb527daf01a99be5baf07ccc11aba3a75b8047865f2de02116cd6377f3", func := "loop.example/g00385/laws.FnExactInstrOk", spec := "fnExactInstrOk", unfollowed := true, recurses := true, apart := false, narrowed := true }
def FnExactInstrOkUptoSaid : Prop := fnExactInstrOkUptoRow.holds Try.pinned (OpenSpec.upto fnExactInstrOkSpec)

/-- 'laws.FnExactBlockOk', WHERE WHAT IT READS IS OF BULK AT MOST 1048576: true; the input reads as it did. -/
def fnExactBlockOkUptoRow : OpenClaim := { program := "ytbbpmcignfhfmaa", sum := "627e90eb527daf01a99be5baf07ccc11aba3a75b8047865f2de02116cd6377f3", func := "loop.example/g00385/laws.FnExactBlockOk", spec := "fnExactBlockOk", unfollowed := true, recurses := true, apart := false, narrowed := true }
def FnExactBlockOkUptoSaid : Prop := fnExactBlockOkUptoRow.holds Try.pinned (OpenSpec.upto fnExactBlockOkSpec)

/-- 'laws.FnExactGraphOk', WHERE WHAT IT READS IS OF BULK AT MOST 1048576: true; the input reads as it did. -/
def fnExactGraphOkUptoRow : OpenClaim := { program := "ytbbpmcignfhfmaa", sum := "627e90eb527daf01a99be5baf07ccc11aba3a75b8047865f2de02116cd6377f3", func := "loop.example/g00385/laws.FnExactGraphOk", spec := "fnExactGraphOk", unfollowed := true, recurses := true, apart := false, narrowed := true }
def FnExactGraphOkUptoSaid : Prop := fnExactGraphOkUptoRow.holds Try.pinned (OpenSpec.upto fnExactGraphOkSpec)

/-- 'laws.FnExactMaxSlot', WHERE WHAT IT READS IS OF BULK AT MOST 1048576: true; the input reads as it did. -/
def fnExactMaxSlotUptoRow : OpenClaim := { program := "ytbbpmcignfhfmaa", sum := "627e90eb527daf01a99be5baf07ccc11aba3a75b8047865f2de02116cd6377f3", func := "loop.example/g00385/laws.FnExactMaxSlot", spec := "fnExactMaxSlot", unfollowed := true, recurses := true, apart := false, narrowed := true }
def FnExactMaxSlotUptoSaid : Prop := fnExactMaxSlotUptoRow.holds Try.pinned (OpenSpec.upto fnExactMaxSlotSpec)

/-- 'laws.FnExactAhead', WHERE WHAT IT READS IS OF BULK AT MOST 1048576: true; the input reads as it did. -/
def fnExactAheadUptoRow : OpenClaim := { program := "ytbbpmcignfhfmaa", sum := "627e90eb527daf01a99be5baf07ccc11aba3a75b8047865f2de02116cd6377f3", func := "loop.example/g00385/laws.FnExactAhead", spec := "fnExactAhead", unfollowed := true, recurses := true, apart := false, narrowed := true }
def FnExactAheadUptoSaid : Prop := fnExactAheadUptoRow.holds Try.pinned (OpenSpec.upto fnExactAheadSpec)

/-- 'laws.FnExactOrder', WHERE WHAT IT READS IS OF BULK AT MOST 1048576: true; the input reads as it did. -/
def fnExactOrderUptoRow : OpenClaim := { program := "ytbbpmcignfhfmaa", sum := "627e90eb527daf01a99be5baf07ccc11aba3a75b8047865f2de02116cd6377f3", func := "loop.example/g00385/laws.FnExactOrder", spec := "fnExactOrder", unfollowed := true, recurses := true, apart := false, narrowed := true }
def FnExactOrderUptoSaid : Prop := fnExactOrderUptoRow.holds Try.pinned (OpenSpec.upto fnExactOrderSpec)

/-- 'laws.FnExactBlocks', WHERE WHAT IT READS IS OF BULK AT MOST 1048576: true; the input reads as it did. -/
def fnExactBlocksUptoRow : OpenClaim := { program := "ytbbpmcignfhfmaa", sum := "627e90eb527daf01a99be5baf07ccc11aba3a75b8047865f2de02116cd6377f3", func := "loop.example/g00385/laws.FnExactBlocks", spec := "fnExactBlocks", unfollowed := true, recurses := true, apart := false, narrowed := true }
def FnExactBlocksUptoSaid : Prop := fnExactBlocksUptoRow.holds Try.pinned (OpenSpec.upto fnExactBlocksSpec)

/-- 'laws.FnExactTrim', WHERE WHAT IT READS IS OF BULK AT MOST 1048576: true; the input reads as it did. -/
def fnExactTrimUptoRow : OpenClaim := { program := "ytbbpmcignfhfmaa", sum := "627e90eb527daf01a99be5baf07ccc11aba3a75b8047865f2de02116cd6377f3", func := "loop.example/g00385/laws.FnExactTrim", spec := "fnExactTrim", unfollowed := true, recurses := true, apart := false, narrowed := true }
def FnExactTrimUptoSaid : Prop := fnExactTrimUptoRow.holds Try.pinned (OpenSpec.upto fnExactTrimSpec)

/-- 'laws.FnExactLive', WHERE WHAT IT READS IS OF BULK AT MOST 1048576: true; the input reads as it did. -/
def fnExactLiveUptoRow : OpenClaim := { program := "ytbbpmcignfhfmaa", sum := "627e90eb527daf01a99be5baf07ccc11aba3a75b8047865f2de02116cd6377f3", func := "loop.example/g00385/laws.FnExactLive", spec := "fnExactLive", unfollowed := true, recurses := true, apart := false, narrowed := true }
def FnExactLiveUptoSaid : Prop := fnExactLiveUptoRow.holds Try.pinned (OpenSpec.upto fnExactLiveSpec)

/-- 'laws.FnExactClean', WHERE WHAT IT READS IS OF BULK AT MOST 1048576: true; the input reads as it did. -/
def fnExactCleanUptoRow : OpenClaim := { program := "ytbbpmcignfhfmaa", sum := "627e90eb527daf01a99be5baf07ccc11aba3a75b8047865f2de02116cd6377f3", func := "loop.example/g00385/laws.FnExactClean", spec := "fnExactClean", unfollowed := true, recurses := true, apart := false, narrowed := true }
def FnExactCleanUptoSaid : Prop := fnExactCleanUptoRow.holds Try.pinned (OpenSpec.upto fnExactCleanSpec)

end Rows
end Go.Proofs.Ytbbpmcignfhfmaa
