/- Printed by a program over this seat's translation: a Lean function for each Go function, and that the Go code comes to its answers. -/
import Derived.Test.YtbihpjngmjkjmaaDoorProg
import Derived.Below
import Derived.Deep.Draws
import Derived.Deep.AppendLies
import Derived.Maps.AppendAt
import Derived.OwnWalk
import Derived.Laws.BytesArg
import Derived.Laws.MakeOwn
import Derived.Laws.OwnMore
import Derived.Deep.OwnRows
import Derived.Tactics
import Derived.Lib.ConvBytes
import Derived.Laws.Slices
import Derived.WalkKit
import Derived.KernelRfl
import Derived.RowKit3
import Derived.Deep.LoopGhost
import Derived.Deep.QuietTactic
import Derived.BigQuiet
import Derived.WideLaws
import Derived.Deep.DeepCutAuto
import Derived.Deep.CutBlock
import Derived.Deep.RegionHeld3
import Derived.Laws.Rows
import Derived.Lib.AppendStr
import Derived.ArgAppend
import Derived.Laws.IdiomCopy
import Derived.OrdersHeld
import Derived.Laws.BitsLemmas
import Derived.RowKit
import Derived.Test.YtbihpjngmjkjmaaDoorWWords
import Derived.Test.YtbihpjngmjkjmaaDoorWLast
import Derived.Test.YtbihpjngmjkjmaaDoorWTab
import Derived.Test.YtbihpjngmjkjmaaDoorWFour
import Derived.Test.YtbihpjngmjkjmaaDoorWQPut
import Derived.Test.YtbihpjngmjkjmaaDoorWApart
import Derived.Test.YtbihpjngmjkjmaaDoorWArr
import Derived.Test.YtbihpjngmjkjmaaDoorWZeros
import Derived.Test.YtbihpjngmjkjmaaDoorWFoot
import Derived.Test.YtbihpjngmjkjmaaDoorWKept
import Derived.Test.YtbihpjngmjkjmaaDoorWShare
import Derived.Test.YtbihpjngmjkjmaaDoorWN
import Derived.Test.YtbihpjngmjkjmaaDoorWFootNe
import Derived.Test.YtbihpjngmjkjmaaDoorWAt
import Derived.Test.YtbihpjngmjkjmaaDoorWEqStruct
import Derived.Test.YtbihpjngmjkjmaaDoorWRepsOne
import Derived.Test.YtbihpjngmjkjmaaDoorWInv
import Derived.Test.YtbihpjngmjkjmaaDoorWInvWords
import Derived.Test.YtbihpjngmjkjmaaDoorWGuard
import Derived.Test.YtbihpjngmjkjmaaDoorWNEv
import Derived.Test.YtbihpjngmjkjmaaDoorWMore
namespace Go.Proofs.YtbihpjngmjkjmaaDoor.P
open Go.RowKit Go.Proofs.YtbihpjngmjkjmaaDoorW.PrintWords Go.Proofs.YtbihpjngmjkjmaaDoorW.PrintLast Go.Proofs.YtbihpjngmjkjmaaDoorW.PrintMore
attribute [local go_sem] max2_int min2_int max_two min_two max_three min_three max_four min_four   -- for this text's walks alone
set_option linter.unusedVariables false
set_option linter.unusedSimpArgs false



def errW : Option Int → Value
  | none => .nilIface
  | some c => .iface 93 (.int .i64 c)
theorem errW_none : errW none = .nilIface := rfl
theorem errW_some (c : Int) : errW (some c) = .iface 93 (.int .i64 c) := rfl

theorem info3 : (Tryd.prog.info? 3).map (fun i => (i.zero, i.size, i.bytes)) = some (some (.int .i64 0), 1, 8) := by kernel_rfl
theorem info5 : (Tryd.prog.info? 5).map (fun i => (i.zero, i.size, i.bytes)) = some (some (.int .u8 0), 1, 1) := by kernel_rfl
theorem info9 : (Tryd.prog.info? 9).map (fun i => (i.zero, i.size, i.bytes)) = some (some (.string ⟨#[]⟩), 1, 16) := by kernel_rfl
theorem info56 : (Tryd.prog.info? 56).map (fun i => (i.zero, i.size, i.bytes)) = some (some (.agg #[(.int .i64 0), (.string ⟨#[]⟩), (.int .i64 0), (.int .i64 0)]), 4, 40) := by kernel_rfl
-- the values' own types
/-! #### struct type 56 -/
structure S56 where
  f0 : Int
  f1 : ByteArray
  f2 : Int
  f3 : Int
def z56 : S56 := ⟨(0 : Int), (⟨#[]⟩ : ByteArray), (0 : Int), (0 : Int)⟩
def k56 : Kd S56 := Kd.iso (Kd.pair (Kd.int .i64) (Kd.pair Kd.string (Kd.pair (Kd.int .i64) (Kd.int .i64)))) (fun x : S56 => (x.f0, x.f1, x.f2, x.f3))
theorem k56_open {w : World} {x : S56} {cs : List Value} (h : k56.K w x cs) : cs = [.int .i64 x.f0, .string x.f1, .int .i64 x.f2, .int .i64 x.f3] := by
  obtain ⟨_, _, rfl, rfl, ⟨_, _, rfl, rfl, ⟨_, _, rfl, rfl, rfl⟩⟩⟩ := h
  exact rfl
theorem k56_openM {w : World} {base : Nat} {ok : Nat → Prop} {x : S56} {cs : List Value} (h : k56.M w base ok x cs) : cs = [.int .i64 x.f0, .string x.f1, .int .i64 x.f2, .int .i64 x.f3] := by
  obtain ⟨_, _, rfl, rfl, ⟨_, _, rfl, rfl, ⟨_, _, rfl, rfl, rfl⟩⟩⟩ := h
  exact rfl
theorem k56_mk (w : World) (x : S56)  : k56.K w x [.int .i64 x.f0, .string x.f1, .int .i64 x.f2, .int .i64 x.f3] := ⟨[.int .i64 x.f0], [.string x.f1, .int .i64 x.f2, .int .i64 x.f3], rfl, rfl, ⟨[.string x.f1], [.int .i64 x.f2, .int .i64 x.f3], rfl, rfl, ⟨[.int .i64 x.f2], [.int .i64 x.f3], rfl, rfl, rfl⟩⟩⟩
theorem k56_mkM (w : World) (base : Nat) (ok : Nat → Prop) (x : S56)  : k56.M w base ok x [.int .i64 x.f0, .string x.f1, .int .i64 x.f2, .int .i64 x.f3] := ⟨[.int .i64 x.f0], [.string x.f1, .int .i64 x.f2, .int .i64 x.f3], rfl, rfl, ⟨[.string x.f1], [.int .i64 x.f2, .int .i64 x.f3], rfl, rfl, ⟨[.int .i64 x.f2], [.int .i64 x.f3], rfl, rfl, rfl⟩⟩⟩
def rd_T56 (xs : List S56) (i : Int) : S56 := xs.getD i.toNat z56
theorem at_T56 {w : World} {A : Option Addr} {n : Nat} {xs : List S56} (h : Kd.C k56 w A n xs) (i : Int) (h0 : 0 ≤ i) (h1 : i < n) : ∃ ad , A = some ad ∧ w.cell? (ad.add (i.toNat * 4)) = some (.int .i64 (rd_T56 xs i).f0) ∧ w.cell? ⟨(ad.add (i.toNat * 4)).block, (ad.add (i.toNat * 4)).off + 1, none⟩ = some (.string (rd_T56 xs i).f1) ∧ w.cell? ⟨(ad.add (i.toNat * 4)).block, (ad.add (i.toNat * 4)).off + 2, none⟩ = some (.int .i64 (rd_T56 xs i).f2) ∧ w.cell? ⟨(ad.add (i.toNat * 4)).block, (ad.add (i.toNat * 4)).off + 3, none⟩ = some (.int .i64 (rd_T56 xs i).f3) := by
  obtain ⟨ad, c, e, _, hK, hc0⟩ := Kd.C_get h z56 i h0 h1
  have hc : ∀ j u, c[j]? = some u → w.cell? (ad.add (i.toNat * 4 + j)) = some u := hc0
  obtain rfl := k56_open hK
  exact ⟨ad, e, hc 0 _ rfl, by rw [← add_field _ _ 1 (by omega)]; exact hc 1 _ rfl, by rw [← add_field _ _ 2 (by omega)]; exact hc 2 _ rfl, by rw [← add_field _ _ 3 (by omega)]; exact hc 3 _ rfl⟩

theorem bx1 {w : World} {g : Nat} {t : TypeId} {a0_ : Value} (h : w.heap[g]? = some (.cells #[a0_] t (0, 0))) : w.cell? ⟨g, 0, none⟩ = some a0_ ∧ w.frozen? ⟨g, 0, none⟩ = false :=
  ⟨(blk_cell h 0).trans rfl, blk_frozen h 0⟩
theorem bx2 {w : World} {g : Nat} {t : TypeId} {a0_ a1_ : Value} (h : w.heap[g]? = some (.cells #[a0_, a1_] t (0, 0))) : w.cell? ⟨g, 0, none⟩ = some a0_ ∧ w.cell? ⟨g, 1, none⟩ = some a1_ ∧ w.frozen? ⟨g, 0, none⟩ = false ∧ w.frozen? ⟨g, 1, none⟩ = false :=
  ⟨(blk_cell h 0).trans rfl, (blk_cell h 1).trans rfl, blk_frozen h 0, blk_frozen h 1⟩
theorem bx3 {w : World} {g : Nat} {t : TypeId} {a0_ a1_ a2_ : Value} (h : w.heap[g]? = some (.cells #[a0_, a1_, a2_] t (0, 0))) : w.cell? ⟨g, 0, none⟩ = some a0_ ∧ w.cell? ⟨g, 1, none⟩ = some a1_ ∧ w.cell? ⟨g, 2, none⟩ = some a2_ ∧ w.frozen? ⟨g, 0, none⟩ = false ∧ w.frozen? ⟨g, 1, none⟩ = false ∧ w.frozen? ⟨g, 2, none⟩ = false :=
  ⟨(blk_cell h 0).trans rfl, (blk_cell h 1).trans rfl, (blk_cell h 2).trans rfl, blk_frozen h 0, blk_frozen h 1, blk_frozen h 2⟩
theorem bx4 {w : World} {g : Nat} {t : TypeId} {a0_ a1_ a2_ a3_ : Value} (h : w.heap[g]? = some (.cells #[a0_, a1_, a2_, a3_] t (0, 0))) : w.cell? ⟨g, 0, none⟩ = some a0_ ∧ w.cell? ⟨g, 1, none⟩ = some a1_ ∧ w.cell? ⟨g, 2, none⟩ = some a2_ ∧ w.cell? ⟨g, 3, none⟩ = some a3_ ∧ w.frozen? ⟨g, 0, none⟩ = false ∧ w.frozen? ⟨g, 1, none⟩ = false ∧ w.frozen? ⟨g, 2, none⟩ = false ∧ w.frozen? ⟨g, 3, none⟩ = false :=
  ⟨(blk_cell h 0).trans rfl, (blk_cell h 1).trans rfl, (blk_cell h 2).trans rfl, (blk_cell h 3).trans rfl, blk_frozen h 0, blk_frozen h 1, blk_frozen h 2, blk_frozen h 3⟩
theorem bx5 {w : World} {g : Nat} {t : TypeId} {a0_ a1_ a2_ a3_ a4_ : Value} (h : w.heap[g]? = some (.cells #[a0_, a1_, a2_, a3_, a4_] t (0, 0))) : w.cell? ⟨g, 0, none⟩ = some a0_ ∧ w.cell? ⟨g, 1, none⟩ = some a1_ ∧ w.cell? ⟨g, 2, none⟩ = some a2_ ∧ w.cell? ⟨g, 3, none⟩ = some a3_ ∧ w.cell? ⟨g, 4, none⟩ = some a4_ ∧ w.frozen? ⟨g, 0, none⟩ = false ∧ w.frozen? ⟨g, 1, none⟩ = false ∧ w.frozen? ⟨g, 2, none⟩ = false ∧ w.frozen? ⟨g, 3, none⟩ = false ∧ w.frozen? ⟨g, 4, none⟩ = false :=
  ⟨(blk_cell h 0).trans rfl, (blk_cell h 1).trans rfl, (blk_cell h 2).trans rfl, (blk_cell h 3).trans rfl, (blk_cell h 4).trans rfl, blk_frozen h 0, blk_frozen h 1, blk_frozen h 2, blk_frozen h 3, blk_frozen h 4⟩
theorem bx6 {w : World} {g : Nat} {t : TypeId} {a0_ a1_ a2_ a3_ a4_ a5_ : Value} (h : w.heap[g]? = some (.cells #[a0_, a1_, a2_, a3_, a4_, a5_] t (0, 0))) : w.cell? ⟨g, 0, none⟩ = some a0_ ∧ w.cell? ⟨g, 1, none⟩ = some a1_ ∧ w.cell? ⟨g, 2, none⟩ = some a2_ ∧ w.cell? ⟨g, 3, none⟩ = some a3_ ∧ w.cell? ⟨g, 4, none⟩ = some a4_ ∧ w.cell? ⟨g, 5, none⟩ = some a5_ ∧ w.frozen? ⟨g, 0, none⟩ = false ∧ w.frozen? ⟨g, 1, none⟩ = false ∧ w.frozen? ⟨g, 2, none⟩ = false ∧ w.frozen? ⟨g, 3, none⟩ = false ∧ w.frozen? ⟨g, 4, none⟩ = false ∧ w.frozen? ⟨g, 5, none⟩ = false :=
  ⟨(blk_cell h 0).trans rfl, (blk_cell h 1).trans rfl, (blk_cell h 2).trans rfl, (blk_cell h 3).trans rfl, (blk_cell h 4).trans rfl, (blk_cell h 5).trans rfl, blk_frozen h 0, blk_frozen h 1, blk_frozen h 2, blk_frozen h 3, blk_frozen h 4, blk_frozen h 5⟩
theorem bx7 {w : World} {g : Nat} {t : TypeId} {a0_ a1_ a2_ a3_ a4_ a5_ a6_ : Value} (h : w.heap[g]? = some (.cells #[a0_, a1_, a2_, a3_, a4_, a5_, a6_] t (0, 0))) : w.cell? ⟨g, 0, none⟩ = some a0_ ∧ w.cell? ⟨g, 1, none⟩ = some a1_ ∧ w.cell? ⟨g, 2, none⟩ = some a2_ ∧ w.cell? ⟨g, 3, none⟩ = some a3_ ∧ w.cell? ⟨g, 4, none⟩ = some a4_ ∧ w.cell? ⟨g, 5, none⟩ = some a5_ ∧ w.cell? ⟨g, 6, none⟩ = some a6_ ∧ w.frozen? ⟨g, 0, none⟩ = false ∧ w.frozen? ⟨g, 1, none⟩ = false ∧ w.frozen? ⟨g, 2, none⟩ = false ∧ w.frozen? ⟨g, 3, none⟩ = false ∧ w.frozen? ⟨g, 4, none⟩ = false ∧ w.frozen? ⟨g, 5, none⟩ = false ∧ w.frozen? ⟨g, 6, none⟩ = false :=
  ⟨(blk_cell h 0).trans rfl, (blk_cell h 1).trans rfl, (blk_cell h 2).trans rfl, (blk_cell h 3).trans rfl, (blk_cell h 4).trans rfl, (blk_cell h 5).trans rfl, (blk_cell h 6).trans rfl, blk_frozen h 0, blk_frozen h 1, blk_frozen h 2, blk_frozen h 3, blk_frozen h 4, blk_frozen h 5, blk_frozen h 6⟩
theorem bx8 {w : World} {g : Nat} {t : TypeId} {a0_ a1_ a2_ a3_ a4_ a5_ a6_ a7_ : Value} (h : w.heap[g]? = some (.cells #[a0_, a1_, a2_, a3_, a4_, a5_, a6_, a7_] t (0, 0))) : w.cell? ⟨g, 0, none⟩ = some a0_ ∧ w.cell? ⟨g, 1, none⟩ = some a1_ ∧ w.cell? ⟨g, 2, none⟩ = some a2_ ∧ w.cell? ⟨g, 3, none⟩ = some a3_ ∧ w.cell? ⟨g, 4, none⟩ = some a4_ ∧ w.cell? ⟨g, 5, none⟩ = some a5_ ∧ w.cell? ⟨g, 6, none⟩ = some a6_ ∧ w.cell? ⟨g, 7, none⟩ = some a7_ ∧ w.frozen? ⟨g, 0, none⟩ = false ∧ w.frozen? ⟨g, 1, none⟩ = false ∧ w.frozen? ⟨g, 2, none⟩ = false ∧ w.frozen? ⟨g, 3, none⟩ = false ∧ w.frozen? ⟨g, 4, none⟩ = false ∧ w.frozen? ⟨g, 5, none⟩ = false ∧ w.frozen? ⟨g, 6, none⟩ = false ∧ w.frozen? ⟨g, 7, none⟩ = false :=
  ⟨(blk_cell h 0).trans rfl, (blk_cell h 1).trans rfl, (blk_cell h 2).trans rfl, (blk_cell h 3).trans rfl, (blk_cell h 4).trans rfl, (blk_cell h 5).trans rfl, (blk_cell h 6).trans rfl, (blk_cell h 7).trans rfl, blk_frozen h 0, blk_frozen h 1, blk_frozen h 2, blk_frozen h 3, blk_frozen h 4, blk_frozen h 5, blk_frozen h 6, blk_frozen h 7⟩
theorem bx9 {w : World} {g : Nat} {t : TypeId} {a0_ a1_ a2_ a3_ a4_ a5_ a6_ a7_ a8_ : Value} (h : w.heap[g]? = some (.cells #[a0_, a1_, a2_, a3_, a4_, a5_, a6_, a7_, a8_] t (0, 0))) : w.cell? ⟨g, 0, none⟩ = some a0_ ∧ w.cell? ⟨g, 1, none⟩ = some a1_ ∧ w.cell? ⟨g, 2, none⟩ = some a2_ ∧ w.cell? ⟨g, 3, none⟩ = some a3_ ∧ w.cell? ⟨g, 4, none⟩ = some a4_ ∧ w.cell? ⟨g, 5, none⟩ = some a5_ ∧ w.cell? ⟨g, 6, none⟩ = some a6_ ∧ w.cell? ⟨g, 7, none⟩ = some a7_ ∧ w.cell? ⟨g, 8, none⟩ = some a8_ ∧ w.frozen? ⟨g, 0, none⟩ = false ∧ w.frozen? ⟨g, 1, none⟩ = false ∧ w.frozen? ⟨g, 2, none⟩ = false ∧ w.frozen? ⟨g, 3, none⟩ = false ∧ w.frozen? ⟨g, 4, none⟩ = false ∧ w.frozen? ⟨g, 5, none⟩ = false ∧ w.frozen? ⟨g, 6, none⟩ = false ∧ w.frozen? ⟨g, 7, none⟩ = false ∧ w.frozen? ⟨g, 8, none⟩ = false :=
  ⟨(blk_cell h 0).trans rfl, (blk_cell h 1).trans rfl, (blk_cell h 2).trans rfl, (blk_cell h 3).trans rfl, (blk_cell h 4).trans rfl, (blk_cell h 5).trans rfl, (blk_cell h 6).trans rfl, (blk_cell h 7).trans rfl, (blk_cell h 8).trans rfl, blk_frozen h 0, blk_frozen h 1, blk_frozen h 2, blk_frozen h 3, blk_frozen h 4, blk_frozen h 5, blk_frozen h 6, blk_frozen h 7, blk_frozen h 8⟩
theorem bx10 {w : World} {g : Nat} {t : TypeId} {a0_ a1_ a2_ a3_ a4_ a5_ a6_ a7_ a8_ a9_ : Value} (h : w.heap[g]? = some (.cells #[a0_, a1_, a2_, a3_, a4_, a5_, a6_, a7_, a8_, a9_] t (0, 0))) : w.cell? ⟨g, 0, none⟩ = some a0_ ∧ w.cell? ⟨g, 1, none⟩ = some a1_ ∧ w.cell? ⟨g, 2, none⟩ = some a2_ ∧ w.cell? ⟨g, 3, none⟩ = some a3_ ∧ w.cell? ⟨g, 4, none⟩ = some a4_ ∧ w.cell? ⟨g, 5, none⟩ = some a5_ ∧ w.cell? ⟨g, 6, none⟩ = some a6_ ∧ w.cell? ⟨g, 7, none⟩ = some a7_ ∧ w.cell? ⟨g, 8, none⟩ = some a8_ ∧ w.cell? ⟨g, 9, none⟩ = some a9_ ∧ w.frozen? ⟨g, 0, none⟩ = false ∧ w.frozen? ⟨g, 1, none⟩ = false ∧ w.frozen? ⟨g, 2, none⟩ = false ∧ w.frozen? ⟨g, 3, none⟩ = false ∧ w.frozen? ⟨g, 4, none⟩ = false ∧ w.frozen? ⟨g, 5, none⟩ = false ∧ w.frozen? ⟨g, 6, none⟩ = false ∧ w.frozen? ⟨g, 7, none⟩ = false ∧ w.frozen? ⟨g, 8, none⟩ = false ∧ w.frozen? ⟨g, 9, none⟩ = false :=
  ⟨(blk_cell h 0).trans rfl, (blk_cell h 1).trans rfl, (blk_cell h 2).trans rfl, (blk_cell h 3).trans rfl, (blk_cell h 4).trans rfl, (blk_cell h 5).trans rfl, (blk_cell h 6).trans rfl, (blk_cell h 7).trans rfl, (blk_cell h 8).trans rfl, (blk_cell h 9).trans rfl, blk_frozen h 0, blk_frozen h 1, blk_frozen h 2, blk_frozen h 3, blk_frozen h 4, blk_frozen h 5, blk_frozen h 6, blk_frozen h 7, blk_frozen h 8, blk_frozen h 9⟩
theorem bx11 {w : World} {g : Nat} {t : TypeId} {a0_ a1_ a2_ a3_ a4_ a5_ a6_ a7_ a8_ a9_ a10_ : Value} (h : w.heap[g]? = some (.cells #[a0_, a1_, a2_, a3_, a4_, a5_, a6_, a7_, a8_, a9_, a10_] t (0, 0))) : w.cell? ⟨g, 0, none⟩ = some a0_ ∧ w.cell? ⟨g, 1, none⟩ = some a1_ ∧ w.cell? ⟨g, 2, none⟩ = some a2_ ∧ w.cell? ⟨g, 3, none⟩ = some a3_ ∧ w.cell? ⟨g, 4, none⟩ = some a4_ ∧ w.cell? ⟨g, 5, none⟩ = some a5_ ∧ w.cell? ⟨g, 6, none⟩ = some a6_ ∧ w.cell? ⟨g, 7, none⟩ = some a7_ ∧ w.cell? ⟨g, 8, none⟩ = some a8_ ∧ w.cell? ⟨g, 9, none⟩ = some a9_ ∧ w.cell? ⟨g, 10, none⟩ = some a10_ ∧ w.frozen? ⟨g, 0, none⟩ = false ∧ w.frozen? ⟨g, 1, none⟩ = false ∧ w.frozen? ⟨g, 2, none⟩ = false ∧ w.frozen? ⟨g, 3, none⟩ = false ∧ w.frozen? ⟨g, 4, none⟩ = false ∧ w.frozen? ⟨g, 5, none⟩ = false ∧ w.frozen? ⟨g, 6, none⟩ = false ∧ w.frozen? ⟨g, 7, none⟩ = false ∧ w.frozen? ⟨g, 8, none⟩ = false ∧ w.frozen? ⟨g, 9, none⟩ = false ∧ w.frozen? ⟨g, 10, none⟩ = false :=
  ⟨(blk_cell h 0).trans rfl, (blk_cell h 1).trans rfl, (blk_cell h 2).trans rfl, (blk_cell h 3).trans rfl, (blk_cell h 4).trans rfl, (blk_cell h 5).trans rfl, (blk_cell h 6).trans rfl, (blk_cell h 7).trans rfl, (blk_cell h 8).trans rfl, (blk_cell h 9).trans rfl, (blk_cell h 10).trans rfl, blk_frozen h 0, blk_frozen h 1, blk_frozen h 2, blk_frozen h 3, blk_frozen h 4, blk_frozen h 5, blk_frozen h 6, blk_frozen h 7, blk_frozen h 8, blk_frozen h 9, blk_frozen h 10⟩
theorem bx12 {w : World} {g : Nat} {t : TypeId} {a0_ a1_ a2_ a3_ a4_ a5_ a6_ a7_ a8_ a9_ a10_ a11_ : Value} (h : w.heap[g]? = some (.cells #[a0_, a1_, a2_, a3_, a4_, a5_, a6_, a7_, a8_, a9_, a10_, a11_] t (0, 0))) : w.cell? ⟨g, 0, none⟩ = some a0_ ∧ w.cell? ⟨g, 1, none⟩ = some a1_ ∧ w.cell? ⟨g, 2, none⟩ = some a2_ ∧ w.cell? ⟨g, 3, none⟩ = some a3_ ∧ w.cell? ⟨g, 4, none⟩ = some a4_ ∧ w.cell? ⟨g, 5, none⟩ = some a5_ ∧ w.cell? ⟨g, 6, none⟩ = some a6_ ∧ w.cell? ⟨g, 7, none⟩ = some a7_ ∧ w.cell? ⟨g, 8, none⟩ = some a8_ ∧ w.cell? ⟨g, 9, none⟩ = some a9_ ∧ w.cell? ⟨g, 10, none⟩ = some a10_ ∧ w.cell? ⟨g, 11, none⟩ = some a11_ ∧ w.frozen? ⟨g, 0, none⟩ = false ∧ w.frozen? ⟨g, 1, none⟩ = false ∧ w.frozen? ⟨g, 2, none⟩ = false ∧ w.frozen? ⟨g, 3, none⟩ = false ∧ w.frozen? ⟨g, 4, none⟩ = false ∧ w.frozen? ⟨g, 5, none⟩ = false ∧ w.frozen? ⟨g, 6, none⟩ = false ∧ w.frozen? ⟨g, 7, none⟩ = false ∧ w.frozen? ⟨g, 8, none⟩ = false ∧ w.frozen? ⟨g, 9, none⟩ = false ∧ w.frozen? ⟨g, 10, none⟩ = false ∧ w.frozen? ⟨g, 11, none⟩ = false :=
  ⟨(blk_cell h 0).trans rfl, (blk_cell h 1).trans rfl, (blk_cell h 2).trans rfl, (blk_cell h 3).trans rfl, (blk_cell h 4).trans rfl, (blk_cell h 5).trans rfl, (blk_cell h 6).trans rfl, (blk_cell h 7).trans rfl, (blk_cell h 8).trans rfl, (blk_cell h 9).trans rfl, (blk_cell h 10).trans rfl, (blk_cell h 11).trans rfl, blk_frozen h 0, blk_frozen h 1, blk_frozen h 2, blk_frozen h 3, blk_frozen h 4, blk_frozen h 5, blk_frozen h 6, blk_frozen h 7, blk_frozen h 8, blk_frozen h 9, blk_frozen h 10, blk_frozen h 11⟩
theorem bx13 {w : World} {g : Nat} {t : TypeId} {a0_ a1_ a2_ a3_ a4_ a5_ a6_ a7_ a8_ a9_ a10_ a11_ a12_ : Value} (h : w.heap[g]? = some (.cells #[a0_, a1_, a2_, a3_, a4_, a5_, a6_, a7_, a8_, a9_, a10_, a11_, a12_] t (0, 0))) : w.cell? ⟨g, 0, none⟩ = some a0_ ∧ w.cell? ⟨g, 1, none⟩ = some a1_ ∧ w.cell? ⟨g, 2, none⟩ = some a2_ ∧ w.cell? ⟨g, 3, none⟩ = some a3_ ∧ w.cell? ⟨g, 4, none⟩ = some a4_ ∧ w.cell? ⟨g, 5, none⟩ = some a5_ ∧ w.cell? ⟨g, 6, none⟩ = some a6_ ∧ w.cell? ⟨g, 7, none⟩ = some a7_ ∧ w.cell? ⟨g, 8, none⟩ = some a8_ ∧ w.cell? ⟨g, 9, none⟩ = some a9_ ∧ w.cell? ⟨g, 10, none⟩ = some a10_ ∧ w.cell? ⟨g, 11, none⟩ = some a11_ ∧ w.cell? ⟨g, 12, none⟩ = some a12_ ∧ w.frozen? ⟨g, 0, none⟩ = false ∧ w.frozen? ⟨g, 1, none⟩ = false ∧ w.frozen? ⟨g, 2, none⟩ = false ∧ w.frozen? ⟨g, 3, none⟩ = false ∧ w.frozen? ⟨g, 4, none⟩ = false ∧ w.frozen? ⟨g, 5, none⟩ = false ∧ w.frozen? ⟨g, 6, none⟩ = false ∧ w.frozen? ⟨g, 7, none⟩ = false ∧ w.frozen? ⟨g, 8, none⟩ = false ∧ w.frozen? ⟨g, 9, none⟩ = false ∧ w.frozen? ⟨g, 10, none⟩ = false ∧ w.frozen? ⟨g, 11, none⟩ = false ∧ w.frozen? ⟨g, 12, none⟩ = false :=
  ⟨(blk_cell h 0).trans rfl, (blk_cell h 1).trans rfl, (blk_cell h 2).trans rfl, (blk_cell h 3).trans rfl, (blk_cell h 4).trans rfl, (blk_cell h 5).trans rfl, (blk_cell h 6).trans rfl, (blk_cell h 7).trans rfl, (blk_cell h 8).trans rfl, (blk_cell h 9).trans rfl, (blk_cell h 10).trans rfl, (blk_cell h 11).trans rfl, (blk_cell h 12).trans rfl, blk_frozen h 0, blk_frozen h 1, blk_frozen h 2, blk_frozen h 3, blk_frozen h 4, blk_frozen h 5, blk_frozen h 6, blk_frozen h 7, blk_frozen h 8, blk_frozen h 9, blk_frozen h 10, blk_frozen h 11, blk_frozen h 12⟩
theorem bx14 {w : World} {g : Nat} {t : TypeId} {a0_ a1_ a2_ a3_ a4_ a5_ a6_ a7_ a8_ a9_ a10_ a11_ a12_ a13_ : Value} (h : w.heap[g]? = some (.cells #[a0_, a1_, a2_, a3_, a4_, a5_, a6_, a7_, a8_, a9_, a10_, a11_, a12_, a13_] t (0, 0))) : w.cell? ⟨g, 0, none⟩ = some a0_ ∧ w.cell? ⟨g, 1, none⟩ = some a1_ ∧ w.cell? ⟨g, 2, none⟩ = some a2_ ∧ w.cell? ⟨g, 3, none⟩ = some a3_ ∧ w.cell? ⟨g, 4, none⟩ = some a4_ ∧ w.cell? ⟨g, 5, none⟩ = some a5_ ∧ w.cell? ⟨g, 6, none⟩ = some a6_ ∧ w.cell? ⟨g, 7, none⟩ = some a7_ ∧ w.cell? ⟨g, 8, none⟩ = some a8_ ∧ w.cell? ⟨g, 9, none⟩ = some a9_ ∧ w.cell? ⟨g, 10, none⟩ = some a10_ ∧ w.cell? ⟨g, 11, none⟩ = some a11_ ∧ w.cell? ⟨g, 12, none⟩ = some a12_ ∧ w.cell? ⟨g, 13, none⟩ = some a13_ ∧ w.frozen? ⟨g, 0, none⟩ = false ∧ w.frozen? ⟨g, 1, none⟩ = false ∧ w.frozen? ⟨g, 2, none⟩ = false ∧ w.frozen? ⟨g, 3, none⟩ = false ∧ w.frozen? ⟨g, 4, none⟩ = false ∧ w.frozen? ⟨g, 5, none⟩ = false ∧ w.frozen? ⟨g, 6, none⟩ = false ∧ w.frozen? ⟨g, 7, none⟩ = false ∧ w.frozen? ⟨g, 8, none⟩ = false ∧ w.frozen? ⟨g, 9, none⟩ = false ∧ w.frozen? ⟨g, 10, none⟩ = false ∧ w.frozen? ⟨g, 11, none⟩ = false ∧ w.frozen? ⟨g, 12, none⟩ = false ∧ w.frozen? ⟨g, 13, none⟩ = false :=
  ⟨(blk_cell h 0).trans rfl, (blk_cell h 1).trans rfl, (blk_cell h 2).trans rfl, (blk_cell h 3).trans rfl, (blk_cell h 4).trans rfl, (blk_cell h 5).trans rfl, (blk_cell h 6).trans rfl, (blk_cell h 7).trans rfl, (blk_cell h 8).trans rfl, (blk_cell h 9).trans rfl, (blk_cell h 10).trans rfl, (blk_cell h 11).trans rfl, (blk_cell h 12).trans rfl, (blk_cell h 13).trans rfl, blk_frozen h 0, blk_frozen h 1, blk_frozen h 2, blk_frozen h 3, blk_frozen h 4, blk_frozen h 5, blk_frozen h 6, blk_frozen h 7, blk_frozen h 8, blk_frozen h 9, blk_frozen h 10, blk_frozen h 11, blk_frozen h 12, blk_frozen h 13⟩
end Go.Proofs.YtbihpjngmjkjmaaDoor.P
