/- strings.Split at a separator of one byte: the words in a row of the call's own. Conditions: a text that is not too long; the library's variable holds some number. -/
import Derived.Test.YtbihpjngmjkjmaaDoorF0
import Derived.Test.YtbihpjngmjkjmaaDoorSh3
import Derived.Lib.SplitLaws
namespace Go.Proofs.YtbihpjngmjkjmaaDoor.P
open Go.RowKit Go.Proofs.YtbihpjngmjkjmaaDoorW.PrintWords Go.Proofs.YtbihpjngmjkjmaaDoorW.PrintLast
set_option linter.unusedVariables false
set_option linter.unusedSimpArgs false
/-- The library's variable holds some number. -/
def MaxL (w : World) : Prop := ∃ m, w.cell? ⟨3, 0, none⟩ = some (.int .i64 m)
theorem maxB {w w' : World} (h : MaxL w) (hb : Below w.heap.size w w') : MaxL w' := by
  obtain ⟨m, hm⟩ := h
  exact ⟨m, (hb.cell (p := ⟨3, 0, none⟩) (World.block_lt_of_cell? w _ hm)).trans hm⟩
theorem maxS {w : World} (h : w.ShapedOpen Tryd.prog) : MaxL w := Tryd.laysM146.s1_3 w h
def strings_Split.f (a0 a1 : ByteArray) : Option (List ByteArray) := if a0.size ≤ 1048576 ∧ 1 ≤ a1.size then some (Lib.splitB a1 0 (Lib.countB a0 a1) a0) else none
theorem reps_texts (w : World) (base : Nat) (ok : Nat → Prop) (xs : List ByteArray) : Reps (Kd.string.M w base ok) Kd.string.sz xs (xs.map Value.string) := by
  induction xs with
  | nil => exact Reps.none _ _
  | cons x xs ih => exact Reps.one (show Kd.M Kd.string _ _ _ x [.string x] from rfl) ih
theorem strings_Split.calls (a0 a1 : ByteArray) (r : List ByteArray) (w : World) (h : strings_Split.f a0 a1 = some r) (ht : MaxL w) :
    Calls Tryd.prog 45 #[.string a0, .string a1] w fun e w' => ∃ v0_ : Value, e = .returned v0_ ∧ Kd.R Kd.string 9 w' w.heap.size (fun _ => True) v0_ r ∧ Below w.heap.size w w' := by
  unfold strings_Split.f at h
  split at h
  · rename_i hs
    obtain rfl := Option.some.inj h
    obtain ⟨m, hm⟩ := ht
    refine (Tryd.strings_Split a0 a1 m w (by omega) hm hs.2).mono fun e w' hw => ?_
    obtain ⟨he, rfl⟩ := hw
    have hl := Lib.splitB_all a1 hs.2 0 (Lib.countB a0 a1) a0 rfl
    have hc := Lib.countB_le a1 hs.2 a0.size a0 (Nat.le_refl _)
    generalize Lib.splitB a1 0 (Lib.countB a0 a1) a0 = xs at hl
    rw [← hl] at he
    refine ⟨_, he, ⟨fun _ _ => trivial, xs.map Value.string, ?_, reps_texts _ _ _ _⟩, below_alloc (Below.refl _ _) _⟩
    have h2 := World.ownsRow_lit (base := w.heap.size) (e := 9) (size := Kd.string.sz) w (xs.map Value.string).toArray xs.length (Nat.le_refl _) (by unfold maxLen; omega) (by rw [List.size_toArray, List.length_map]; exact (Nat.mul_one _).symm)
    simpa using h2
  · cases h
end Go.Proofs.YtbihpjngmjkjmaaDoor.P
