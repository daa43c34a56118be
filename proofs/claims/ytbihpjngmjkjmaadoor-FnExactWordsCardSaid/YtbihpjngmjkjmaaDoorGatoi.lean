/- strconv.Atoi: what it answers at every text. Conditions: the library's two errors hold some error each. -/
import Derived.Test.YtbihpjngmjkjmaaDoorGitoa
import Derived.Test.YtbihpjngmjkjmaaDoorSh2
namespace Go.Proofs.YtbihpjngmjkjmaaDoor.P
open Go.RowKit
/-- The library's two errors are there. -/
def Errs (w : World) : Prop := (∃ t p, w.var? Tryd.prog "strconv.ErrSyntax" = some #[.iface t p]) ∧ ∃ t p, w.var? Tryd.prog "strconv.ErrRange" = some #[.iface t p]
theorem errNo0 : Tryd.prog.globalNamed "strconv.ErrSyntax" = some 0 := by kernel_rfl
theorem errNo1 : Tryd.prog.globalNamed "strconv.ErrRange" = some 1 := by kernel_rfl
theorem errB {w w' : World} (h : Errs w) (hb : Below w.heap.size w w') : Errs w' := by
  obtain ⟨⟨t, p, h0⟩, t', p', h1⟩ := h
  exact ⟨⟨t, p, Joins.var_stays errNo0 h0 hb (Nat.le_refl _)⟩, t', p', Joins.var_stays errNo1 h1 hb (Nat.le_refl _)⟩
/-- The table and the two errors. -/
def TabE (w : World) : Prop := Tab w ∧ Errs w
theorem tabEB {w w' : World} (h : TabE w) (hb : Below w.heap.size w w') : TabE w' := ⟨tabB h.1 hb, errB h.2 hb⟩
/-- What Atoi hands back: the number, and whether the error is nil. -/
def atoiV (s : ByteArray) : Option Int := match Lib.atoiAll s.data.toList with
  | .ok v => some v
  | _ => none
theorem atoi_ok (s : ByteArray) (hs : s.size ≤ 281474976710656) (v : Int) (h : atoiV s = some v) (w : World) :
    Calls Tryd.prog 53 #[.string s] w fun e w' => e = .returned (.tuple #[.int .i64 v, .nilIface]) ∧ Below w.heap.size w w' := by
  have hv : Lib.atoiAll s.data.toList = .ok v := by
    unfold atoiV at h
    split at h
    · rename_i x hx
      rw [hx, Option.some.inj h]
    · cases h
  refine (Any.strconv_Atoi_ok Tryd.laysC172 s (by omega) v hv w).mono fun e w' h => ⟨h.1, ?_⟩
  rcases h.2 with rfl | ⟨t, rfl⟩
  · exact Below.refl _ _
  · exact Lib.bytesWorld_below _ _ _
theorem atoi_err (s : ByteArray) (hs : s.size ≤ 281474976710656) (h : atoiV s = none) (w : World) (he : Errs w) :
    Calls Tryd.prog 53 #[.string s] w fun e w' => ∃ n N, e = .returned (.tuple #[.int .i64 n, .iface 96 (.pointer (some ⟨N, 0, none⟩))]) ∧ Below w.heap.size w w' := by
  obtain ⟨⟨t, p, h0⟩, t', p', h1⟩ := he
  unfold atoiV at h
  have q0 : w.cell? ⟨0, 0, none⟩ = some (.iface t p) := by simpa using World.var?_cell errNo0 h0 0
  have q1 : w.cell? ⟨1, 0, none⟩ = some (.iface t' p') := by simpa using World.var?_cell errNo1 h1 0
  rcases hx : Lib.atoiAll s.data.toList with v | _ | _
  · rw [hx] at h
    cases h
  · refine (Any.strconv_Atoi_syntax Tryd.laysC172 s hs hx (.iface t p) w q0 (Or.inr ⟨t, p, rfl⟩)).mono fun e w' h => ?_
    obtain ⟨N, he, _, _, hb⟩ := h
    exact ⟨0, N, he, hb⟩
  · refine (Any.strconv_Atoi_range Tryd.laysC172 s hs hx (.iface t' p') w q1 (Or.inr ⟨t', p', rfl⟩)).mono fun e w' h => ?_
    obtain ⟨N, he, _, _, hb⟩ := h
    exact ⟨_, N, he, hb⟩
end Go.Proofs.YtbihpjngmjkjmaaDoor.P
