/- strconv.Atoi and strings.IndexByte in the words of the print. Conditions: a text that is not too long; the library's errors are there. -/
import Derived.Test.YtbihpjngmjkjmaaDoorMFnLex0qa
import Derived.Test.YtbihpjngmjkjmaaDoorMFnLex0ya
namespace Go.Proofs.YtbihpjngmjkjmaaDoor.P
open Go.RowKit Go.Proofs.YtbihpjngmjkjmaaDoorW.PrintWords Go.Proofs.YtbihpjngmjkjmaaDoorW.PrintLast
/-- What Atoi hands back: a number, and whether there is an error. -/
def atoiR (s : ByteArray) : Int × Bool := match Lib.atoiAll s.data.toList with
  | .ok v => (v, false)
  | .range => (Lib.atoiSat s.data.toList, true)
  | _ => (0, true)
def strconv_Atoi_53.f (a0 : ByteArray) : Option (Int × Bool) := if a0.size ≤ 281474976710656 then some (atoiR a0) else none
theorem strconv_Atoi_53.calls (a0 : ByteArray) (r1 : Int) (r2 : Bool) (w : World) (h : strconv_Atoi_53.f a0 = some (r1, r2)) (ht : TabE w) :
    Calls Tryd.prog 53 #[.string a0] w fun e w' => ∃ ev, e = .returned (.tuple #[.int .i64 r1, ev]) ∧ (r2 = false → ev = .nilIface) ∧ (r2 = true → ∃ N, ev = .iface 96 (.pointer (some ⟨N, 0, none⟩))) ∧ Below w.heap.size w w' := by
  unfold strconv_Atoi_53.f at h
  split at h
  · rename_i hs
    have h := Option.some.inj h
    obtain ⟨⟨t, p, h0⟩, t', p', h1⟩ := ht.2
    have q0 : w.cell? ⟨0, 0, none⟩ = some (.iface t p) := by simpa using World.var?_cell errNo0 h0 0
    have q1 : w.cell? ⟨1, 0, none⟩ = some (.iface t' p') := by simpa using World.var?_cell errNo1 h1 0
    unfold atoiR at h
    rcases hx : Lib.atoiAll a0.data.toList with v | _ | _
    · rw [hx] at h
      obtain ⟨rfl, rfl⟩ := Prod.mk.inj h
      refine (Any.strconv_Atoi_ok Tryd.laysC172 a0 (by omega) v hx w).mono fun e w' h => ?_
      obtain ⟨he, hw⟩ := h
      refine ⟨.nilIface, he, fun _ => rfl, fun z => (by cases z), ?_⟩
      rcases hw with rfl | ⟨t, rfl⟩
      · exact Below.refl _ _
      · exact Lib.bytesWorld_below _ _ _
    · rw [hx] at h
      obtain ⟨rfl, rfl⟩ := Prod.mk.inj h
      refine (Any.strconv_Atoi_syntax Tryd.laysC172 a0 hs hx (.iface t p) w q0 (Or.inr ⟨t, p, rfl⟩)).mono fun e w' h => ?_
      obtain ⟨N, he, _, _, hb⟩ := h
      exact ⟨_, he, fun z => (by cases z), fun _ => ⟨N, rfl⟩, hb⟩
    · rw [hx] at h
      obtain ⟨rfl, rfl⟩ := Prod.mk.inj h
      refine (Any.strconv_Atoi_range Tryd.laysC172 a0 hs hx (.iface t' p') w q1 (Or.inr ⟨t', p', rfl⟩)).mono fun e w' h => ?_
      obtain ⟨N, he, _, _, hb⟩ := h
      exact ⟨_, he, fun z => (by cases z), fun _ => ⟨N, rfl⟩, hb⟩
  · cases h
def strings_IndexByte.f (a0 : ByteArray) (a1 : Int) : Option Int := some (Lib.indexByte a0.data.toList a1.toNat.toUInt8)
theorem strings_IndexByte.calls (a0 : ByteArray) (a1 : Int) (r : Int) (w : World) (h : strings_IndexByte.f a0 a1 = some r) :
    Calls Tryd.prog 75 #[.string a0, .int .u8 a1] w fun e w' => e = .returned (.int .i64 r) ∧ Drawn0 w w' := by
  obtain rfl := Option.some.inj h
  refine (Tryd.strings_IndexByte a0 a1 w).mono fun e w' h => ⟨h.1, ?_⟩
  rw [h.2]
  exact Drawn0.refl _
end Go.Proofs.YtbihpjngmjkjmaaDoor.P
