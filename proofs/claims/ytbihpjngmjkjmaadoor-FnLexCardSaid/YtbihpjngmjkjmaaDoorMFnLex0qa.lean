/- Functions of the program and of the reference as plain functions, and that the Go code comes to their answers; several texts in one. No conditions beyond what each theorem says. -/
import Derived.Test.YtbihpjngmjkjmaaDoorMFnLex0sa
import Derived.Test.YtbihpjngmjkjmaaDoorMFnLex0wa
import Derived.Test.YtbihpjngmjkjmaaDoorMFnLex0a
namespace Go.Proofs.YtbihpjngmjkjmaaDoor.P
open Go.RowKit
/-- The library's two errors are there. -/
def Errs (w : World) : Prop := (∃ t p, w.var? Tryd.prog "strconv.ErrSyntax" = some #[.iface t p]) ∧ ∃ t p, w.var? Tryd.prog "strconv.ErrRange" = some #[.iface t p]
theorem errNo0 : Tryd.prog.globalNamed "strconv.ErrSyntax" = some 0 := by kernel_rfl
theorem errNo1 : Tryd.prog.globalNamed "strconv.ErrRange" = some 1 := by kernel_rfl
theorem errB {w w' : World} (h : Errs w) (hb : Below w.heap.size w w') : Errs w' := by
  obtain ⟨⟨t, p, h0⟩, t', p', h1⟩ := h
  exact ⟨⟨t, p, Joins.var_stays errNo0 h0 hb (Nat.le_refl _)⟩, t', p', Joins.var_stays errNo1 h1 hb (Nat.le_refl _)⟩
/-- The table and the two errors. -/
def TabE (w : World) : Prop := Tab w ∧ Errs w
theorem tabEB {w w' : World} (h : TabE w) (hb : Below w.heap.size w w') : TabE w' := ⟨tabB h.1 hb, errB h.2 hb⟩
/-- What Atoi hands back: the number, and whether the error is nil. -/
def atoiV (s : ByteArray) : Option Int := match Lib.atoiAll s.data.toList with
  | .ok v => some v
  | _ => none
theorem atoi_ok (s : ByteArray) (hs : s.size ≤ 281474976710656) (v : Int) (h : atoiV s = some v) (w : World) :
    Calls Tryd.prog 53 #[.string s] w fun e w' => e = .returned (.tuple #[.int .i64 v, .nilIface]) ∧ Below w.heap.size w w' := by
  have hv : Lib.atoiAll s.data.toList = .ok v := by
    unfold atoiV at h
    split at h
    · rename_i x hx
      rw [hx, Option.some.inj h]
    · cases h
  refine (Any.strconv_Atoi_ok Tryd.laysC172 s (by omega) v hv w).mono fun e w' h => ⟨h.1, ?_⟩
  rcases h.2 with rfl | ⟨t, rfl⟩
  · exact Below.refl _ _
  · exact Lib.bytesWorld_below _ _ _
theorem atoi_err (s : ByteArray) (hs : s.size ≤ 281474976710656) (h : atoiV s = none) (w : World) (he : Errs w) :
    Calls Tryd.prog 53 #[.string s] w fun e w' => ∃ n N, e = .returned (.tuple #[.int .i64 n, .iface 96 (.pointer (some ⟨N, 0, none⟩))]) ∧ Below w.heap.size w w' := by
  obtain ⟨⟨t, p, h0⟩, t', p', h1⟩ := he
  unfold atoiV at h
  have q0 : w.cell? ⟨0, 0, none⟩ = some (.iface t p) := by simpa using World.var?_cell errNo0 h0 0
  have q1 : w.cell? ⟨1, 0, none⟩ = some (.iface t' p') := by simpa using World.var?_cell errNo1 h1 0
  rcases hx : Lib.atoiAll s.data.toList with v | _ | _
  · rw [hx] at h
    cases h
  · refine (Any.strconv_Atoi_syntax Tryd.laysC172 s hs hx (.iface t p) w q0 (Or.inr ⟨t, p, rfl⟩)).mono fun e w' h => ?_
    obtain ⟨N, he, _, _, hb⟩ := h
    exact ⟨0, N, he, hb⟩
  · refine (Any.strconv_Atoi_range Tryd.laysC172 s hs hx (.iface t' p') w q1 (Or.inr ⟨t', p', rfl⟩)).mono fun e w' h => ?_
    obtain ⟨N, he, _, _, hb⟩ := h
    exact ⟨_, N, he, hb⟩
end Go.Proofs.YtbihpjngmjkjmaaDoor.P
namespace Go.Proofs.YtbihpjngmjkjmaaDoor.P
open Go.RowKit Go.Proofs.YtbihpjngmjkjmaaDoorW.PrintWords Go.Proofs.YtbihpjngmjkjmaaDoorW.PrintLast Go.Proofs.YtbihpjngmjkjmaaDoorW.PrintMore
set_option linter.unusedVariables false
set_option linter.unusedSimpArgs false
def impl_ReadInt.f (a0 : ByteArray) : Option (Int × Bool) := if a0.size ≤ 1048576 then (match atoiV a0 with
  | none => some (0, false)
  | some v => if -999999 ≤ v ∧ v ≤ 999999 ∧ (⟨(Lib.itoa v).toArray⟩ : ByteArray).toList = a0.toList then some (v, true) else some (0, false)) else none
set_option maxHeartbeats 8000000 in
set_option maxRecDepth 100000 in
theorem readInt_none (s : ByteArray) (hs : s.size ≤ 281474976710656) (h : atoiV s = none) (w : World) (ht : TabE w) :
    Calls Tryd.prog 26 #[.string s] w fun e w' => e = .returned (.tuple #[.int .i64 0, .bool false]) ∧ Below w.heap.size w w' := by
  have hA := atoi_err s hs h
  have he := ht.2
  clear h ht
  go_enter Tryd.func26, Tryd.ntmps26
  go_wp2_with (go_at_call 53; refine (hA _ he).mono ?_; rintro e w1 ⟨n, N, rfl, hb⟩)
  go_ret2
  exact ⟨rfl, by repeat (first | (with_reducible first | exact hb | apply blA | apply pbN | apply bl1) | exact hb)⟩
set_option maxHeartbeats 8000000 in
set_option maxRecDepth 100000 in
theorem readInt_far (s : ByteArray) (hs : s.size ≤ 281474976710656) (v : Int) (h : atoiV s = some v) (hi : impl_in.f v (-999999) 999999 = some false) (w : World) :
    Calls Tryd.prog 26 #[.string s] w fun e w' => e = .returned (.tuple #[.int .i64 0, .bool false]) ∧ Below w.heap.size w w' := by
  have hA := atoi_ok s hs v h
  have HI := Zs0.mk hi
  clear h hi
  go_enter Tryd.func26, Tryd.ntmps26
  go_wp2_with (first
    | (go_at_call 53; refine (hA _).mono ?_; rintro e w1 ⟨rfl, hb⟩)
    | (go_at_call 54; refine (impl_in.calls v (-999999) 999999 false _ HI.out).mono ?_; rintro e w2 ⟨rfl, ⟨nd, rfl⟩⟩))
  go_ret2
  exact ⟨rfl, by repeat (first | (with_reducible first | exact hb | apply blA | apply pbN | apply bl1) | exact hb)⟩
set_option maxHeartbeats 8000000 in
set_option maxRecDepth 100000 in
theorem readInt_near (s : ByteArray) (hs : s.size ≤ 281474976710656) (v : Int) (h : atoiV s = some v) (hi : impl_in.f v (-999999) 999999 = some true) (hw : -9223372036854775808 ≤ v ∧ v ≤ 9223372036854775807) (b : Bool) (hb : ((⟨(Lib.itoa v).toArray⟩ : ByteArray).toList == s.toList) = b) (w : World) (ht : Tab w) :
    Calls Tryd.prog 26 #[.string s] w fun e w' => e = .returned (if b = true then .tuple #[.int .i64 v, .bool true] else .tuple #[.int .i64 0, .bool false]) ∧ Below w.heap.size w w' := by
  have hA := atoi_ok s hs v h
  have HI := Zs0.mk hi
  have HT := Zs0.mk ht
  have HJ := Zs0.mk (show strconv_Itoa_44.f v = some ⟨(Lib.itoa v).toArray⟩ from if_pos hw)
  clear h hi ht hw
  cases b
  · generalize (⟨(Lib.itoa v).toArray⟩ : ByteArray) = t at hb HJ
    have hb' : (t.toList != s.toList) = true := by simp [bne, hb]
    go_enter Tryd.func26, Tryd.ntmps26
    go_wp2_with (first
      | (go_at_call 53; refine (hA _).mono ?_; rintro e w1 ⟨rfl, hb1⟩)
      | (go_at_call 54; refine (impl_in.calls v (-999999) 999999 true _ HI.out).mono ?_; rintro e w2 ⟨rfl, ⟨nd, rfl⟩⟩)
      | (go_at_call 44; refine (strconv_Itoa_44.calls v t _ HJ.out (tabB HT.out (by repeat (first | (with_reducible first | exact hb1 | apply blA | apply pbN | apply bl1) | exact hb1)))).mono ?_; rintro e w3 ⟨rfl, hb2⟩; have hb3 := blT (by repeat (first | (with_reducible first | exact hb1 | apply blA | apply pbN | apply bl1) | exact hb1)) hb2; clear hb1 hb2))
    go_ret2
    exact ⟨rfl, by repeat (first | (with_reducible first | exact hb3 | apply blA | apply pbN | apply bl1) | exact hb3)⟩
  · generalize (⟨(Lib.itoa v).toArray⟩ : ByteArray) = t at hb HJ
    have hb' : (t.toList != s.toList) = false := by simp [bne, hb]
    go_enter Tryd.func26, Tryd.ntmps26
    go_wp2_with (first
      | (go_at_call 53; refine (hA _).mono ?_; rintro e w1 ⟨rfl, hb1⟩)
      | (go_at_call 54; refine (impl_in.calls v (-999999) 999999 true _ HI.out).mono ?_; rintro e w2 ⟨rfl, ⟨nd, rfl⟩⟩)
      | (go_at_call 44; refine (strconv_Itoa_44.calls v t _ HJ.out (tabB HT.out (by repeat (first | (with_reducible first | exact hb1 | apply blA | apply pbN | apply bl1) | exact hb1)))).mono ?_; rintro e w3 ⟨rfl, hb2⟩; have hb3 := blT (by repeat (first | (with_reducible first | exact hb1 | apply blA | apply pbN | apply bl1) | exact hb1)) hb2; clear hb1 hb2))
    go_ret2
    exact ⟨rfl, by repeat (first | (with_reducible first | exact hb3 | apply blA | apply pbN | apply bl1) | exact hb3)⟩
theorem impl_ReadInt.calls (a0 : ByteArray) (r1 : Int) (r2 : Bool) (w : World) (h : impl_ReadInt.f a0 = some (r1, r2)) (ht : TabE w) :
    Calls Tryd.prog 26 #[.string a0] w fun e w' => e = .returned (.tuple #[.int .i64 r1, .bool r2]) ∧ Below w.heap.size w w' := by
  unfold impl_ReadInt.f at h
  split at h
  · rename_i hs
    cases ha : atoiV a0 with
    | none =>
      rw [ha] at h
      obtain ⟨rfl, rfl⟩ := Prod.mk.inj (Option.some.inj h)
      exact readInt_none a0 (by omega) ha w ht
    | some v =>
      rw [ha] at h
      have hv : -9223372036854775808 ≤ v ∧ v ≤ 9223372036854775807 := by
        unfold atoiV at ha
        split at ha
        · rename_i x hx
          rw [← Option.some.inj ha]
          exact Lib.atoiAll_bounds hx
        · cases ha
      by_cases hr : -999999 ≤ v ∧ v ≤ 999999
      · have hi : impl_in.f v (-999999) 999999 = some true := by unfold impl_in.f; rw [if_pos hr.1, decide_eq_true hr.2]
        have hn := readInt_near a0 (by omega) v ha hi hv _ rfl w ht.1
        by_cases hl : (⟨(Lib.itoa v).toArray⟩ : ByteArray).toList = a0.toList
        · have h2 : some (v, true) = some (r1, r2) := by rw [← h]; exact (if_pos ⟨hr.1, hr.2, hl⟩).symm
          obtain ⟨rfl, rfl⟩ := Prod.mk.inj (Option.some.inj h2)
          rw [if_pos (beq_iff_eq.mpr hl)] at hn
          exact hn
        · have h2 : some ((0 : Int), false) = some (r1, r2) := by rw [← h]; exact (if_neg (fun z => hl z.2.2)).symm
          obtain ⟨rfl, rfl⟩ := Prod.mk.inj (Option.some.inj h2)
          rw [if_neg (fun z => hl (beq_iff_eq.mp z))] at hn
          exact hn
      · have h2 : some ((0 : Int), false) = some (r1, r2) := by rw [← h]; exact (if_neg (fun z => hr ⟨z.1, z.2.1⟩)).symm
        obtain ⟨rfl, rfl⟩ := Prod.mk.inj (Option.some.inj h2)
        have hi : impl_in.f v (-999999) 999999 = some false := by
          unfold impl_in.f
          by_cases h1 : v ≥ -999999
          · rw [if_pos h1, decide_eq_false (fun z => hr ⟨h1, z⟩)]
          · rw [if_neg h1]
        exact readInt_far a0 (by omega) v ha hi w
  · cases h
end Go.Proofs.YtbihpjngmjkjmaaDoor.P
