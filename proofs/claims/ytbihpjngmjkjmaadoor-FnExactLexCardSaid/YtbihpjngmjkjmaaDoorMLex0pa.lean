/- The reference's ReadInt. Conditions: a text that is not too long. -/
import Derived.Test.YtbihpjngmjkjmaaDoorMLex0ra
import Derived.Test.YtbihpjngmjkjmaaDoorMLex0sa
import Derived.Test.YtbihpjngmjkjmaaDoorMLex0qa
import Derived.Test.YtbihpjngmjkjmaaDoorMLex0b
namespace Go.Proofs.YtbihpjngmjkjmaaDoor.Dec
open Go.RowKit Go.Proofs.YtbihpjngmjkjmaaDoor.P Go.Proofs.YtbihpjngmjkjmaaDoorW.PrintWords Go.Proofs.YtbihpjngmjkjmaaDoorW.PrintLast Go.Proofs.YtbihpjngmjkjmaaDoor.Aux Go.Lib
set_option linter.unusedVariables false
set_option linter.unusedSimpArgs false
theorem ba_loop (s : ByteArray) : ∀ (d i : Nat) (r : List UInt8), i + d = s.size → ByteArray.toList.loop s i r = r.reverse ++ s.data.toList.drop i := by
  intro d
  induction d with
  | zero =>
    intro i r h
    rw [ByteArray.toList.loop, if_neg (by omega), List.drop_eq_nil_of_le (by rw [Array.length_toList]; show s.size ≤ i; omega), List.append_nil]
  | succ d ih =>
    intro i r h
    have hi : i < s.data.toList.length := by rw [Array.length_toList]; show i < s.size; omega
    rw [ByteArray.toList.loop, if_pos (by omega), ih (i + 1) _ (by omega), List.drop_eq_getElem_cons hi, List.reverse_cons, List.append_assoc]
    have : s.get! i = s.data.toList[i] := by
      rw [ByteArray.get!, Array.getElem_toList]
      exact getElem!_pos s.data i (by simpa using hi)
    rw [this]
    rfl
theorem ba_toList (s : ByteArray) : s.toList = s.data.toList := by
  rw [ByteArray.toList, ba_loop s s.size 0 [] (by omega)]
  simp
theorem ba_len (s : ByteArray) : s.data.toList.length = s.size := by rw [Array.length_toList]; rfl
theorem bt_list (s : ByteArray) (i : Nat) (h : i < s.data.toList.length) : bt s (i : Int) = (s.data.toList[i].toNat : Int) := by
  have h' : i < s.size := by rw [← ba_len]; exact h
  have := bt_at s (i : Int) (by simpa using h')
  rw [← this]
  simp [Array.getElem_toList]
  rfl
end Go.Proofs.YtbihpjngmjkjmaaDoor.Dec
