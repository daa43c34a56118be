/- A text's words: the reference's and the library's are one. Conditions: a text that is not too long. -/
import Derived.Test.YtbihpjngmjkjmaaDoorMLex0ta
import Derived.Test.YtbihpjngmjkjmaaDoorMLex0pa
import Derived.Test.YtbihpjngmjkjmaaDoorMLex0b
import Derived.Lib.CountLaws
import Derived.Lib.IndexBytes
namespace Go.Proofs.YtbihpjngmjkjmaaDoor.Dec
open Go.RowKit Go.Proofs.YtbihpjngmjkjmaaDoor.P Go.Proofs.YtbihpjngmjkjmaaDoorW.PrintWords Go.Proofs.YtbihpjngmjkjmaaDoorW.PrintLast Go.Proofs.YtbihpjngmjkjmaaDoor.Aux Go.Lib
set_option linter.unusedVariables false
set_option linter.unusedSimpArgs false
/-- The text from f on. -/
theorem rest_list (s : ByteArray) (f : Nat) : (s.extract f s.size).data.toList = s.data.toList.drop f := extract_to_end s f
theorem rest_size (s : ByteArray) (f : Nat) : (s.extract f s.size).size = s.size - f := by rw [← ba_len, rest_list, List.length_drop, ba_len]
theorem piece (s : ByteArray) (f a b : Nat) (hb : f + b ≤ s.size) : (s.extract f s.size).extract a b = s.extract (f + a) (f + b) := by
  apply Go.WideShapes.bytes_inj
  rw [extract_data, extract_data, extract_data, List.drop_take, List.drop_drop, List.take_take, Nat.min_eq_left (by omega), show f + b - (f + a) = b - a by omega]
/-- The text of a mark. -/
noncomputable def mkT (m : Int) : ByteArray := if h : m ≤ 9223372036854775807 then Classical.choose (markText_ev laws_markText.f laws_markText.l0 (fun _ _ => rfl) (fun _ _ _ => by rw [laws_markText.l0]) m h) else ByteArray.empty
theorem mkT_ev (m : Int) (h : m ≤ 9223372036854775807) : Ev (fun k => laws_markText.f k m) (mkT m) := by
  unfold mkT
  rw [dif_pos h]
  exact Classical.choose_spec (markText_ev laws_markText.f laws_markText.l0 (fun _ _ => rfl) (fun _ _ _ => by rw [laws_markText.l0]) m h)
end Go.Proofs.YtbihpjngmjkjmaaDoor.Dec
