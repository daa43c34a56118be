/- Texts: how long they are. No conditions. -/
import Derived.Test.YtbihpjngmjkjmaaDoorGdec
namespace Go.Proofs.YtbihpjngmjkjmaaDoor.Dec
open Go.RowKit Go.Proofs.YtbihpjngmjkjmaaDoor.P Go.Proofs.YtbihpjngmjkjmaaDoorW.PrintWords Go.Proofs.YtbihpjngmjkjmaaDoorW.PrintLast Go.Proofs.YtbihpjngmjkjmaaDoor.Aux
/-- A number's numeral. -/
def dt (n : Int) : ByteArray := ⟨(Lib.itoa n).toArray⟩
/-- The numbers of 64 bits. -/
def I64 (n : Int) : Prop := -9223372036854775808 ≤ n ∧ n ≤ 9223372036854775807
theorem dt_size {n : Int} (h : I64 n) : (dt n).size ≤ 21 := by
  unfold dt
  rw [bytes_size]
  exact digs_len n h.1 h.2
theorem dt_ev {n : Int} (h : I64 n) : Ev (fun k => spec_DecText.f k n) (dt n) := dec_ev n h.1 h.2
theorem dt_f {n : Int} (h : I64 n) : strconv_Itoa_44.f n = some (dt n) := itoa_f n h.1 h.2
theorem lit1 (a : UInt8) : (⟨#[a]⟩ : ByteArray).size = 1 := rfl
theorem lit2 (a b : UInt8) : (⟨#[a, b]⟩ : ByteArray).size = 2 := rfl
theorem lit3 (a b c : UInt8) : (⟨#[a, b, c]⟩ : ByteArray).size = 3 := rfl
theorem lit4 (a b c d : UInt8) : (⟨#[a, b, c, d]⟩ : ByteArray).size = 4 := rfl
theorem lit0 : (⟨#[]⟩ : ByteArray).size = 0 := rfl
end Go.Proofs.YtbihpjngmjkjmaaDoor.Dec
