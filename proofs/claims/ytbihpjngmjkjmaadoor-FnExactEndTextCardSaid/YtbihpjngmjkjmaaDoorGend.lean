/- An end's text: the reference's and the program's are one. Conditions: numbers of 64 bits, not too many. -/
import Derived.Test.YtbihpjngmjkjmaaDoorGtext
import Derived.Test.YtbihpjngmjkjmaaDoorF21
import Derived.Test.YtbihpjngmjkjmaaDoorF23
namespace Go.Proofs.YtbihpjngmjkjmaaDoor.Dec
open Go.RowKit Go.Proofs.YtbihpjngmjkjmaaDoor.P Go.Proofs.YtbihpjngmjkjmaaDoorW.PrintWords Go.Proofs.YtbihpjngmjkjmaaDoorW.PrintLast Go.Proofs.YtbihpjngmjkjmaaDoor.Aux
set_option linter.unusedVariables false
set_option linter.unusedSimpArgs false
/-- The numbers behind a text, a blank ahead of each. -/
def outs (x : ByteArray) : List Int → ByteArray
  | [] => x
  | n :: l => outs ((x ++ (⟨#[32]⟩ : ByteArray)) ++ dt n) l
theorem more_size (x : ByteArray) {n : Int} (h : I64 n) : ((x ++ (⟨#[32]⟩ : ByteArray)) ++ dt n).size ≤ x.size + 22 := by
  have := dt_size h
  simp only [ByteArray.size_append, lit1]
  omega
theorem spec_outs (a b : Int) (l : List Int) (hl : l.length ≤ 1048576) (hv : ∀ n ∈ l, I64 n) (d : Nat) : ∀ (x : ByteArray) (i : Nat), i + d = l.length → x.size + 22 * d ≤ 1000000000 → Ev (fun k => spec_EndText.l0 k x (i : Int) a b l) (outs x (l.drop i)) := by
  induction d with
  | zero =>
    intro x i hi hx
    refine Ev.step (f := fun _ => some x) (fun k => by rw [spec_EndText.l0, if_neg (by omega)]) ?_
    rw [List.drop_eq_nil_of_le (by omega)]
    exact Ev.now _
  | succ d ih =>
    intro x i hi hx
    have hi' : i < l.length := by omega
    have h64 := hv l[i] (List.getElem_mem hi')
    have hr := rd_lt l i hi'
    have hs := dt_size h64
    have hm := more_size x h64
    have key := ih ((x ++ (⟨#[32]⟩ : ByteArray)) ++ dt l[i]) (i + 1) (by omega) (by omega)
    have z2 : (x ++ (⟨#[32]⟩ : ByteArray)).size + (dt l[i]).size ≤ 9223372036854775807 := by simp only [ByteArray.size_append, lit1]; omega
    have hp : (i : Int) < (l.length : Int) := by omega
    have hq : 0 ≤ (i : Int) := by omega
    have hx1 : x.size + 1 ≤ 9223372036854775807 := by omega
    have hw : wrap64 ((i : Int) + 1) = ((i + 1 : Nat) : Int) := by rw [wrap_ok (by omega) (by omega)]; omega
    rw [List.drop_eq_getElem_cons hi', outs]
    refine Ev.step (fun k => by rw [spec_EndText.l0, if_pos hp, if_pos hx1, if_pos hq, hr]) (Ev.bind (dt_ev h64) (Ev.ite_pos z2 ?_))
    rw [hw]
    exact key
theorem impl_outs (l : List Int) (hl : l.length ≤ 1048576) (hv : ∀ n ∈ l, I64 n) (d : Nat) : ∀ (x : ByteArray) (i : Nat), i + d = l.length → x.size + 22 * d ≤ 1000000000 → Ev (fun k => impl_endText.l0 k x l (l.length : Int) (i : Int)) (outs x (l.drop i)) := by
  induction d with
  | zero =>
    intro x i hi hx
    refine Ev.step (f := fun _ => some x) (fun k => by rw [impl_endText.l0, if_neg (by omega)]) ?_
    rw [List.drop_eq_nil_of_le (by omega)]
    exact Ev.now _
  | succ d ih =>
    intro x i hi hx
    have hi' : i < l.length := by omega
    have h64 := hv l[i] (List.getElem_mem hi')
    have hr := rd_lt l i hi'
    have hs := dt_size h64
    have hm := more_size x h64
    have key := ih ((x ++ (⟨#[32]⟩ : ByteArray)) ++ dt l[i]) (i + 1) (by omega) (by omega)
    have z1 : 1 + (dt l[i]).size ≤ 9223372036854775807 := by omega
    have z2 : x.size + ((⟨#[32]⟩ : ByteArray) ++ dt l[i]).size ≤ 9223372036854775807 := by simp only [ByteArray.size_append, lit1]; omega
    have hp : (i : Int) < (l.length : Int) := by omega
    have hq : 0 ≤ (i : Int) := by omega
    have hw : wrap64 ((i : Int) + 1) = ((i + 1 : Nat) : Int) := by rw [wrap_ok (by omega) (by omega)]; omega
    rw [List.drop_eq_getElem_cons hi', outs]
    refine Ev.step (fun k => by rw [impl_endText.l0, if_pos hp, if_pos hq, if_pos hp, hr]) (Ev.const (dt_f h64) (Ev.ite_pos z1 (Ev.ite_pos z2 ?_)))
    rw [hw, ← ByteArray.append_assoc]
    exact key
def endT (a b : Int) (l : List Int) : ByteArray := if a = 0 then outs ((⟨#[100, 111, 110, 101, 32]⟩ : ByteArray) ++ dt b) l else if a = 1 then outs (⟨#[116, 114, 97, 112]⟩ : ByteArray) l else if a = 2 then outs (⟨#[102, 117, 101, 108]⟩ : ByteArray) l else if a = 3 then outs (⟨#[110, 111, 110, 101]⟩ : ByteArray) l else (⟨#[]⟩ : ByteArray)
section
variable (a b : Int) (l : List Int) (hb : I64 b) (hl : l.length ≤ 1048576) (hv : ∀ n ∈ l, I64 n)
include hl hv
theorem spec_j (x : ByteArray) (hx : x.size ≤ 1000) : Ev (fun k => spec_EndText.j0 k x a b l) (outs x l) := by
  refine Ev.step (fun k => by rw [spec_EndText.j0]) ?_
  have h := spec_outs a b l hl hv l.length x 0 (by omega) (by omega)
  simpa using h
theorem impl_j (x : ByteArray) (hx : x.size ≤ 1000) : Ev (fun k => impl_endText.j0 k x a b l) (outs x l) := by
  refine Ev.step (fun k => by rw [impl_endText.j0]) ?_
  have h := impl_outs l hl hv l.length x 0 (by omega) (by omega)
  simpa using h
include hb
theorem impl_end : Ev (fun k => impl_EndText.f k a b l) (endT a b l) := by
  have hs := dt_size hb
  unfold impl_EndText.f
  suffices h : Ev (fun k => impl_endText.f k a b l) (endT a b l) from Ev.bind h (Ev.now _)
  unfold impl_endText.f endT
  by_cases h0 : a = 0
  · rw [if_pos h0]
    exact Ev.ite_pos h0 (Ev.const (dt_f hb) (Ev.ite_pos (by omega) (impl_j a b l hl hv _ (by rw [ByteArray.size_append]; have : (⟨#[100, 111, 110, 101, 32]⟩ : ByteArray).size = 5 := rfl; omega))))
  rw [if_neg h0]
  refine Ev.ite_neg h0 ?_
  by_cases h1 : a = 1
  · rw [if_pos h1]
    exact Ev.ite_pos h1 (impl_j a b l hl hv _ (by rw [lit4]; omega))
  rw [if_neg h1]
  refine Ev.ite_neg h1 ?_
  by_cases h2 : a = 2
  · rw [if_pos h2]
    exact Ev.ite_pos h2 (impl_j a b l hl hv _ (by rw [lit4]; omega))
  rw [if_neg h2]
  refine Ev.ite_neg h2 ?_
  by_cases h3 : a = 3
  · rw [if_pos h3]
    exact Ev.ite_pos h3 (impl_j a b l hl hv _ (by rw [lit4]; omega))
  rw [if_neg h3]
  exact Ev.ite_neg h3 (Ev.now _)
theorem spec_end : Ev (fun k => spec_EndText.f k a b l) (endT a b l) := by
  have hs := dt_size hb
  unfold spec_EndText.f
  have hin : spec_l01In.f a 0 3 = some (decide (0 ≤ a ∧ a ≤ 3)) := by
    unfold spec_l01In.f
    by_cases h : a ≥ 0
    · rw [if_pos h]
      have : decide (a ≤ 3) = decide (0 ≤ a ∧ a ≤ 3) := by
        by_cases h2 : a ≤ 3
        · rw [decide_eq_true h2, decide_eq_true ⟨h, h2⟩]
        · rw [decide_eq_false h2, decide_eq_false (fun z => h2 z.2)]
      rw [this]
    · rw [if_neg h, decide_eq_false (fun z => h z.1)]
  refine Ev.const hin ?_
  by_cases hr : 0 ≤ a ∧ a ≤ 3
  · rw [decide_eq_true hr]
    refine Ev.ite_pos rfl (Ev.const rfl (Ev.ite_pos hr.1 (Ev.ite_pos (by simp only [List.length_cons, List.length_nil]; omega) ?_)))
    unfold endT
    by_cases h0 : a = 0
    · subst h0
      rw [if_pos rfl]
      refine Ev.ite_pos rfl ?_
      have e : rdOf ByteArray.empty [(⟨#[100, 111, 110, 101]⟩ : ByteArray), (⟨#[116, 114, 97, 112]⟩ : ByteArray), (⟨#[102, 117, 101, 108]⟩ : ByteArray), (⟨#[110, 111, 110, 101]⟩ : ByteArray)] 0 = (⟨#[100, 111, 110, 101]⟩ : ByteArray) := rfl
      rw [e]
      have e2 : (⟨#[100, 111, 110, 101]⟩ : ByteArray) ++ (⟨#[32]⟩ : ByteArray) = (⟨#[100, 111, 110, 101, 32]⟩ : ByteArray) := rfl
      rw [e2]
      have e3 : (⟨#[100, 111, 110, 101, 32]⟩ : ByteArray).size = 5 := rfl
      exact Ev.ite_pos (by rw [lit4]; omega) (Ev.bind (dt_ev hb) (Ev.ite_pos (by omega) (spec_j 0 b l hl hv _ (by rw [ByteArray.size_append]; omega))))
    · rw [if_neg h0]
      refine Ev.ite_neg h0 ?_
      obtain rfl | rfl | rfl : a = 1 ∨ a = 2 ∨ a = 3 := by omega
      · rw [if_pos rfl]
        exact spec_j 1 b l hl hv (⟨#[116, 114, 97, 112]⟩ : ByteArray) (by rw [lit4]; omega)
      · rw [if_neg (by decide), if_pos rfl]
        exact spec_j 2 b l hl hv (⟨#[102, 117, 101, 108]⟩ : ByteArray) (by rw [lit4]; omega)
      · rw [if_neg (by decide), if_neg (by decide), if_pos rfl]
        exact spec_j 3 b l hl hv (⟨#[110, 111, 110, 101]⟩ : ByteArray) (by rw [lit4]; omega)
  · rw [decide_eq_false hr]
    refine Ev.ite_neg (by decide) ?_
    unfold endT
    rw [if_neg (by omega), if_neg (by omega), if_neg (by omega), if_neg (by omega)]
    exact Ev.now _
end
end Go.Proofs.YtbihpjngmjkjmaaDoor.Dec
