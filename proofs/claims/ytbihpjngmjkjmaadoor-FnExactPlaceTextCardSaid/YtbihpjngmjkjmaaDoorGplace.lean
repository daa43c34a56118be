/- A place's text: the reference's and the program's are one. Conditions: numbers of 64 bits. -/
import Derived.Test.YtbihpjngmjkjmaaDoorGtext
import Derived.Test.YtbihpjngmjkjmaaDoorF12
import Derived.Test.YtbihpjngmjkjmaaDoorF14
namespace Go.Proofs.YtbihpjngmjkjmaaDoor.Dec
open Go.RowKit Go.Proofs.YtbihpjngmjkjmaaDoor.P Go.Proofs.YtbihpjngmjkjmaaDoorW.PrintWords Go.Proofs.YtbihpjngmjkjmaaDoorW.PrintLast Go.Proofs.YtbihpjngmjkjmaaDoor.Aux
set_option linter.unusedVariables false
set_option linter.unusedSimpArgs false
def pc (x : ByteArray) (i : Int) : ByteArray := if i = (-1) then x else x ++ (((⟨#[98]⟩ : ByteArray) ++ dt i) ++ (⟨#[43]⟩ : ByteArray))
theorem pc_size (x : ByteArray) {i : Int} (h : I64 i) : (pc x i).size ≤ x.size + 23 := by
  unfold pc
  have := dt_size h
  split
  · omega
  · simp only [ByteArray.size_append, lit1]
    omega
def fin (x : ByteArray) (d : Int) : ByteArray := (x ++ dt d) ++ (⟨#[93]⟩ : ByteArray)
section
variable (a b c d : Int) (ha : I64 a) (hb : I64 b) (hc : I64 c) (hd : I64 d)
include hd
theorem spec_fin (x : ByteArray) (hx : x.size ≤ 1000) : Ev (fun k => (spec_DecText.f k d).bind fun t => (if x.size + t.size ≤ 9223372036854775807 then (if (x ++ t).size + 1 ≤ 9223372036854775807 then (some ((x ++ t) ++ (⟨#[93]⟩ : ByteArray))) else none) else none)) (fin x d) := by
  have h1 := dt_size hd
  refine Ev.bind (dt_ev hd) (Ev.ite_pos (by omega) (Ev.ite_pos (by simp only [ByteArray.size_append]; omega) (Ev.now _)))
include hc
theorem spec_j0 (x : ByteArray) (hx : x.size ≤ 500) : Ev (fun k => spec_PlaceText.j0 k x a b c d) (fin (pc x c) d) := by
  have h1 := dt_size hc
  have h2 := dt_size hd
  by_cases h : c = (-1)
  · refine Ev.step (fun k => by rw [spec_PlaceText.j0, if_pos h]) ?_
    have : pc x c = x := if_pos h
    rw [this]
    exact Ev.bind (dt_ev hd) (Ev.ite_pos (by omega) (Ev.ite_pos (by simp only [ByteArray.size_append]; omega) (Ev.now _)))
  · refine Ev.step (fun k => by rw [spec_PlaceText.j0, if_neg h]) ?_
    have : pc x c = ((x ++ (⟨#[98]⟩ : ByteArray)) ++ dt c) ++ (⟨#[43]⟩ : ByteArray) := by unfold pc; rw [if_neg h]; simp only [ByteArray.append_assoc]
    rw [this]
    refine Ev.ite_pos (by omega) (Ev.bind (dt_ev hc) (Ev.ite_pos (by simp only [ByteArray.size_append, lit1]; omega) (Ev.ite_pos (by simp only [ByteArray.size_append, lit1]; omega) ?_)))
    exact Ev.bind (dt_ev hd) (Ev.ite_pos (by simp only [ByteArray.size_append, lit1]; omega) (Ev.ite_pos (by simp only [ByteArray.size_append, lit1]; omega) (Ev.now _)))
include ha hb
/-- The text of a place. -/
def plT (a b c d : Int) : ByteArray := if a = (-1) then (⟨#[45]⟩ : ByteArray) else fin (pc (pc (((⟨#[114]⟩ : ByteArray) ++ dt a) ++ (⟨#[91]⟩ : ByteArray)) b) c) d
theorem spec_place : Ev (fun k => spec_PlaceText.f k a b c d) (plT a b c d) := by
  have h1 := dt_size ha
  have h2 := dt_size hb
  unfold spec_PlaceText.f plT
  by_cases h : a = (-1)
  · rw [if_pos h]
    exact Ev.ite_pos h (Ev.now _)
  · rw [if_neg h]
    refine Ev.ite_neg h (Ev.bind (dt_ev ha) (Ev.ite_pos (by omega) (Ev.ite_pos (by simp only [ByteArray.size_append, lit1]; omega) ?_)))
    by_cases hq : b = (-1)
    · have : pc (((⟨#[114]⟩ : ByteArray) ++ dt a) ++ (⟨#[91]⟩ : ByteArray)) b = ((⟨#[114]⟩ : ByteArray) ++ dt a) ++ (⟨#[91]⟩ : ByteArray) := if_pos hq
      rw [this]
      exact Ev.ite_pos hq (spec_j0 a b c d hc hd _ (by simp only [ByteArray.size_append, lit1]; omega))
    · have : pc (((⟨#[114]⟩ : ByteArray) ++ dt a) ++ (⟨#[91]⟩ : ByteArray)) b = (((((⟨#[114]⟩ : ByteArray) ++ dt a) ++ (⟨#[91]⟩ : ByteArray)) ++ (⟨#[98]⟩ : ByteArray)) ++ dt b) ++ (⟨#[43]⟩ : ByteArray) := by unfold pc; rw [if_neg hq]; simp only [ByteArray.append_assoc]
      rw [this]
      refine Ev.ite_neg hq (Ev.ite_pos (by simp only [ByteArray.size_append, lit1]; omega) (Ev.bind (dt_ev hb) (Ev.ite_pos (by simp only [ByteArray.size_append, lit1]; omega) (Ev.ite_pos (by simp only [ByteArray.size_append, lit1]; omega) ?_))))
      exact spec_j0 a b c d hc hd _ (by simp only [ByteArray.size_append, lit1]; omega)
omit ha hb hc in
theorem impl_last (x : ByteArray) (ys : List Int) (n : Int) (hx : x.size ≤ 1000) : Ev (fun k => impl_PlaceText.l0 k x ys n n a b c d) (fin x d) := by
  have h1 := dt_size hd
  refine Ev.step (fun k => by rw [impl_PlaceText.l0, if_neg (by omega)]) ?_
  exact Ev.const (dt_f hd) (Ev.ite_pos (by omega) (Ev.ite_pos (by simp only [ByteArray.size_append]; omega) (Ev.now _)))
omit ha hb hc hd in
theorem impl_round (x : ByteArray) (ys : List Int) (i : Nat) (r : ByteArray) (hi : i < ys.length) (hn : ys.length ≤ 1000) (hv : I64 ys[i]) (hx : x.size ≤ 1000) (h : Ev (fun k => impl_PlaceText.l0 k (pc x ys[i]) ys (ys.length : Int) ((i + 1 : Nat) : Int) a b c d) r) : Ev (fun k => impl_PlaceText.l0 k x ys (ys.length : Int) (i : Int) a b c d) r := by
  have h1 := dt_size hv
  have hr := rd_lt ys i hi
  have hp : (i : Int) < (ys.length : Int) := by omega
  have hq : 0 ≤ (i : Int) := by omega
  have hw : wrap64 ((i : Int) + 1) = ((i + 1 : Nat) : Int) := by rw [wrap_ok (by omega) (by omega)]; omega
  by_cases hm : ys[i] = (-1)
  · have e : pc x ys[i] = x := if_pos hm
    rw [e] at h
    exact Ev.step (fun k => by rw [impl_PlaceText.l0, if_pos hp, if_pos hq, if_pos hp, hr, if_pos hm, hw]) h
  · have e : pc x ys[i] = x ++ (((⟨#[98]⟩ : ByteArray) ++ dt ys[i]) ++ (⟨#[43]⟩ : ByteArray)) := if_neg hm
    rw [e] at h
    have z1 : 1 + (dt ys[i]).size ≤ 9223372036854775807 := by omega
    have z2 : ((⟨#[98]⟩ : ByteArray) ++ dt ys[i]).size + 1 ≤ 9223372036854775807 := by simp only [ByteArray.size_append, lit1]; omega
    have z3 : x.size + (((⟨#[98]⟩ : ByteArray) ++ dt ys[i]) ++ (⟨#[43]⟩ : ByteArray)).size ≤ 9223372036854775807 := by simp only [ByteArray.size_append, lit1]; omega
    refine Ev.step (fun k => by rw [impl_PlaceText.l0, if_pos hp, if_pos hq, if_pos hp, hr, if_neg hm]) ?_
    refine Ev.const (dt_f hv) (Ev.ite_pos z1 (Ev.ite_pos z2 (Ev.ite_pos z3 ?_)))
    rw [hw]
    exact h
theorem impl_place : Ev (fun k => impl_PlaceText.f k a b c d) (plT a b c d) := by
  have h1 := dt_size ha
  have h2 := dt_size hb
  have h3 := dt_size hc
  unfold impl_PlaceText.f plT
  by_cases h : a = (-1)
  · rw [if_pos h]
    exact Ev.ite_pos h (Ev.now _)
  · rw [if_neg h]
    refine Ev.ite_neg h (Ev.const (dt_f ha) (Ev.ite_pos (by omega) (Ev.ite_pos (by simp only [ByteArray.size_append, lit1]; omega) (Ev.const rfl ?_))))
    have s0 : (((⟨#[114]⟩ : ByteArray) ++ dt a) ++ (⟨#[91]⟩ : ByteArray)).size ≤ 23 := by simp only [ByteArray.size_append, lit1]; omega
    have s1 := pc_size (((⟨#[114]⟩ : ByteArray) ++ dt a) ++ (⟨#[91]⟩ : ByteArray)) hb
    have s2 := pc_size (pc (((⟨#[114]⟩ : ByteArray) ++ dt a) ++ (⟨#[91]⟩ : ByteArray)) b) hc
    refine impl_round a b c d _ [b, c] 0 _ (by simp) (by simp) hb (by omega) ?_
    refine impl_round a b c d _ [b, c] 1 _ (by simp) (by simp) hc (by exact Nat.le_trans s1 (by omega)) ?_
    exact impl_last a b c d hd _ [b, c] _ (by exact Nat.le_trans s2 (by omega))
end
end Go.Proofs.YtbihpjngmjkjmaaDoor.Dec
