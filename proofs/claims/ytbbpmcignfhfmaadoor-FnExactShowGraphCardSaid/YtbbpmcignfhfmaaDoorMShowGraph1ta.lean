/- A step's text: the reference's and the program's are one. Conditions: numbers of 64 bits, a text that is not too long. -/
import Derived.Test.YtbbpmcignfhfmaaDoorMShowGraph0ta
import Derived.Test.YtbbpmcignfhfmaaDoorMShowGraphxF17
import Derived.Test.YtbbpmcignfhfmaaDoorMShowGraphxF21
namespace Go.Proofs.YtbbpmcignfhfmaaDoor.Dec
open Go.RowKit Go.Proofs.YtbbpmcignfhfmaaDoor.P Go.Proofs.YtbbpmcignfhfmaaDoorW.PrintWords Go.Proofs.YtbbpmcignfhfmaaDoorW.PrintLast Go.Proofs.YtbbpmcignfhfmaaDoor.Aux
set_option linter.unusedVariables false
set_option linter.unusedSimpArgs false
theorem lit5 (a b c d e : UInt8) : (⟨#[a, b, c, d, e]⟩ : ByteArray).size = 5 := rfl
def slT (x : Int) : ByteArray := (⟨#[115]⟩ : ByteArray) ++ dt x
theorem slT_size {x : Int} (h : I64 x) : (slT x).size ≤ 22 := by
  have := dt_size h
  unfold slT
  simp only [ByteArray.size_append, lit1]
  omega
theorem slot_f {x : Int} (h : I64 x) : impl_slot.f x = some (slT x) := by
  have := dt_size h
  unfold impl_slot.f
  rw [dt_f h, Option.bind_some, if_pos (by omega)]
  rfl
/-- A place in memory. -/
def atT (a b n : Int) : ByteArray := if a ≥ 0 then ((((((((⟨#[114]⟩ : ByteArray) ++ dt n) ++ (⟨#[91]⟩ : ByteArray)) ++ (⟨#[115]⟩ : ByteArray)) ++ dt a) ++ (⟨#[43]⟩ : ByteArray)) ++ (⟨#[115]⟩ : ByteArray)) ++ dt b) ++ (⟨#[93]⟩ : ByteArray) else ((((⟨#[114]⟩ : ByteArray) ++ dt n) ++ (⟨#[91]⟩ : ByteArray)) ++ (⟨#[115]⟩ : ByteArray)) ++ dt b ++ (⟨#[93]⟩ : ByteArray)
theorem atT_size {a b n : Int} (ha : I64 a) (hb : I64 b) (hn : I64 n) : (atT a b n).size ≤ 70 := by
  have h1 := dt_size ha
  have h2 := dt_size hb
  have h3 := dt_size hn
  unfold atT
  split <;> simp only [ByteArray.size_append, lit1] <;> omega
def insT (o d a b c n : Int) (t : ByteArray) : ByteArray :=
  if o = 0 then (((⟨#[115]⟩ : ByteArray) ++ dt d) ++ (⟨#[32, 61, 32]⟩ : ByteArray)) ++ dt n
  else if o = 1 then ((((⟨#[115]⟩ : ByteArray) ++ dt d) ++ (⟨#[32, 61, 32]⟩ : ByteArray)) ++ (⟨#[115]⟩ : ByteArray)) ++ dt a
  else if o = 2 then (((((((⟨#[115]⟩ : ByteArray) ++ dt d) ++ (⟨#[32, 61, 32]⟩ : ByteArray)) ++ (⟨#[115]⟩ : ByteArray)) ++ dt a) ++ (⟨#[32]⟩ : ByteArray)) ++ t) ++ (⟨#[32, 115]⟩ : ByteArray) ++ dt b
  else if o = 3 then (((⟨#[115]⟩ : ByteArray) ++ dt d) ++ (⟨#[32, 61, 32]⟩ : ByteArray)) ++ atT a b n
  else if o = 4 then (atT a b n ++ (⟨#[32, 61, 32, 115]⟩ : ByteArray)) ++ dt c
  else if o = 5 then (((⟨#[115]⟩ : ByteArray) ++ dt d) ++ (⟨#[32, 61, 32]⟩ : ByteArray)) ++ (⟨#[103, 101, 116]⟩ : ByteArray)
  else (⟨#[112, 117, 116, 32, 115]⟩ : ByteArray) ++ dt a
section
variable {o d a b c n : Int} {t : ByteArray} (hd : I64 d) (ha : I64 a) (hb : I64 b) (hc : I64 c) (hn : I64 n) (ht : t.size ≤ 4294967296)
include hd ha hb hc hn ht
theorem insT_size : (insT o d a b c n t).size ≤ t.size + 200 := by
  have h1 := dt_size ha
  have h2 := dt_size hb
  have h3 := dt_size hn
  have h4 := dt_size hc
  have h5 := dt_size hd
  have h6 := atT_size ha hb hn
  unfold insT
  repeat' split
  all_goals simp only [ByteArray.size_append, lit1, lit2, lit3, lit4, lit5]
  all_goals omega
omit hd hc ht in
theorem at_ev : Ev (fun k => spec_l04At.f k o d a b c n t) (atT a b n) := by
  have h1 := dt_size ha
  have h2 := dt_size hb
  have h3 := dt_size hn
  unfold spec_l04At.f atT
  refine Ev.bind (dt_ev hn) (Ev.ite_pos (by omega) (Ev.ite_pos (by simp only [ByteArray.size_append, lit1]; omega) ?_))
  by_cases h : a ≥ 0
  · rw [if_pos h]
    refine Ev.ite_pos h (Ev.ite_pos (by simp only [ByteArray.size_append, lit1]; omega) (Ev.bind (dt_ev ha) (Ev.ite_pos (by simp only [ByteArray.size_append, lit1]; omega) (Ev.ite_pos (by simp only [ByteArray.size_append, lit1]; omega) (Ev.ite_pos (by simp only [ByteArray.size_append, lit1]; omega) ?_)))))
    exact Ev.bind (dt_ev hb) (Ev.ite_pos (by simp only [ByteArray.size_append, lit1]; omega) (Ev.ite_pos (by simp only [ByteArray.size_append, lit1]; omega) (Ev.now _)))
  · rw [if_neg h]
    refine Ev.ite_neg h (Ev.ite_pos (by simp only [ByteArray.size_append, lit1]; omega) ?_)
    exact Ev.bind (dt_ev hb) (Ev.ite_pos (by simp only [ByteArray.size_append, lit1]; omega) (Ev.ite_pos (by simp only [ByteArray.size_append, lit1]; omega) (Ev.now _)))
theorem text_ev : Ev (fun k => spec_l04Text.f k o d a b c n t) (insT o d a b c n t) := by
  have h1 := dt_size ha
  have h2 := dt_size hb
  have h3 := dt_size hn
  have h4 := dt_size hc
  have h5 := dt_size hd
  have h6 := atT_size ha hb hn
  unfold spec_l04Text.f insT
  refine Ev.bind (dt_ev hd) (Ev.ite_pos (by omega) (Ev.ite_pos (by simp only [ByteArray.size_append, lit1]; omega) ?_))
  by_cases h : o = 0
  · rw [if_pos h]
    exact Ev.ite_pos h (Ev.bind (dt_ev hn) (Ev.ite_pos (by simp only [ByteArray.size_append, lit1, lit3]; omega) (Ev.now _)))
  rw [if_neg h]
  refine Ev.ite_neg h ?_
  clear h
  by_cases h : o = 1
  · rw [if_pos h]
    exact Ev.ite_pos h (Ev.ite_pos (by simp only [ByteArray.size_append, lit1, lit3]; omega) (Ev.bind (dt_ev ha) (Ev.ite_pos (by simp only [ByteArray.size_append, lit1, lit3]; omega) (Ev.now _))))
  rw [if_neg h]
  refine Ev.ite_neg h ?_
  clear h
  by_cases h : o = 2
  · rw [if_pos h]
    refine Ev.ite_pos h (Ev.ite_pos (by simp only [ByteArray.size_append, lit1, lit3]; omega) (Ev.bind (dt_ev ha) (Ev.ite_pos (by simp only [ByteArray.size_append, lit1, lit3]; omega) (Ev.ite_pos (by simp only [ByteArray.size_append, lit1, lit3]; omega) (Ev.ite_pos (by simp only [ByteArray.size_append, lit1, lit3]; omega) (Ev.ite_pos (by simp only [ByteArray.size_append, lit1, lit3]; omega) ?_))))))
    exact Ev.bind (dt_ev hb) (Ev.ite_pos (by simp only [ByteArray.size_append, lit1, lit2, lit3]; omega) (Ev.now _))
  rw [if_neg h]
  refine Ev.ite_neg h ?_
  clear h
  by_cases h : o = 3
  · rw [if_pos h]
    exact Ev.ite_pos h (Ev.bind (at_ev ha hb hn) (Ev.ite_pos (by simp only [ByteArray.size_append, lit1, lit3]; omega) (Ev.now _)))
  rw [if_neg h]
  refine Ev.ite_neg h ?_
  clear h
  by_cases h : o = 4
  · rw [if_pos h]
    exact Ev.ite_pos h (Ev.bind (at_ev ha hb hn) (Ev.ite_pos (by omega) (Ev.bind (dt_ev hc) (Ev.ite_pos (by simp only [ByteArray.size_append, lit4]; omega) (Ev.now _)))))
  rw [if_neg h]
  refine Ev.ite_neg h ?_
  clear h
  by_cases h : o = 5
  · rw [if_pos h]
    exact Ev.ite_pos h (Ev.ite_pos (by simp only [ByteArray.size_append, lit1, lit3]; omega) (Ev.now _))
  rw [if_neg h]
  refine Ev.ite_neg h ?_
  exact Ev.bind (dt_ev ha) (Ev.ite_pos (by omega) (Ev.now _))
/-- The place as_ the program puts it together. -/
def tail2 (a b : Int) : ByteArray := if a ≥ 0 then (slT a ++ (⟨#[43]⟩ : ByteArray)) ++ (slT b ++ (⟨#[93]⟩ : ByteArray)) else slT b ++ (⟨#[93]⟩ : ByteArray)
omit hd ha hb hc hn ht in
theorem tail2_at (a b n : Int) : (((⟨#[114]⟩ : ByteArray) ++ dt n) ++ (⟨#[91]⟩ : ByteArray)) ++ tail2 a b = atT a b n := by
  unfold tail2 atT slT
  split <;> simp only [ByteArray.append_assoc]
omit hd hc hn ht in
theorem tail2_size : (tail2 a b).size ≤ 46 := by
  have h1 := slT_size ha
  have h2 := slT_size hb
  unfold tail2
  split <;> simp only [ByteArray.size_append, lit1] <;> omega
theorem show_j0 : Ev (fun k => impl_showInstr.j0 k (tail2 a b) o d a b c n t) (insT o d a b c n t) := by
  have h1 := slT_size ha
  have h2 := slT_size hb
  have h3 := dt_size hn
  have h4 := slT_size hc
  have h5 := slT_size hd
  have h6 := atT_size ha hb hn
  have h7 := tail2_size ha hb
  have e := tail2_at a b n
  refine Ev.step (fun k => by rw [impl_showInstr.j0]) ?_
  refine Ev.const (dt_f hn) (Ev.ite_pos (by omega) (Ev.ite_pos (by simp only [ByteArray.size_append, lit1]; omega) (Ev.ite_pos (by simp only [ByteArray.size_append, lit1]; omega) ?_)))
  simp only [e]
  unfold insT
  by_cases h : o = 0
  · rw [if_pos h, if_pos h]
    exact (Ev.const (slot_f hd) (Ev.ite_pos (by omega) (Ev.const (dt_f hn) (Ev.ite_pos (by simp only [ByteArray.size_append, lit3]; omega) (Ev.now _)))))
  rw [if_neg h, if_neg h]
  clear h
  by_cases h : o = 1
  · rw [if_pos h, if_pos h]
    refine (Ev.const (slot_f hd) (Ev.ite_pos (by omega) (Ev.const (slot_f ha) (Ev.ite_pos (by simp only [ByteArray.size_append, lit3]; omega) ?_))))
    have : (slT d ++ (⟨#[32, 61, 32]⟩ : ByteArray)) ++ slT a = ((((⟨#[115]⟩ : ByteArray) ++ dt d) ++ (⟨#[32, 61, 32]⟩ : ByteArray)) ++ (⟨#[115]⟩ : ByteArray)) ++ dt a := by unfold slT; simp only [ByteArray.append_assoc]
    rw [this]
    exact Ev.now _
  rw [if_neg h, if_neg h]
  clear h
  by_cases h : o = 2
  · rw [if_pos h, if_pos h]
    refine (Ev.const (slot_f hd) (Ev.ite_pos (by omega) (Ev.const (slot_f ha) (Ev.ite_pos (by simp only [ByteArray.size_append, lit3]; omega) (Ev.ite_pos (by simp only [ByteArray.size_append, lit1, lit3]; omega) (Ev.ite_pos (by simp only [ByteArray.size_append, lit1, lit3]; omega) (Ev.ite_pos (by simp only [ByteArray.size_append, lit1, lit3]; omega) (Ev.const (slot_f hb) (Ev.ite_pos (by simp only [ByteArray.size_append, lit1, lit3]; omega) ?_)))))))))
    have : ((((slT d ++ (⟨#[32, 61, 32]⟩ : ByteArray)) ++ slT a) ++ (⟨#[32]⟩ : ByteArray)) ++ t) ++ (⟨#[32]⟩ : ByteArray) ++ slT b = (((((((⟨#[115]⟩ : ByteArray) ++ dt d) ++ (⟨#[32, 61, 32]⟩ : ByteArray)) ++ (⟨#[115]⟩ : ByteArray)) ++ dt a) ++ (⟨#[32]⟩ : ByteArray)) ++ t) ++ (⟨#[32, 115]⟩ : ByteArray) ++ dt b := by
      have e2 : (⟨#[32, 115]⟩ : ByteArray) = (⟨#[32]⟩ : ByteArray) ++ (⟨#[115]⟩ : ByteArray) := rfl
      rw [e2]
      unfold slT
      simp only [ByteArray.append_assoc]
    rw [this]
    exact Ev.now _
  rw [if_neg h, if_neg h]
  clear h
  by_cases h : o = 3
  · rw [if_pos h, if_pos h]
    exact (Ev.const (slot_f hd) (Ev.ite_pos (by omega) (Ev.ite_pos (by simp only [ByteArray.size_append, lit3]; omega) (Ev.now _))))
  rw [if_neg h, if_neg h]
  clear h
  by_cases h : o = 4
  · rw [if_pos h, if_pos h]
    refine (Ev.ite_pos (by omega) (Ev.const (slot_f hc) (Ev.ite_pos (by simp only [ByteArray.size_append, lit3]; omega) ?_)))
    have : (atT a b n ++ (⟨#[32, 61, 32]⟩ : ByteArray)) ++ slT c = (atT a b n ++ (⟨#[32, 61, 32, 115]⟩ : ByteArray)) ++ dt c := by
      have e2 : (⟨#[32, 61, 32, 115]⟩ : ByteArray) = (⟨#[32, 61, 32]⟩ : ByteArray) ++ (⟨#[115]⟩ : ByteArray) := rfl
      rw [e2]
      unfold slT
      simp only [ByteArray.append_assoc]
    rw [this]
    exact Ev.now _
  rw [if_neg h, if_neg h]
  clear h
  by_cases h : o = 5
  · rw [if_pos h, if_pos h]
    refine (Ev.const (slot_f hd) (Ev.ite_pos (by omega) ?_))
    have : slT d ++ (⟨#[32, 61, 32, 103, 101, 116]⟩ : ByteArray) = (((⟨#[115]⟩ : ByteArray) ++ dt d) ++ (⟨#[32, 61, 32]⟩ : ByteArray)) ++ (⟨#[103, 101, 116]⟩ : ByteArray) := by
      have e2 : (⟨#[32, 61, 32, 103, 101, 116]⟩ : ByteArray) = (⟨#[32, 61, 32]⟩ : ByteArray) ++ (⟨#[103, 101, 116]⟩ : ByteArray) := rfl
      rw [e2]
      unfold slT
      simp only [ByteArray.append_assoc]
    rw [this]
    exact Ev.now _
  rw [if_neg h, if_neg h]
  refine Ev.const (slot_f ha) (Ev.ite_pos (by omega) ?_)
  have : (⟨#[112, 117, 116, 32]⟩ : ByteArray) ++ slT a = (⟨#[112, 117, 116, 32, 115]⟩ : ByteArray) ++ dt a := by
    have e2 : (⟨#[112, 117, 116, 32, 115]⟩ : ByteArray) = (⟨#[112, 117, 116, 32]⟩ : ByteArray) ++ (⟨#[115]⟩ : ByteArray) := rfl
    rw [e2]
    unfold slT
    simp only [ByteArray.append_assoc]
  rw [this]
  exact Ev.now _
theorem show_ev : Ev (fun k => impl_showInstr.f k o d a b c n t) (insT o d a b c n t) := by
  have h1 := slT_size ha
  have h2 := slT_size hb
  have hj := show_j0 (o := o) hd ha hb hc hn ht
  unfold impl_showInstr.f
  refine Ev.const (slot_f hb) (Ev.ite_pos (by omega) ?_)
  by_cases h : a ≥ 0
  · have e : tail2 a b = (slT a ++ (⟨#[43]⟩ : ByteArray)) ++ (slT b ++ (⟨#[93]⟩ : ByteArray)) := if_pos h
    rw [e] at hj
    exact Ev.ite_pos h (Ev.const (slot_f ha) (Ev.ite_pos (by omega) (Ev.ite_pos (by simp only [ByteArray.size_append, lit1]; omega) hj)))
  · have e : tail2 a b = slT b ++ (⟨#[93]⟩ : ByteArray) := if_neg h
    rw [e] at hj
    exact Ev.ite_neg h hj
end
end Go.Proofs.YtbbpmcignfhfmaaDoor.Dec
