/- Functions of the program and of the reference as plain functions, and that the Go code comes to their answers; several texts in one. No conditions beyond what each theorem says. -/
import Derived.Test.YtcbpbnkoolpibaaMClean0a
import Derived.Test.YtcbpbnkoolpibaaMClean1a
import Derived.Test.YtcbpbnkoolpibaaMClean0b
import Derived.Test.YtcbpbnkoolpibaaMClean2sa
import Derived.Test.YtcbpbnkoolpibaaMClean0ra
import Derived.Test.YtcbpbnkoolpibaaMClean2qa
import Derived.Test.YtcbpbnkoolpibaaMClean0d
import Derived.Test.YtcbpbnkoolpibaaMClean0xa
import Derived.Test.YtcbpbnkoolpibaaMClean0c
set_option linter.unusedVariables false
set_option linter.unusedSimpArgs false
namespace Go.Proofs.Ytcbpbnkoolpibaa.Gr
open RowKit P YtcbpbnkoolpibaaW.wA YtcbpbnkoolpibaaW.wB Aux
inductive Reach (bs : List S47) : Nat → Prop
  | start : Reach bs 0
  | step {x y : Nat} (h : Reach bs x) (hx : x < bs.length) (hy : (y : Int) ∈ nextL (bs[x]'hx)) : Reach bs y
section
variable (zs : List Int) (p v s : Int) (bs : List S47) (hb : bs.length ≤ 1048576) (hn : ∀ b ∈ bs, ∀ x ∈ nextL b, 0 ≤ x ∧ x < (bs.length : Int))
include hb hn
omit hb in
omit hb hn in
omit hb hn in
omit hb hn in
omit hb hn in
omit hb hn in
theorem getD_set (l : List Int) (i j : Nat) (x : Int) : (l.set i x).getD j 0 = if i = j ∧ j < l.length then x else l.getD j 0 := by
  rw [List.getD_eq_getElem?_getD, List.getD_eq_getElem?_getD, List.getElem?_set]
  by_cases h : i = j
  · subst h
    by_cases h2 : i < l.length
    · simp [h2]
    · simp [h2]
  · simp [h]
omit hb hn in
end
theorem rdBt (xs : List S47) (i : Nat) (h : i < xs.length) : r47 xs (i : Int) = xs[i] := by
  unfold r47
  rw [Int.toNat_natCast, List.getD_eq_getElem?_getD, List.getElem?_eq_getElem h]
  rfl
theorem etaB (b : S47) : (⟨[] ++ b.f0, b.f1, b.f2, b.f3, b.f4⟩ : S47) = b := by cases b; rfl
theorem takeB (bs : List S47) (i : Nat) (h : i < bs.length) : bs.take (i + 1) = bs.take i ++ [bs[i]] := by
  rw [List.take_add_one, List.getElem?_eq_getElem h]
  rfl
theorem copyI_l0 (zs : List Int) (p v s : Int) (bs : List S47) (hb : bs.length ≤ 1048576) (hc : ∀ b ∈ bs, b.f0.length ≤ 4294967296) (d : Nat) : ∀ i : Nat, i + d = bs.length → Ev (fun k => impl_copyGraph.l0 k bs (bs.length : Int) (i : Int) zs p v s (bs.take i)) (zs, p, v, s, bs) := by
  induction d with
  | zero =>
    intro i hi
    obtain rfl : i = bs.length := by omega
    rw [List.take_length]
    exact Ev.step (f := fun _ => some _) (fun k => by rw [impl_copyGraph.l0, if_neg (by omega)]) (Ev.now _)
  | succ d ih =>
    intro i hi
    have hlt : i < bs.length := by omega
    have hw : wrap64 ((i : Int) + 1) = ((i + 1 : Nat) : Int) := by rw [wrap_ok (by omega) (by omega)]; omega
    have h1 := ih (i + 1) (by omega)
    have hl := hc bs[i] (List.getElem_mem hlt)
    rw [takeB bs i hlt] at h1
    exact Ev.step (fun k => by rw [impl_copyGraph.l0, if_pos (by omega), if_pos (by omega), if_pos (by omega), Option.bind_some, rdBt bs i hlt, if_pos (by rw [List.length_nil]; omega), if_pos (by rw [List.length_take]; omega), hw, etaB]) h1
theorem copyI_ev (zs : List Int) (p v s : Int) (bs : List S47) (hz : zs.length ≤ 1048576) (hb : bs.length ≤ 1048576) (hc : ∀ b ∈ bs, b.f0.length ≤ 4294967296) : Ev (fun k => impl_copyGraph.f k zs p v s bs) (zs, p, v, s, bs) := by
  unfold impl_copyGraph.f
  refine Ev.const rfl (Ev.ite_pos (by rw [List.length_nil]; omega) ?_)
  exact copyI_l0 zs p v s bs hb hc bs.length 0 (by omega)
theorem copyS_l0 (zs : List Int) (p v s : Int) (bs : List S47) (hb : bs.length ≤ 1048576) (hc : ∀ b ∈ bs, b.f0.length ≤ 4294967296) (d : Nat) : ∀ i : Nat, i + d = bs.length → Ev (fun k => spec_l04Copy.l0 k (i : Int) zs p v s bs zs p v s (bs.take i)) (zs, p, v, s, bs) := by
  induction d with
  | zero =>
    intro i hi
    obtain rfl : i = bs.length := by omega
    rw [List.take_length]
    exact Ev.step (f := fun _ => some _) (fun k => by rw [spec_l04Copy.l0, if_neg (by omega)]) (Ev.now _)
  | succ d ih =>
    intro i hi
    have hlt : i < bs.length := by omega
    have hw : wrap64 ((i : Int) + 1) = ((i + 1 : Nat) : Int) := by rw [wrap_ok (by omega) (by omega)]; omega
    have h1 := ih (i + 1) (by omega)
    have hl := hc bs[i] (List.getElem_mem hlt)
    rw [takeB bs i hlt] at h1
    exact Ev.step (fun k => by rw [spec_l04Copy.l0, if_pos (by omega), if_pos (by omega), Option.bind_some, rdBt bs i hlt, if_pos (by rw [List.length_nil]; omega), if_pos (by rw [List.length_take]; omega), hw, etaB]) h1
theorem copyS_ev (zs : List Int) (p v s : Int) (bs : List S47) (hz : zs.length ≤ 1048576) (hb : bs.length ≤ 1048576) (hc : ∀ b ∈ bs, b.f0.length ≤ 4294967296) : Ev (fun k => spec_l04Copy.f k zs p v s bs) (zs, p, v, s, bs) := by
  unfold spec_l04Copy.f
  refine Ev.const rfl (Ev.ite_pos (by rw [List.length_nil]; omega) ?_)
  exact copyS_l0 zs p v s bs hb hc bs.length 0 (by omega)
end Go.Proofs.Ytcbpbnkoolpibaa.Gr
