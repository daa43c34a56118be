/- Functions of the program and of the reference as plain functions, and that the Go code comes to their answers; several texts in one. No conditions beyond what each theorem says. -/
import Derived.Test.YtbihpjngmjkjmaaDoorMFnLex0a
import Derived.ProofKit
import Derived.OpenShut
namespace Go.Proofs.YtbihpjngmjkjmaaDoor.Opens
open Go.RowKit Go.Proofs.YtbihpjngmjkjmaaDoorW.PrintWords Go.ChangeShapes Go.WideShapes
set_option linter.unusedVariables false
section
variable {H : Type} (enc : TypeId × Value → H) (P : Program) (w : World)
/-- What is read as_ data of type t is of kind k, and its value has the property q: at fuel n. -/
def OpensN (n : Nat) {α : Type} (t : TypeId) (k : Kd α) (q : α → Prop) : Prop :=
  ∀ (cs : List Value) (x : DataW H × List MemPlace), DataW.trod enc P w 0 (fun _ => true) true n t cs = some x → ∃ a, k.K w a cs ∧ q a
variable {enc P w}
theorem opens_none {α : Type} {t : TypeId} {k : Kd α} {q : α → Prop} : OpensN enc P w 0 t k q := fun cs x h => by simp [DataW.trod] at h
theorem opens_int {n : Nat} {t : TypeId} {k : IntKind} (ht : P.underlying t = some (.int k)) : OpensN enc P w n t (Kd.int k) (fun i => (Lit.int k i).wf = true) := by
  intro cs x h
  obtain ⟨i, rfl, _, hw⟩ := DataW.trod_int ht h
  exact ⟨i, rfl, hw⟩
/-- From data read element by element to a row. -/
theorem opens_row {n : Nat} {α : Type} {e : TypeId} {k : Kd α} {q : α → Prop} (hsz : P.cellsOf e = k.sz) (h : OpensN enc P w n e k q) (a : Addr) (len : Nat) (hm : len ≤ maxLen) (elems : List (DataW H × List MemPlace)) (hl : elems.length = len)
    (hget : ∀ i, i < len → (w.cells? 0 (a.add (i * P.cellsOf e)) (P.cellsOf e)).bind (DataW.trod enc P w 0 (fun _ => true) true n e) = elems[i]?) :
    ∃ xs : List α, xs.length = len ∧ k.C w (some a) xs.length xs ∧ ∀ x ∈ xs, q x := by
  have hex : ∀ i : Fin len, ∃ (x : α) (c : List Value), c.length = k.sz ∧ k.K w x c ∧ q x ∧ ∀ j u, c[j]? = some u → w.cell? (a.add (i.val * k.sz + j)) = some u := by
    intro i
    have hi := hget i.val i.isLt
    rw [List.getElem?_eq_getElem (by omega)] at hi
    obtain ⟨c, hc, hd⟩ := Option.bind_eq_some_iff.1 hi
    obtain ⟨x, hx, hqx⟩ := h c _ hd
    refine ⟨x, c, k.K_len hx, hx, hqx, fun j u hj => ?_⟩
    have hcell := (World.cells?_some hc).2.2 j (by rw [hsz, ← k.K_len hx]; exact (List.getElem?_eq_some_iff.1 hj).1)
    have ha : (a.add (i.val * k.sz)).add j = a.add (i.val * k.sz + j) := by
      unfold Addr.add
      by_cases h1 : i.val * k.sz = 0 <;> by_cases h2 : j = 0 <;> simp [h1, h2, Nat.add_assoc]
    rw [← ha, ← hsz]
    exact hcell.trans hj
  refine ⟨List.ofFn fun i => (hex i).choose, by simp, ⟨by simp, by simpa [maxLen] using hm, fun _ => ⟨a, rfl, fun j p hj => ?_⟩⟩, fun x hx => ?_⟩
  · rw [List.getElem?_ofFn] at hj
    split at hj
    · rename_i hlt
      obtain rfl := Option.some.inj hj
      obtain ⟨c, h1, h2, _, h4⟩ := (hex ⟨j, hlt⟩).choose_spec
      exact ⟨c, h1, h2, h4⟩
    · cases hj
  · obtain ⟨i, rfl⟩ := List.mem_ofFn.1 hx
    obtain ⟨c, _, _, h3, _⟩ := (hex i).choose_spec
    exact h3
/-- A slice's length is at most maxLen, and its elements have the property. -/
theorem opens_slice {n : Nat} {α : Type} {t e : TypeId} {k : Kd α} {q : α → Prop} (ht : P.underlying t = some (.slice e)) (hsz : P.cellsOf e = k.sz) (h : OpensN enc P w n e k q) :
    OpensN enc P w (n + 1) t (Kd.slice e k) (fun xs => xs.length ≤ maxLen ∧ ∀ x ∈ xs, q x) := by
  intro cs x hx
  rcases DataW.trod_slice ht hx with ⟨rfl, _⟩ | ⟨a, len, cap, elems, rest, m, hm, rfl, _, _, hl, hc, he, hget, _⟩
  · exact ⟨[], ⟨none, 0, rfl, Nat.le_refl _, Kd.C_nil k w⟩, by simp, fun x hx => by cases hx⟩
  · obtain rfl : n = m := by omega
    obtain ⟨xs, hxl, hC, hq⟩ := opens_row hsz h a len (by omega) elems he hget
    exact ⟨xs, ⟨some a, cap, by rw [hxl], by omega, hC⟩, by omega, hq⟩
/-- For every fuel, out of one step more than every fuel. -/
theorem opens_up {α : Type} {t : TypeId} {k : Kd α} {q : α → Prop} (h : ∀ n, OpensN enc P w (n + 1) t k q) : ∀ n, OpensN enc P w n t k q
  | 0 => opens_none
  | n + 1 => h n
end
end Go.Proofs.YtbihpjngmjkjmaaDoor.Opens
namespace Go.Proofs.YtbihpjngmjkjmaaDoor.Opens
open Go.RowKit Go.Proofs.YtbihpjngmjkjmaaDoorW.PrintWords Go.Proofs.YtbihpjngmjkjmaaDoor.P
set_option linter.unusedVariables false
end Go.Proofs.YtbihpjngmjkjmaaDoor.Opens
