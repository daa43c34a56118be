/- From a value that reads as data of a type to the cells and rows that a printed contract asks for: whole numbers, bools, strings, slices, structs. No condition but the reading. -/
import Derived.Test.YtbihpjngmjkjmaaDoorWWords
import Derived.ProofKit
import Derived.OpenShut
namespace Go.Proofs.YtbihpjngmjkjmaaDoor.Opens
open Go.RowKit Go.Proofs.YtbihpjngmjkjmaaDoorW.PrintWords Go.ChangeShapes Go.WideShapes
set_option linter.unusedVariables false
section
variable {H : Type} (enc : TypeId × Value → H) (P : Program) (w : World)
/-- What is read as data of type t is of kind k, and its value has the property q: at fuel n. -/
def OpensN (n : Nat) {α : Type} (t : TypeId) (k : Kd α) (q : α → Prop) : Prop :=
  ∀ (cs : List Value) (x : DataW H × List MemPlace), DataW.trod enc P w 0 (fun _ => true) true n t cs = some x → ∃ a, k.K w a cs ∧ q a
/-- The same of fields, from a place among the cells on. -/
def OpensF (n : Nat) {α : Type} (fs : List Field) (off total : Nat) (k : Kd α) (q : α → Prop) : Prop :=
  ∀ cs : List Value, cs.length = total → (∀ f, f ∈ fs → ∃ x, DataW.trod enc P w 0 (fun _ => true) true n f.type ((cs.drop f.offset).take (P.cellsOf f.type)) = some x) → ∃ a, k.K w a (cs.drop off) ∧ q a
variable {enc P w}
theorem opens_none {α : Type} {t : TypeId} {k : Kd α} {q : α → Prop} : OpensN enc P w 0 t k q := fun cs x h => by simp [DataW.trod] at h
theorem opens_int {n : Nat} {t : TypeId} {k : IntKind} (ht : P.underlying t = some (.int k)) : OpensN enc P w n t (Kd.int k) (fun i => (Lit.int k i).wf = true) := by
  intro cs x h
  obtain ⟨i, rfl, _, hw⟩ := DataW.trod_int ht h
  exact ⟨i, rfl, hw⟩
theorem opens_string {n : Nat} {t : TypeId} (ht : P.underlying t = some .string) : OpensN enc P w n t Kd.string (fun s => s.size ≤ maxLen) := by
  intro cs x h
  obtain ⟨s, rfl, _, hw⟩ := DataW.trod_string ht h
  exact ⟨s, rfl, hw⟩
theorem opens_bool {n : Nat} {t : TypeId} (ht : P.underlying t = some .bool) : OpensN enc P w n t Kd.bool (fun _ => True) := by
  intro cs x h
  obtain ⟨s, rfl, _⟩ := DataW.trod_bool ht h
  exact ⟨s, rfl, trivial⟩
theorem opensF_one {n : Nat} {α : Type} {f : Field} {k : Kd α} {q : α → Prop} {off total : Nat} (ho : f.offset = off) (ht : off + P.cellsOf f.type = total) (h : OpensN enc P w n f.type k q) : OpensF enc P w n [f] off total k q := by
  intro cs hl hx
  obtain ⟨x, hx⟩ := hx f (List.mem_singleton.2 rfl)
  rw [ho, List.take_of_length_le (by rw [List.length_drop]; omega)] at hx
  exact h _ x hx
theorem opensF_cons {n : Nat} {α β : Type} {f : Field} {fs : List Field} {k : Kd α} {k' : Kd β} {q : α → Prop} {q' : β → Prop} {off off' total : Nat} (ho : f.offset = off) (ho' : off + P.cellsOf f.type = off') (h : OpensN enc P w n f.type k q)
    (h' : OpensF enc P w n fs off' total k' q') : OpensF enc P w n (f :: fs) off total (Kd.pair k k') (fun p => q p.1 ∧ q' p.2) := by
  intro cs hl hx
  obtain ⟨x, hx0⟩ := hx f List.mem_cons_self
  rw [ho] at hx0
  obtain ⟨a, ha, hqa⟩ := h _ x hx0
  obtain ⟨b, hb, hqb⟩ := h' cs hl (fun g hg => hx g (List.mem_cons_of_mem _ hg))
  refine ⟨(a, b), ⟨_, _, ?_, ha, hb⟩, hqa, hqb⟩
  rw [← ho', ← List.drop_drop, List.take_append_drop]
theorem opens_fields {n : Nat} {α : Type} {t : TypeId} {fs : Array Field} {k : Kd α} {q : α → Prop} {total : Nat} (ht : P.underlying t = some (.struct fs)) (hc : P.cellsOf t = total)
    (h : OpensF enc P w n fs.toList 0 total k q) : OpensN enc P w (n + 1) t k q := by
  intro cs x hx
  obtain ⟨xs, m, hm, _, hl, hs, hget⟩ := DataW.trod_struct ht hx
  obtain rfl : n = m := by omega
  obtain ⟨a, ha, hq⟩ := h cs (by omega) (fun fd hfd => by
    obtain ⟨i, hi⟩ := List.getElem?_of_mem hfd
    have hi' : fs[i]? = some fd := by simpa using hi
    have hlt : i < xs.length := by rw [hs]; exact (Array.getElem?_eq_some_iff.1 hi').1
    exact ⟨xs[i], by rw [hget i fd hi']; simp [hlt]⟩)
  rw [List.drop_zero] at ha
  exact ⟨a, ha, hq⟩
theorem opens_iso {n : Nat} {α β : Type} {t : TypeId} {k : Kd α} {q : α → Prop} (f : β → α) (g : α → β) (hfg : ∀ a, f (g a) = a) (h : OpensN enc P w n t k q) : OpensN enc P w n t (Kd.iso k f) (fun b => q (f b)) := by
  intro cs x hx
  obtain ⟨a, ha, hq⟩ := h cs x hx
  exact ⟨g a, by show k.K w (f (g a)) cs; rw [hfg]; exact ha, by show q (f (g a)); rw [hfg]; exact hq⟩
/-- From data read element by element to a row. -/
theorem opens_row {n : Nat} {α : Type} {e : TypeId} {k : Kd α} {q : α → Prop} (hsz : P.cellsOf e = k.sz) (h : OpensN enc P w n e k q) (a : Addr) (len : Nat) (hm : len ≤ maxLen) (elems : List (DataW H × List MemPlace)) (hl : elems.length = len)
    (hget : ∀ i, i < len → (w.cells? 0 (a.add (i * P.cellsOf e)) (P.cellsOf e)).bind (DataW.trod enc P w 0 (fun _ => true) true n e) = elems[i]?) :
    ∃ xs : List α, xs.length = len ∧ k.C w (some a) xs.length xs ∧ ∀ x ∈ xs, q x := by
  have hex : ∀ i : Fin len, ∃ (x : α) (c : List Value), c.length = k.sz ∧ k.K w x c ∧ q x ∧ ∀ j u, c[j]? = some u → w.cell? (a.add (i.val * k.sz + j)) = some u := by
    intro i
    have hi := hget i.val i.isLt
    rw [List.getElem?_eq_getElem (by omega)] at hi
    obtain ⟨c, hc, hd⟩ := Option.bind_eq_some_iff.1 hi
    obtain ⟨x, hx, hqx⟩ := h c _ hd
    refine ⟨x, c, k.K_len hx, hx, hqx, fun j u hj => ?_⟩
    have hcell := (World.cells?_some hc).2.2 j (by rw [hsz, ← k.K_len hx]; exact (List.getElem?_eq_some_iff.1 hj).1)
    have ha : (a.add (i.val * k.sz)).add j = a.add (i.val * k.sz + j) := by
      unfold Addr.add
      by_cases h1 : i.val * k.sz = 0 <;> by_cases h2 : j = 0 <;> simp [h1, h2, Nat.add_assoc]
    rw [← ha, ← hsz]
    exact hcell.trans hj
  refine ⟨List.ofFn fun i => (hex i).choose, by simp, ⟨by simp, by simpa [maxLen] using hm, fun _ => ⟨a, rfl, fun j p hj => ?_⟩⟩, fun x hx => ?_⟩
  · rw [List.getElem?_ofFn] at hj
    split at hj
    · rename_i hlt
      obtain rfl := Option.some.inj hj
      obtain ⟨c, h1, h2, _, h4⟩ := (hex ⟨j, hlt⟩).choose_spec
      exact ⟨c, h1, h2, h4⟩
    · cases hj
  · obtain ⟨i, rfl⟩ := List.mem_ofFn.1 hx
    obtain ⟨c, _, _, h3, _⟩ := (hex i).choose_spec
    exact h3
/-- A slice's length is at most maxLen, and its elements have the property. -/
theorem opens_slice {n : Nat} {α : Type} {t e : TypeId} {k : Kd α} {q : α → Prop} (ht : P.underlying t = some (.slice e)) (hsz : P.cellsOf e = k.sz) (h : OpensN enc P w n e k q) :
    OpensN enc P w (n + 1) t (Kd.slice e k) (fun xs => xs.length ≤ maxLen ∧ ∀ x ∈ xs, q x) := by
  intro cs x hx
  rcases DataW.trod_slice ht hx with ⟨rfl, _⟩ | ⟨a, len, cap, elems, rest, m, hm, rfl, _, _, hl, hc, he, hget, _⟩
  · exact ⟨[], ⟨none, 0, rfl, Nat.le_refl _, Kd.C_nil k w⟩, by simp, fun x hx => by cases hx⟩
  · obtain rfl : n = m := by omega
    obtain ⟨xs, hxl, hC, hq⟩ := opens_row hsz h a len (by omega) elems he hget
    exact ⟨xs, ⟨some a, cap, by rw [hxl], by omega, hC⟩, by omega, hq⟩
/-- For every fuel, out of one step more than every fuel. -/
theorem opens_up {α : Type} {t : TypeId} {k : Kd α} {q : α → Prop} (h : ∀ n, OpensN enc P w (n + 1) t k q) : ∀ n, OpensN enc P w n t k q
  | 0 => opens_none
  | n + 1 => h n
/-- A struct that came in by value. -/
theorem open_agg {r : Reach} {b0 : Nat} {α : Type} {t : TypeId} {fs : Array Field} {k : Kd α} {q : α → Prop} {v : Value} {d : DataW H} {p : List MemPlace} (ht : P.underlying t = some (.struct fs)) (ho : ∀ n, OpensN enc P w n t k q)
    (hv : Value.okWide P w r b0 t v) (h : DataW.Trod enc P w 0 (fun _ => true) true t v d p) : ∃ a cs, v = .agg (List.toArray cs) ∧ k.K w a cs ∧ q a := by
  obtain ⟨cs, rfl, _⟩ := okWide_struct ht hv
  obtain ⟨fuel, hf⟩ := h
  obtain ⟨a, ha, hq⟩ := ho fuel _ _ hf
  exact ⟨a, cs.toList, by simp, by simpa [Value.cells] using ha, hq⟩
end
end Go.Proofs.YtbihpjngmjkjmaaDoor.Opens
