/- Rows kept ascending against rows sorted at the end: the same, in plain Lean, for what Sets and Touches collect. -/
import Derived.Test.YtjcggilkfofiaaaMSets1a
import Derived.Test.YtjcggilkfofiaaaMSets0ya
import Derived.Test.YtjcggilkfofiaaaMSets0sa
import Derived.Test.YtjcggilkfofiaaaMSetsxGtouch
import Derived.Test.YtjcggilkfofiaaaMSets0xa
namespace Go.Proofs.Ytjcggilkfofiaaa.P
open Go.RowKit Go.Proofs.YtjcggilkfofiaaaW.PrintWords Go.Proofs.YtjcggilkfofiaaaW.PrintLast Go.Proofs.Ytjcggilkfofiaaa.Aux Go.Proofs.Ytjcggilkfofiaaa.Ex
set_option linter.unusedVariables false
theorem mem_fol {α : Type} {step : α → List Int → List Int} {Q : α → Int → Prop} (h : ∀ x s y, y ∈ step x s ↔ y ∈ s ∨ Q x y) : ∀ (l : List α) (s : List Int) (y : Int), y ∈ fol step s l ↔ y ∈ s ∨ ∃ x ∈ l, Q x y
  | [], s, y => by simp [fol]
  | x :: xs, s, y => by
    rw [fol_cons, mem_fol h xs, h]
    constructor
    · rintro ((a | a) | ⟨z, hz, a⟩)
      · exact .inl a
      · exact .inr ⟨x, by simp, a⟩
      · exact .inr ⟨z, by simp [hz], a⟩
    · rintro (a | ⟨z, hz, a⟩)
      · exact .inl (.inl a)
      · rcases List.mem_cons.1 hz with rfl | hz
        · exact .inl (.inr a)
        · exact .inr ⟨z, hz, a⟩
theorem asc_fol {α : Type} {step : α → List Int → List Int} (h : ∀ x s, s.Pairwise (· < ·) → (step x s).Pairwise (· < ·)) : ∀ (l : List α) (s : List Int), s.Pairwise (· < ·) → (fol step s l).Pairwise (· < ·)
  | [], s, hs => hs
  | x :: xs, s, hs => by rw [fol_cons]; exact asc_fol h xs _ (h x s hs)
/-- What is put in where a test holds. -/
def insF {α : Type} (t : α → Int) (j : Int) (v : α → Int) (x : α) (s : List Int) : List Int := if t x = j then addL (v x) s else s
theorem insF_asc {α : Type} (t : α → Int) (j : Int) (v : α → Int) (x : α) (s : List Int) (h : s.Pairwise (· < ·)) : (insF t j v x s).Pairwise (· < ·) := by
  unfold insF
  split
  · exact addL_asc _ _ h
  · exact h
theorem insF_mem {α : Type} (t : α → Int) (j : Int) (v : α → Int) (x : α) (s : List Int) (y : Int) : y ∈ insF t j v x s ↔ y ∈ s ∨ (t x = j ∧ v x = y) := by
  unfold insF
  split
  · rename_i h
    rw [addL_mem]
    constructor
    · rintro (rfl | a)
      · exact .inr ⟨h, rfl⟩
      · exact .inl a
    · rintro (a | ⟨_, rfl⟩)
      · exact .inr a
      · exact .inl rfl
  · rename_i h
    exact ⟨.inl, fun a => a.elim id fun b => absurd b.1 h⟩
theorem insF_len {α : Type} (t : α → Int) (j : Int) (v : α → Int) (x : α) (s : List Int) : (insF t j v x s).length ≤ s.length + 1 := by
  unfold insF
  split
  · exact addL_length _ _
  · omega
theorem app_mem {α : Type} (t : α → Int) (j : Int) (v : α → Int) (x : α) (s : List Int) (y : Int) : (y ∈ if t x = j then s ++ [v x] else s) ↔ y ∈ s ∨ (t x = j ∧ v x = y) := by
  split
  · rename_i h
    rw [List.mem_append, List.mem_singleton]
    exact ⟨fun a => a.elim .inl fun b => .inr ⟨h, b.symm⟩, fun a => a.elim .inl fun b => .inr b.2.symm⟩
  · rename_i h
    exact ⟨.inl, fun a => a.elim id fun b => absurd b.1 h⟩
def insT : S62 → List Int → List Int := insF S62.f0 0 S62.f1
theorem sets_same (l : List S62) : fol insT [] l = ascL (fol stepT [] l) := by
  obtain ⟨g1, g2⟩ := asc_sorted (fol stepT [] l)
  refine asc_one _ _ (asc_fol (insF_asc _ _ _) l [] List.Pairwise.nil) g1 fun y => Iff.trans ?_ (g2 y).symm
  rw [mem_fol (step := insT) (insF_mem S62.f0 0 S62.f1) l [] y, mem_fol (step := stepT) (fun x s y => app_mem S62.f0 0 S62.f1 x s y) l [] y]
end Go.Proofs.Ytjcggilkfofiaaa.P
