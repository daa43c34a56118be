/- Rows kept ascending against rows sorted at the end: the same, in plain Lean, for what Sets and Touches collect. -/
import Derived.Test.YtjcggilkfofiaaaMTouches1a
import Derived.Test.YtjcggilkfofiaaaMTouches0ya
import Derived.Test.YtjcggilkfofiaaaMTouches0sa
import Derived.Test.YtjcggilkfofiaaaMTouchesxGtouch
import Derived.Test.YtjcggilkfofiaaaMTouches0xa
namespace Go.Proofs.Ytjcggilkfofiaaa.P
open Go.RowKit Go.Proofs.YtjcggilkfofiaaaW.PrintWords Go.Proofs.YtjcggilkfofiaaaW.PrintLast Go.Proofs.Ytjcggilkfofiaaa.Aux Go.Proofs.Ytjcggilkfofiaaa.Ex
set_option linter.unusedVariables false
theorem mem_fol {α : Type} {step : α → List Int → List Int} {Q : α → Int → Prop} (h : ∀ x s y, y ∈ step x s ↔ y ∈ s ∨ Q x y) : ∀ (l : List α) (s : List Int) (y : Int), y ∈ fol step s l ↔ y ∈ s ∨ ∃ x ∈ l, Q x y
  | [], s, y => by simp [fol]
  | x :: xs, s, y => by
    rw [fol_cons, mem_fol h xs, h]
    constructor
    · rintro ((a | a) | ⟨z, hz, a⟩)
      · exact .inl a
      · exact .inr ⟨x, by simp, a⟩
      · exact .inr ⟨z, by simp [hz], a⟩
    · rintro (a | ⟨z, hz, a⟩)
      · exact .inl (.inl a)
      · rcases List.mem_cons.1 hz with rfl | hz
        · exact .inl (.inr a)
        · exact .inr ⟨z, hz, a⟩
theorem asc_fol {α : Type} {step : α → List Int → List Int} (h : ∀ x s, s.Pairwise (· < ·) → (step x s).Pairwise (· < ·)) : ∀ (l : List α) (s : List Int), s.Pairwise (· < ·) → (fol step s l).Pairwise (· < ·)
  | [], s, hs => hs
  | x :: xs, s, hs => by rw [fol_cons]; exact asc_fol h xs _ (h x s hs)
/-- What is put in where a test holds. -/
def insF {α : Type} (t : α → Int) (j : Int) (v : α → Int) (x : α) (s : List Int) : List Int := if t x = j then addL (v x) s else s
theorem insF_asc {α : Type} (t : α → Int) (j : Int) (v : α → Int) (x : α) (s : List Int) (h : s.Pairwise (· < ·)) : (insF t j v x s).Pairwise (· < ·) := by
  unfold insF
  split
  · exact addL_asc _ _ h
  · exact h
theorem insF_mem {α : Type} (t : α → Int) (j : Int) (v : α → Int) (x : α) (s : List Int) (y : Int) : y ∈ insF t j v x s ↔ y ∈ s ∨ (t x = j ∧ v x = y) := by
  unfold insF
  split
  · rename_i h
    rw [addL_mem]
    constructor
    · rintro (rfl | a)
      · exact .inr ⟨h, rfl⟩
      · exact .inl a
    · rintro (a | ⟨_, rfl⟩)
      · exact .inr a
      · exact .inl rfl
  · rename_i h
    exact ⟨.inl, fun a => a.elim id fun b => absurd b.1 h⟩
theorem insF_len {α : Type} (t : α → Int) (j : Int) (v : α → Int) (x : α) (s : List Int) : (insF t j v x s).length ≤ s.length + 1 := by
  unfold insF
  split
  · exact addL_length _ _
  · omega
theorem app_mem {α : Type} (t : α → Int) (j : Int) (v : α → Int) (x : α) (s : List Int) (y : Int) : (y ∈ if t x = j then s ++ [v x] else s) ↔ y ∈ s ∨ (t x = j ∧ v x = y) := by
  split
  · rename_i h
    rw [List.mem_append, List.mem_singleton]
    exact ⟨fun a => a.elim .inl fun b => .inr ⟨h, b.symm⟩, fun a => a.elim .inl fun b => .inr b.2.symm⟩
  · rename_i h
    exact ⟨.inl, fun a => a.elim id fun b => absurd b.1 h⟩
def insU : S62 → List Int → List Int := insF S62.f0 1 S62.f1
def insL : S29 → List Int → List Int := insF S29.f0 2 S29.f1
theorem mem_allE : ∀ (l : List S62) (e : S29), e ∈ allE l ↔ ∃ x ∈ l, e ∈ preEs x.f3
  | [], e => by simp [allE]
  | x :: xs, e => by
    rw [allE, List.mem_append, mem_allE xs e]
    simp
theorem stepU_mem (x : S62) (s : List Int) (y : Int) : y ∈ stepU x s ↔ y ∈ s ∨ ((x.f0 = 1 ∧ x.f1 = y) ∨ ∃ e ∈ preEs x.f3, e.f0 = 2 ∧ e.f1 = y) := by
  unfold stepU
  rw [mem_fol (step := stepL) (fun x s y => app_mem S29.f0 2 S29.f1 x s y) (preEs x.f3) _ y]
  have h : y ∈ stepU0 x s ↔ _ := app_mem S62.f0 1 S62.f1 x s y
  rw [h, or_assoc]
theorem touches_same (l : List S62) : fol insL (fol insU [] l) (allE l) = ascL (fol stepU [] l) := by
  obtain ⟨g1, g2⟩ := asc_sorted (fol stepU [] l)
  refine asc_one _ _ (asc_fol (insF_asc _ _ _) (allE l) _ (asc_fol (insF_asc _ _ _) l [] List.Pairwise.nil)) g1 fun y => Iff.trans ?_ (g2 y).symm
  rw [mem_fol (step := insL) (insF_mem S29.f0 2 S29.f1) (allE l) _ y, mem_fol (step := insU) (insF_mem S62.f0 1 S62.f1) l [] y, mem_fol (step := stepU) stepU_mem l [] y]
  constructor
  · rintro ((a | ⟨x, hx, a⟩) | ⟨e, he, a⟩)
    · exact .inl a
    · exact .inr ⟨x, hx, .inl a⟩
    · obtain ⟨x, hx, h⟩ := (mem_allE l e).1 he
      exact .inr ⟨x, hx, .inr ⟨e, h, a⟩⟩
  · rintro (a | ⟨x, hx, a | ⟨e, he, a⟩⟩)
    · exact .inl (.inl a)
    · exact .inl (.inr ⟨x, hx, a⟩)
    · exact .inr ⟨e, (mem_allE l e).2 ⟨x, hx, he⟩, a⟩
end Go.Proofs.Ytjcggilkfofiaaa.P
