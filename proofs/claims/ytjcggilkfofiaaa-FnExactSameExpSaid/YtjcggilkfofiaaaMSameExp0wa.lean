/- What FnExactSameExp answers: it is true. Conditions: what a machine holds. -/
import Derived.Test.YtjcggilkfofiaaaMSameExp0ya
import Derived.Test.YtjcggilkfofiaaaMSameExp0xa
namespace Go.Proofs.Ytjcggilkfofiaaa.Pure
open Go.RowKit Go.Proofs.Ytjcggilkfofiaaa.P Go.Proofs.Ytjcggilkfofiaaa.Ex Go.Proofs.YtjcggilkfofiaaaW.PrintWords Go.Proofs.YtjcggilkfofiaaaW.PrintLast Go.Proofs.Ytjcggilkfofiaaa.Aux Go.Proofs.Ytjcggilkfofiaaa.Opens
set_option linter.unusedVariables false
set_option linter.unusedSimpArgs false
mutual
theorem ok_W : ∀ x : S24, W24 x → okE x
  | ⟨a, b, c, s, ks⟩, h => by
    rw [W24] at h
    rw [okE]
    exact ⟨h.2.2.2.1, h.2.2.2.2.1, ok_Ws ks h.2.2.2.2.2⟩
theorem ok_Ws : ∀ l : List S24, W24s l → okEs l
  | [], _ => by rw [okEs]; trivial
  | x :: xs, h => by
    rw [W24s] at h
    rw [okEs]
    exact ⟨ok_W x h.1, ok_Ws xs h.2⟩
end
theorem sz_f {a b c : Int} {s : ByteArray} {l : List S24} (hs : s.size ≤ maxLen) (hl : l.length ≤ maxLen ∧ ∀ x_ ∈ l, W24 x_) {left : Int} (h0 : 0 ≤ left) (h1 : left ≤ 1048576) : laws_szExp.f a b c s l left = some (lftE left (szE ⟨a, b, c, s, l⟩)) := by
  have hk : okB ⟨a, b, c, s, l⟩ = true := (okB_iff _).2 ((okE_eq _).2 ⟨hs, hl.1, ok_Ws l ((W24s_iff l).2 hl.2)⟩)
  rw [laws_szExp.f, if_pos ⟨hk, h0, h1⟩]
theorem to_f {a b c : Int} {s : ByteArray} {l : List S24} (h : szE ⟨a, b, c, s, l⟩ ≤ 1048576) : laws_toExp.f a b c s l = some (a, b, c, s, toEs l) := by
  rw [szE_eq] at h
  dsimp only at h
  rw [laws_toExp.f, if_pos (by omega)]
theorem eq_f {a b c : Int} {s : ByteArray} {l : List S24} (h : szE ⟨a, b, c, s, l⟩ ≤ 1048576) : laws_eqExp.f a b c s (toEs l) a b c s (toEs l) = some true := by
  rw [szE_eq] at h
  dsimp only at h
  have := nEs_toEs l
  rw [laws_eqExp.f, if_pos (by omega), eqE_refl]
theorem FnExactSameExp : ∀ (a0_0 : Int) (a0_1 : Int) (a0_2 : Int) (a0_3 : ByteArray) (l0_4 : List S24) (a1_0 : Int) (a1_1 : Int) (a1_2 : Int) (a1_3 : ByteArray) (l1_4 : List S24), (Lit.int .i64 a0_0).wf = true → (Lit.int .i64 a0_1).wf = true → (Lit.int .i64 a0_2).wf = true → a0_3.size ≤ maxLen → (l0_4.length ≤ maxLen ∧ ∀ x_ ∈ l0_4, W24 x_) → (Lit.int .i64 a1_0).wf = true → (Lit.int .i64 a1_1).wf = true → (Lit.int .i64 a1_2).wf = true → a1_3.size ≤ maxLen → (l1_4.length ≤ maxLen ∧ ∀ x_ ∈ l1_4, W24 x_) → laws_FnExactSameExp.f a0_0 a0_1 a0_2 a0_3 l0_4 a1_0 a1_1 a1_2 a1_3 l1_4 = some true := by
  intro a0 a1 a2 a3 l b0 b1 b2 b3 m _ _ _ hs hl _ _ _ hs' hl'
  unfold laws_FnExactSameExp.f
  rw [sz_f hs hl (by omega) (by omega), Option.bind_some]
  by_cases h1 : (szE ⟨a0, a1, a2, a3, l⟩ : Int) ≤ 1048576
  · rw [lftE_yes h1, if_neg (by omega), sz_f hs' hl' (by omega) (by omega), Option.bind_some]
    by_cases h2 : (szE ⟨b0, b1, b2, b3, m⟩ : Int) ≤ 1048576 - (szE ⟨a0, a1, a2, a3, l⟩ : Int)
    · rw [lftE_yes h2, if_neg (by omega)]
      have t1 := to_f (a := a0) (b := a1) (c := a2) (s := a3) (l := l) (by omega)
      have t2 := to_f (a := b0) (b := b1) (c := b2) (s := b3) (l := m) (by omega)
      have e1 := eq_f (a := a0) (b := a1) (c := a2) (s := a3) (l := l) (by omega)
      have e2 := eq_f (a := b0) (b := b1) (c := b2) (s := b3) (l := m) (by omega)
      simp only [t1, t2, e1, e2, Option.bind_some, spec_SameExp.f, spec_l02SameExps.f, impl_SameExp.f, impl_sameExp.f, eqEs, Bool.and_true, if_true]
      simp
    · rw [lftE_no h2, if_pos (by omega)]
  · rw [lftE_no h1, if_pos (by omega)]
end Go.Proofs.Ytjcggilkfofiaaa.Pure
