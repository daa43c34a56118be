/- A text's words: the reference's and the library's are one. Conditions: a text that is not too long. -/
import Derived.Test.YtbihpjngmjkjmaaDoorMFnLex0ta
import Derived.Test.YtbihpjngmjkjmaaDoorMFnLex0pa
import Derived.Test.YtbihpjngmjkjmaaDoorMFnLex0a
import Derived.Lib.CountLaws
import Derived.Lib.IndexBytes
namespace Go.Proofs.YtbihpjngmjkjmaaDoor.Dec
open Go.RowKit Go.Proofs.YtbihpjngmjkjmaaDoor.P Go.Proofs.YtbihpjngmjkjmaaDoorW.PrintWords Go.Proofs.YtbihpjngmjkjmaaDoorW.PrintLast Go.Proofs.YtbihpjngmjkjmaaDoor.Aux Go.Lib
set_option linter.unusedVariables false
set_option linter.unusedSimpArgs false
/-- The blank. -/
def sp : ByteArray := ⟨#[32]⟩
theorem sp_list : sp.data.toList = [32] := rfl
theorem occ_sp (l : List UInt8) (j : Nat) : occAt l [32] j = (l[j]? == some 32) := by
  unfold occAt
  cases h : l.drop j with
  | nil =>
    have : l[j]? = none := by
      have := congrArg List.length h
      simp at this
      exact List.getElem?_eq_none (by omega)
    rw [this]
    rfl
  | cons b r =>
    have h2 : l[j]? = some b := by
      have := congrArg (·[0]?) h
      simpa using this
    rw [h2]
    simp [List.isPrefixOf, BEq.comm]
theorem drop_none {l : List UInt8} {f i : Nat} (h : ∀ j, f ≤ j → j < i → l[j]? ≠ some 32) : NoOcc (l.drop f) [32] (i - f) := by
  intro j hj
  rw [occ_sp, List.getElem?_drop]
  exact beq_eq_false_iff_ne.mpr (h (f + j) (by omega) (by omega))
/-- The text from f on. -/
theorem rest_list (s : ByteArray) (f : Nat) : (s.extract f s.size).data.toList = s.data.toList.drop f := extract_to_end s f
theorem rest_size (s : ByteArray) (f : Nat) : (s.extract f s.size).size = s.size - f := by rw [← ba_len, rest_list, List.length_drop, ba_len]
theorem piece (s : ByteArray) (f a b : Nat) (hb : f + b ≤ s.size) : (s.extract f s.size).extract a b = s.extract (f + a) (f + b) := by
  apply Go.WideShapes.bytes_inj
  rw [extract_data, extract_data, extract_data, List.drop_take, List.drop_drop, List.take_take, Nat.min_eq_left (by omega), show f + b - (f + a) = b - a by omega]
theorem words_loop (s : ByteArray) (hs : s.size ≤ 1048576) (d : Nat) : ∀ (i f : Nat) (out : List ByteArray), i + d = s.size → f ≤ i → out.length ≤ i → (∀ j, f ≤ j → j < i → s.data.toList[j]? ≠ some 32) →
    Ev (fun k => spec_Words.l0 k s out (f : Int) (i : Int)) (out ++ splitB sp 0 (countB (s.extract f s.size) sp) (s.extract f s.size)) := by
  induction d with
  | zero =>
    intro i f out hi hf ho hn
    have hno : NoOccB (s.extract f s.size) sp (i - f) := by
      show NoOcc _ _ _
      rw [rest_list, sp_list]
      exact drop_none hn
    have hmiss : indexB (s.extract f s.size) sp = -1 := past _ sp (i - f) hno (by decide) (by rw [rest_size, show sp.size = 1 from rfl]; omega)
    rw [countB_miss _ _ hmiss, splitB_zero]
    refine Ev.step (fun k => by rw [spec_Words.l0, if_neg (by omega), if_pos (by omega), if_pos (by omega), if_pos (by omega), Int.toNat_natCast]) (Ev.now _)
  | succ d ih =>
    intro i f out hi hf ho hn
    have hl := ba_len s
    have hil : i < s.data.toList.length := by omega
    have hb := bt_list s i hil
    have hp1 : (i : Int) < (s.size : Int) := by omega
    have hp2 : 0 ≤ (i : Int) := by omega
    have hw : wrap64 ((i : Int) + 1) = ((i + 1 : Nat) : Int) := by rw [wrap_ok (by omega) (by omega)]; omega
    by_cases h32 : s.data.toList[i] = 32
    · have hb32 : bt s (i : Int) = 32 := by rw [hb, h32]; rfl
      have hno : NoOccB (s.extract f s.size) sp (i - f) := by
        show NoOcc _ _ _
        rw [rest_list, sp_list]
        exact drop_none hn
      have hit : indexB (s.extract f s.size) sp = ((i - f : Nat) : Int) := index_hit hno (by rw [← size_eq, rest_size]; omega) (by rw [rest_list, sp_list, occ_sp, List.getElem?_drop, show f + (i - f) = i by omega, List.getElem?_eq_getElem hil, h32]; rfl)
      have e1 : countB (s.extract f s.size) sp = countB (s.extract (i + 1) s.size) sp + 1 := by
        rw [countB_hit _ sp (i - f) (by decide) hit, rest_size, show i - f + sp.size = i - f + 1 from rfl, piece s f (i - f + 1) (s.size - f) (by omega), show f + (i - f + 1) = i + 1 by omega, show f + (s.size - f) = s.size by omega]
        omega
      rw [e1, splitB_hit sp 0 _ _ (i - f) hit, rest_size, show i - f + sp.size = i - f + 1 from rfl, show i - f + 0 = i - f from rfl, piece s f (i - f + 1) (s.size - f) (by omega), piece s f 0 (i - f) (by omega), show f + (i - f + 1) = i + 1 by omega, show f + (s.size - f) = s.size by omega, show f + (i - f) = i by omega, show f + 0 = f from rfl]
      have key := ih (i + 1) (i + 1) (out ++ [s.extract f i]) (by omega) (Nat.le_refl _) (by simp; omega) (fun j h1 h2 => by omega)
      rw [List.append_assoc, List.singleton_append] at key
      refine Ev.step (fun k => by rw [spec_Words.l0, if_pos hp1, if_pos hp2, if_pos hb32, if_pos (by omega), if_pos (by omega), if_pos (by omega), if_pos (by omega), hw, Int.toNat_natCast, Int.toNat_natCast]) key
    · have hb32 : ¬ bt s (i : Int) = 32 := by
        rw [hb]
        intro z
        exact h32 (UInt8.toNat_inj.mp (by have : s.data.toList[i].toNat = 32 := by omega
                                          exact this))
      have key := ih (i + 1) f out (by omega) (by omega) (by omega) (fun j h1 h2 => by
        by_cases hj : j = i
        · subst hj
          rw [List.getElem?_eq_getElem hil]
          simpa using h32
        · exact hn j h1 (by omega))
      refine Ev.step (fun k => by rw [spec_Words.l0, if_pos hp1, if_pos hp2, if_neg hb32, hw]) key
/-- The words of a text. -/
def wordsT (s : ByteArray) : List ByteArray := splitB sp 0 (countB s sp) s
theorem words_ev (s : ByteArray) (hs : s.size ≤ 1048576) : Ev (fun k => spec_Words.f k s) (wordsT s) := by
  have h := words_loop s hs s.size 0 0 [] (by omega) (Nat.le_refl _) (Nat.le_refl _) (fun j h1 h2 => by omega)
  have e : s.extract 0 s.size = s := by
    apply Go.WideShapes.bytes_inj
    rw [rest_list]
    rfl
  rw [e] at h
  exact h
theorem words_f (s : ByteArray) (hs : s.size ≤ 1048576) : impl_Words.f s = some (wordsT s) := by
  unfold impl_Words.f strings_Split.f
  rw [if_pos ⟨hs, by decide⟩]
  rfl
theorem words_len (s : ByteArray) (hs : s.size ≤ 1048576) : (wordsT s).length ≤ 1048577 := by
  have := splitB_length_le sp 0 (countB s sp) s
  have h2 := countB_le sp (by decide) s.size s (Nat.le_refl _)
  unfold wordsT
  omega
end Go.Proofs.YtbihpjngmjkjmaaDoor.Dec
