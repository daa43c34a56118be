/- A text's words: the reference's and the library's are one. Conditions: a text that is not too long. -/
import Derived.Test.YtbihpjngmjkjmaaDoorGsplit
import Derived.Test.YtbihpjngmjkjmaaDoorGread
import Derived.Test.YtbihpjngmjkjmaaDoorF15
import Derived.Test.YtbihpjngmjkjmaaDoorF16
import Derived.Test.YtbihpjngmjkjmaaDoorF17
import Derived.Test.YtbihpjngmjkjmaaDoorF18
import Derived.Test.YtbihpjngmjkjmaaDoorF19
import Derived.Lib.CountLaws
import Derived.Lib.IndexBytes
namespace Go.Proofs.YtbihpjngmjkjmaaDoor.Dec
open Go.RowKit Go.Proofs.YtbihpjngmjkjmaaDoor.P Go.Proofs.YtbihpjngmjkjmaaDoorW.PrintWords Go.Proofs.YtbihpjngmjkjmaaDoorW.PrintLast Go.Proofs.YtbihpjngmjkjmaaDoor.Aux Go.Lib
set_option linter.unusedVariables false
set_option linter.unusedSimpArgs false
/-- The blank. -/
def sp : ByteArray := ⟨#[32]⟩
theorem sp_list : sp.data.toList = [32] := rfl
theorem occ_sp (l : List UInt8) (j : Nat) : occAt l [32] j = (l[j]? == some 32) := by
  unfold occAt
  cases h : l.drop j with
  | nil =>
    have : l[j]? = none := by
      have := congrArg List.length h
      simp at this
      exact List.getElem?_eq_none (by omega)
    rw [this]
    rfl
  | cons b r =>
    have h2 : l[j]? = some b := by
      have := congrArg (·[0]?) h
      simpa using this
    rw [h2]
    simp [List.isPrefixOf, BEq.comm]
theorem drop_none {l : List UInt8} {f i : Nat} (h : ∀ j, f ≤ j → j < i → l[j]? ≠ some 32) : NoOcc (l.drop f) [32] (i - f) := by
  intro j hj
  rw [occ_sp, List.getElem?_drop]
  exact beq_eq_false_iff_ne.mpr (h (f + j) (by omega) (by omega))
/-- The text from f on. -/
theorem rest_list (s : ByteArray) (f : Nat) : (s.extract f s.size).data.toList = s.data.toList.drop f := extract_to_end s f
theorem rest_size (s : ByteArray) (f : Nat) : (s.extract f s.size).size = s.size - f := by rw [← ba_len, rest_list, List.length_drop, ba_len]
theorem piece (s : ByteArray) (f a b : Nat) (hb : f + b ≤ s.size) : (s.extract f s.size).extract a b = s.extract (f + a) (f + b) := by
  apply Go.WideShapes.bytes_inj
  rw [extract_data, extract_data, extract_data, List.drop_take, List.drop_drop, List.take_take, Nat.min_eq_left (by omega), show f + b - (f + a) = b - a by omega]
theorem words_loop (s : ByteArray) (hs : s.size ≤ 1048576) (d : Nat) : ∀ (i f : Nat) (out : List ByteArray), i + d = s.size → f ≤ i → out.length ≤ i → (∀ j, f ≤ j → j < i → s.data.toList[j]? ≠ some 32) →
    Ev (fun k => spec_Words.l0 k s out (f : Int) (i : Int)) (out ++ splitB sp 0 (countB (s.extract f s.size) sp) (s.extract f s.size)) := by
  induction d with
  | zero =>
    intro i f out hi hf ho hn
    have hno : NoOccB (s.extract f s.size) sp (i - f) := by
      show NoOcc _ _ _
      rw [rest_list, sp_list]
      exact drop_none hn
    have hmiss : indexB (s.extract f s.size) sp = -1 := past _ sp (i - f) hno (by decide) (by rw [rest_size, show sp.size = 1 from rfl]; omega)
    rw [countB_miss _ _ hmiss, splitB_zero]
    refine Ev.step (fun k => by rw [spec_Words.l0, if_neg (by omega), if_pos (by omega), if_pos (by omega), if_pos (by omega), Int.toNat_natCast]) (Ev.now _)
  | succ d ih =>
    intro i f out hi hf ho hn
    have hl := ba_len s
    have hil : i < s.data.toList.length := by omega
    have hb := bt_list s i hil
    have hp1 : (i : Int) < (s.size : Int) := by omega
    have hp2 : 0 ≤ (i : Int) := by omega
    have hw : wrap64 ((i : Int) + 1) = ((i + 1 : Nat) : Int) := by rw [wrap_ok (by omega) (by omega)]; omega
    by_cases h32 : s.data.toList[i] = 32
    · have hb32 : bt s (i : Int) = 32 := by rw [hb, h32]; rfl
      have hno : NoOccB (s.extract f s.size) sp (i - f) := by
        show NoOcc _ _ _
        rw [rest_list, sp_list]
        exact drop_none hn
      have hit : indexB (s.extract f s.size) sp = ((i - f : Nat) : Int) := index_hit hno (by rw [← size_eq, rest_size]; omega) (by rw [rest_list, sp_list, occ_sp, List.getElem?_drop, show f + (i - f) = i by omega, List.getElem?_eq_getElem hil, h32]; rfl)
      have e1 : countB (s.extract f s.size) sp = countB (s.extract (i + 1) s.size) sp + 1 := by
        rw [countB_hit _ sp (i - f) (by decide) hit, rest_size, show i - f + sp.size = i - f + 1 from rfl, piece s f (i - f + 1) (s.size - f) (by omega), show f + (i - f + 1) = i + 1 by omega, show f + (s.size - f) = s.size by omega]
        omega
      rw [e1, splitB_hit sp 0 _ _ (i - f) hit, rest_size, show i - f + sp.size = i - f + 1 from rfl, show i - f + 0 = i - f from rfl, piece s f (i - f + 1) (s.size - f) (by omega), piece s f 0 (i - f) (by omega), show f + (i - f + 1) = i + 1 by omega, show f + (s.size - f) = s.size by omega, show f + (i - f) = i by omega, show f + 0 = f from rfl]
      have key := ih (i + 1) (i + 1) (out ++ [s.extract f i]) (by omega) (Nat.le_refl _) (by simp; omega) (fun j h1 h2 => by omega)
      rw [List.append_assoc, List.singleton_append] at key
      refine Ev.step (fun k => by rw [spec_Words.l0, if_pos hp1, if_pos hp2, if_pos hb32, if_pos (by omega), if_pos (by omega), if_pos (by omega), if_pos (by omega), hw, Int.toNat_natCast, Int.toNat_natCast]) key
    · have hb32 : ¬ bt s (i : Int) = 32 := by
        rw [hb]
        intro z
        exact h32 (UInt8.toNat_inj.mp (by have : s.data.toList[i].toNat = 32 := by omega
                                          exact this))
      have key := ih (i + 1) f out (by omega) (by omega) (by omega) (fun j h1 h2 => by
        by_cases hj : j = i
        · subst hj
          rw [List.getElem?_eq_getElem hil]
          simpa using h32
        · exact hn j h1 (by omega))
      refine Ev.step (fun k => by rw [spec_Words.l0, if_pos hp1, if_pos hp2, if_neg hb32, hw]) key
/-- The words of a text. -/
def wordsT (s : ByteArray) : List ByteArray := splitB sp 0 (countB s sp) s
theorem words_ev (s : ByteArray) (hs : s.size ≤ 1048576) : Ev (fun k => spec_Words.f k s) (wordsT s) := by
  have h := words_loop s hs s.size 0 0 [] (by omega) (Nat.le_refl _) (Nat.le_refl _) (fun j h1 h2 => by omega)
  have e : s.extract 0 s.size = s := by
    apply Go.WideShapes.bytes_inj
    rw [rest_list]
    rfl
  rw [e] at h
  exact h
theorem words_f (s : ByteArray) (hs : s.size ≤ 1048576) : impl_Words.f s = some (wordsT s) := by
  unfold impl_Words.f strings_Split.f
  rw [if_pos ⟨hs, by decide⟩]
  rfl
theorem words_len (s : ByteArray) (hs : s.size ≤ 1048576) : (wordsT s).length ≤ 1048577 := by
  have := splitB_length_le sp 0 (countB s sp) s
  have h2 := countB_le sp (by decide) s.size s (Nat.le_refl _)
  unfold wordsT
  omega
/-- The text of a mark. -/
noncomputable def mkT (m : Int) : ByteArray := if h : m ≤ 9223372036854775807 then Classical.choose (markText_ev laws_markText.f laws_markText.l0 (fun _ _ => rfl) (fun _ _ _ => by rw [laws_markText.l0]) m h) else ByteArray.empty
theorem mkT_ev (m : Int) (h : m ≤ 9223372036854775807) : Ev (fun k => laws_markText.f k m) (mkT m) := by
  unfold mkT
  rw [dif_pos h]
  exact Classical.choose_spec (markText_ev laws_markText.f laws_markText.l0 (fun _ _ => rfl) (fun _ _ _ => by rw [laws_markText.l0]) m h)
/-- The texts of n marks from m on. -/
noncomputable def mks (m : Int) : Nat → List ByteArray
  | 0 => []
  | n + 1 => mkT m :: mks (m + 1) n
theorem mks_len (n : Nat) : ∀ m, (mks m n).length = n := by
  induction n with
  | zero => intro m; rfl
  | succ n ih => intro m; simp [mks, ih]
theorem markS_loop (d : Nat) : ∀ (xs : List ByteArray) (i : Nat) (m : Int), i + d = xs.length → 0 ≤ m → m + d < 4611686018427387904 → xs.length < 4611686018427387904 → Ev (fun k => laws_markStringS.l0 k xs m (i : Int)) (m + d, xs.take i ++ mks m d) := by
  induction d with
  | zero =>
    intro xs i m hi h0 hm hn
    refine Ev.step (f := fun _ => some (m, xs)) (fun k => by rw [laws_markStringS.l0, if_neg (by omega)]) ?_
    rw [List.take_of_length_le (by omega), show m + ((0 : Nat) : Int) = m by omega, mks, List.append_nil]
    exact Ev.now _
  | succ d ih =>
    intro xs i m hi h0 hm hn
    have hp : (i : Int) < (xs.length : Int) := by omega
    have hq : 0 ≤ (i : Int) := by omega
    obtain ⟨w1, w2⟩ : wrap64 (m + 1) = m + 1 ∧ wrap64 ((i : Int) + 1) = ((i + 1 : Nat) : Int) := ⟨wrap_ok (by omega) (by omega), by rw [wrap_ok (by omega) (by omega)]; omega⟩
    have h := ih (xs.set i (mkT m)) (i + 1) (m + 1) (by clear w1 w2; simp; omega) (by clear w1 w2; omega) (by clear w1 w2; omega) (by simpa using hn)
    have e1 : (m + ((d + 1 : Nat) : Int), xs.take i ++ mks m (d + 1)) = (m + 1 + (d : Int), (xs.set i (mkT m)).take (i + 1) ++ mks (m + 1) d) := by
      clear w1 w2
      rw [List.take_succ_eq_append_getElem (by simp; omega), List.getElem_set_self, List.take_set_of_le (by omega)]
      simp only [mks, List.append_assoc, List.cons_append, List.nil_append, Prod.mk.injEq, and_true]
      omega
    rw [e1]
    refine Ev.step (fun k => by rw [laws_markStringS.l0, if_pos hp]) (Ev.bind (mkT_ev m (by clear w1 w2; omega)) (Ev.ite_pos hq ?_))
    rw [w1, w2, Int.toNat_natCast]
    exact h
theorem markS_ev (xs : List ByteArray) (hn : xs.length ≤ 1048577) : Ev (fun k => laws_markStringS.f k xs 1) (1 + (xs.length : Int), mks 1 xs.length) := by
  have h := markS_loop xs.length xs 0 1 (by omega) (by omega) (by omega) (by omega)
  have h2 : Ev (fun k => laws_markStringS.l0 k xs 1 0) (1 + (xs.length : Int), mks 1 xs.length) := by simpa using h
  exact h2
theorem heldS_loop (xs : List ByteArray) (hn : xs.length < 4611686018427387904) (d : Nat) : ∀ (i : Nat) (m : Int), i + d = xs.length → 0 ≤ m → m + d < 4611686018427387904 → xs.drop i = mks m d → Ev (fun k => laws_heldStringS.l0 k xs m (i : Int)) (m + d) := by
  induction d with
  | zero =>
    intro i m hi h0 hm he
    refine Ev.step (f := fun _ => some m) (fun k => by rw [laws_heldStringS.l0, if_neg (by omega)]) ?_
    rw [show m + ((0 : Nat) : Int) = m by omega]
    exact Ev.now _
  | succ d ih =>
    intro i m hi h0 hm he
    have hx : xs.drop i = xs[i]'(by omega) :: xs.drop (i + 1) := List.drop_eq_getElem_cons (by omega)
    rw [hx, mks] at he
    injection he with e1 e2
    have r1 := rdOf_lt ByteArray.empty xs i (by omega)
    have hp : (i : Int) < (xs.length : Int) := by omega
    have hq : 0 ≤ (i : Int) := by omega
    have h := ih (i + 1) (m + 1) (by omega) (by omega) (by omega) e2
    have hm2 : m ≤ 9223372036854775807 := by omega
    obtain ⟨w1, w2⟩ : wrap64 (m + 1) = m + 1 ∧ wrap64 ((i : Int) + 1) = ((i + 1 : Nat) : Int) := ⟨wrap_ok (by omega) (by omega), by rw [wrap_ok (by omega) (by omega)]; omega⟩
    rw [show m + ((d + 1 : Nat) : Int) = m + 1 + (d : Int) by clear w1 w2; omega]
    refine Ev.step (fun k => by rw [laws_heldStringS.l0, if_pos hp, if_pos hq, r1, e1]) (Ev.bind (mkT_ev m hm2) (Ev.ite_pos rfl ?_))
    rw [w1, w2]
    exact h
theorem heldS_ev (n : Nat) (hn : n ≤ 1048577) : Ev (fun k => laws_heldStringS.f k (mks 1 n) 1) (1 + (n : Int)) := by
  have h := heldS_loop (mks 1 n) (by rw [mks_len]; omega) n 0 1 (by rw [mks_len]; omega) (by omega) (by omega) rfl
  exact Ev.congr (fun k => by rw [laws_heldStringS.f]; rfl) h
theorem eqS_loop (xs : List ByteArray) (hn : xs.length ≤ 1048577) (d : Nat) : ∀ i : Nat, i + d = xs.length → Ev (fun k => laws_eqStringS.l0 k xs xs (i : Int)) true := by
  induction d with
  | zero =>
    intro i hi
    exact Ev.step (f := fun _ => some true) (fun k => by rw [laws_eqStringS.l0, if_neg (by omega)]) (Ev.now _)
  | succ d ih =>
    intro i hi
    have hp : (i : Int) < (xs.length : Int) := by omega
    have hq : 0 ≤ (i : Int) := by omega
    have hw : wrap64 ((i : Int) + 1) = ((i + 1 : Nat) : Int) := by rw [wrap_ok (by omega) (by omega)]; omega
    exact Ev.step (fun k => by rw [laws_eqStringS.l0, if_pos hp, if_pos hq, if_pos hp, if_pos rfl, hw]) (ih (i + 1) (by omega))
theorem eqS_ev (xs : List ByteArray) (hn : xs.length ≤ 1048577) : Ev (fun k => laws_eqStringS.f k xs xs) true := by
  have h := eqS_loop xs hn xs.length 0 (by omega)
  exact Ev.congr (fun k => by rw [laws_eqStringS.f, if_pos rfl]; rfl) h
end Go.Proofs.YtbihpjngmjkjmaaDoor.Dec
