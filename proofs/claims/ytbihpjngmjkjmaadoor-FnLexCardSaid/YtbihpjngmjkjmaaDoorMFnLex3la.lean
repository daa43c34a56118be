/- What FnLex answers: it is true. Conditions: a code as long as a machine holds. -/
import Derived.Test.YtbihpjngmjkjmaaDoorMFnLexxF9
import Derived.Test.YtbihpjngmjkjmaaDoorMFnLex2pa
import Derived.Test.YtbihpjngmjkjmaaDoorMFnLex1la
namespace Go.Proofs.YtbihpjngmjkjmaaDoor.Pure
open Go.RowKit Go.Proofs.YtbihpjngmjkjmaaDoor.P Go.Proofs.YtbihpjngmjkjmaaDoorW.PrintWords Go.Proofs.YtbihpjngmjkjmaaDoorW.PrintLast Go.Proofs.YtbihpjngmjkjmaaDoor.Aux Go.Proofs.YtbihpjngmjkjmaaDoor.Dec
set_option linter.unusedVariables false
set_option linter.unusedSimpArgs false
theorem sameT_loop (xs : List ByteArray) (hn : xs.length ≤ 1048577) (d : Nat) : ∀ i : Nat, i + d = xs.length → Ev (fun k => laws_sameTexts.l0 k xs xs (i : Int)) true := by
  induction d with
  | zero =>
    intro i hi
    exact Ev.step (f := fun _ => some true) (fun k => by rw [laws_sameTexts.l0, if_neg (by omega)]) (Ev.now _)
  | succ d ih =>
    intro i hi
    have hp : (i : Int) < (xs.length : Int) := by omega
    have hq : 0 ≤ (i : Int) := by omega
    have hw : wrap64 ((i : Int) + 1) = ((i + 1 : Nat) : Int) := by rw [wrap_ok (by omega) (by omega)]; omega
    exact Ev.step (fun k => by rw [laws_sameTexts.l0, if_pos hp, if_pos hq, if_pos hp, if_pos rfl, hw]) (ih (i + 1) (by omega))
theorem sameT_ev (xs : List ByteArray) (hn : xs.length ≤ 1048577) : Ev (fun k => laws_sameTexts.f k xs xs) true := by
  have h : Ev (fun k => laws_sameTexts.l0 k xs xs 0) true := sameT_loop xs hn xs.length 0 (by omega)
  exact Ev.congr (fun k => by rw [laws_sameTexts.f, if_pos rfl]) h
theorem decText_f {n : Int} (h : I64 n) : impl_DecText.f n = some (dt n) := by
  unfold impl_DecText.f
  rw [dt_f h]
  rfl
theorem name_word (s : ByteArray) {k : Nat} (hw : impl_IsWord.f k s = some true) : impl_NameOk.f k s ≠ some true := by
  intro h
  unfold impl_NameOk.f at h
  rw [hw] at h
  rcases hi : impl_in.f (s.size : Int) 1 8 with _ | b
  · rw [hi] at h
    cases h
  · rw [hi, Option.bind_some] at h
    cases b with
    | false => cases h
    | true =>
      rw [if_pos rfl] at h
      rcases hm : impl_nameLong.f k s with _ | m
      · rw [hm] at h
        cases h
      · rw [hm, Option.bind_some, Option.bind_some] at h
        split at h <;> cases h
theorem read_back (r : ByteArray) (h : (rdS r).2 = true) : I64 (rdS r).1 ∧ (dt (rdS r).1).toList = r.toList := by
  rw [read_same] at h ⊢
  by_cases hv : ∃ v : Int, -999999 ≤ v ∧ v ≤ 999999 ∧ r.data.toList = Lib.itoa v
  · obtain ⟨v, v0, v1, hv⟩ := hv
    rw [rdI_yes r v v0 v1 hv]
    refine ⟨⟨by show _ ≤ v; omega, by show v ≤ _; omega⟩, ?_⟩
    rw [ba_toList, ba_toList, hv]
    exact dt_list v
  · rw [rdI_no r (fun v v0 v1 e => hv ⟨v, v0, v1, e⟩)] at h
    cases h
section
variable (s : ByteArray) (hs : s.size ≤ 300000) (R : List S56 × Int) (hl : R.1.length ≤ 3000) (hp : R.1.Pairwise (fun a b => a.f3 ≤ b.f3)) (he : R.2 ≠ 0 → R.1 = []) (hm : R.2 = 0 → s.size ≤ 2997 → Ev (fun k => impl_Lex.f k (s ++ blanks)) R)
include hs he hm
theorem fin_ev : Ev (fun k => (if R.2 = 0 then (if (s.size : Int) > 2997 then (some true) else (if s.size + 3 ≤ 9223372036854775807 then ((impl_Lex.f k (s ++ (⟨#[32, 10, 32]⟩ : ByteArray))).bind fun bt140 => (if bt140.2 = 0 then (some ((bt140.1.length : Int) == (R.1.length : Int))) else (some false))) else (none))) else (some ((R.1.length : Int) == 0)))) true := by
  by_cases h0 : R.2 = 0
  · refine Ev.ite_pos h0 ?_
    by_cases hz : (s.size : Int) > 2997
    · exact Ev.ite_pos hz (Ev.now _)
    · refine Ev.ite_neg hz (Ev.ite_pos (by omega) (Ev.bind (hm h0 (by omega)) (Ev.ite_pos h0 ?_)))
      rw [beq_self_eq_true]
      exact Ev.now _
  · refine Ev.ite_neg h0 ?_
    rw [he h0]
    exact Ev.now _
theorem rest_ev (n : ByteArray) (hn : n.size ≤ 300000) : Ev (fun k => ((impl_IsWord.f k n).bind fun t138 => (if t138 = true then ((impl_NameOk.f k n).bind fun t139 => (if t139 = true then (some false) else (if R.2 = 0 then (if (s.size : Int) > 2997 then (some true) else (if s.size + 3 ≤ 9223372036854775807 then ((impl_Lex.f k (s ++ (⟨#[32, 10, 32]⟩ : ByteArray))).bind fun bt140 => (if bt140.2 = 0 then (some ((bt140.1.length : Int) == (R.1.length : Int))) else (some false))) else (none))) else (some ((R.1.length : Int) == 0))))) else (if R.2 = 0 then (if (s.size : Int) > 2997 then (some true) else (if s.size + 3 ≤ 9223372036854775807 then ((impl_Lex.f k (s ++ (⟨#[32, 10, 32]⟩ : ByteArray))).bind fun bt144 => (if bt144.2 = 0 then (some ((bt144.1.length : Int) == (R.1.length : Int))) else (some false))) else (none))) else (some ((R.1.length : Int) == 0)))))) true := by
  have hF := fin_ev s hs R he hm
  obtain ⟨w, _, w2⟩ := Nm.isWord n
  obtain ⟨o, _, o2⟩ := Nm.nameOk n (by omega)
  refine Ev.bind w2 ?_
  cases w with
  | false => exact Ev.ite_neg (by decide) hF
  | true =>
    refine Ev.ite_pos rfl (Ev.bind o2 ?_)
    cases o with
    | false => exact Ev.ite_neg (by decide) hF
    | true =>
      obtain ⟨k1, e1⟩ := w2
      obtain ⟨k2, e2⟩ := o2
      exact absurd (e2 (max k1 k2) (Nat.le_max_right _ _)) (name_word n (e1 (max k1 k2) (Nat.le_max_left _ _)))
include hl hp
theorem law_loop (n r : ByteArray) (hn : n.size ≤ 300000) (d : Nat) : ∀ i : Nat, i + d = R.1.length → Ev (fun k => laws_FnLex.l0 k s R.1 R.2 R.1 n r (rdS r).1 (rdS r).2 (i : Int)) true := by
  induction d with
  | zero =>
    intro i hi
    have hF := rest_ev s hs R he hm n hn
    refine Ev.step (fun k => by rw [laws_FnLex.l0, if_neg (by omega)]) ?_
    by_cases ho : (rdS r).2 = true
    · obtain ⟨b1, b2⟩ := read_back r ho
      exact Ev.ite_pos ho (Ev.const (decText_f b1) (Ev.ite_pos b2 hF))
    · exact Ev.ite_neg ho hF
  | succ d ih =>
    intro i hi
    have hp1 : (i : Int) < (R.1.length : Int) := by omega
    have hq : 0 ≤ (i : Int) := by omega
    have hi' : i < R.1.length := by omega
    have hw : wrap64 ((i : Int) + 1) = ((i + 1 : Nat) : Int) := by rw [wrap_ok (by omega) (by omega)]; omega
    have hsame : ∀ x : S56, ¬ (!((x.f0) == (x.f0)) || (!(((x.f1).toList) == ((x.f1).toList)) || (!((x.f2) == (x.f2)) || (!((x.f3) == (x.f3)))))) = true := fun x => by simp
    by_cases h0 : (i : Int) > 0
    · have hw1 : wrap64 ((i : Int) - 1) = ((i - 1 : Nat) : Int) := by rw [wrap_ok (by omega) (by omega)]; omega
      have hz : ¬ ((rd_T56 R.1 (i : Int)).f3) < ((rd_T56 R.1 ((i - 1 : Nat) : Int)).f3) := by
        rw [rdTk _ i hi', rdTk _ (i - 1) (by clear hw hw1; omega)]
        have := (List.pairwise_iff_getElem.mp hp) (i - 1) i (by clear hw hw1; omega) hi' (by clear hw hw1; omega)
        clear hw hw1
        omega
      have hq1 : (0 : Int) ≤ ((i - 1 : Nat) : Int) := by clear hw hw1; omega
      have hq2 : ((i - 1 : Nat) : Int) < (R.1.length : Int) := by clear hw hw1; omega
      exact Ev.step (fun k => by rw [laws_FnLex.l0, if_pos hp1, if_pos hq, if_pos hp1, if_neg (hsame _), if_pos h0, hw1, if_pos hq1, if_pos hq2, if_neg hz, hw]) (ih (i + 1) (by clear hw hw1; omega))
    · exact Ev.step (fun k => by rw [laws_FnLex.l0, if_pos hp1, if_pos hq, if_pos hp1, if_neg (hsame _), if_neg h0, hw]) (ih (i + 1) (by clear hw; omega))
end
theorem lex_law (c : List Int) : Ev (fun k => laws_FnLex.f k c) true := by
  unfold laws_FnLex.f laws_big.f
  by_cases hb : (c.length : Int) > 1048576
  · exact Ev.const rfl (Ev.ite_pos (decide_eq_true hb) (Ev.now _))
  refine Ev.const rfl (Ev.ite_neg (by rw [decide_eq_false hb]; decide) ?_)
  have hc : c.length ≤ 1048576 := by omega
  obtain ⟨s, s1, s2⟩ := drawLex_ends hc
  obtain ⟨w, w1, w2⟩ := drawIsWord_ends hc
  obtain ⟨n, n1, n2⟩ := drawNameOk_ends hc
  obtain ⟨d, d1, d2⟩ := drawDecText_ends hc
  obtain ⟨r, r1, r2⟩ := drawReadInt_ends hc
  obtain ⟨x, x1, x2⟩ := drawWords_ends hc
  obtain ⟨L, l0, l1, l2⟩ := lex_same s
  obtain ⟨L2, m1, m2, m3, m4⟩ := lex_more s
  have hL := ev_one m1 l2
  subst hL
  obtain ⟨b, b1, b2⟩ := Nm.isWord w
  obtain ⟨o, o1, o2⟩ := Nm.nameOk n (by omega)
  have q1 : r.size ≤ 1048576 := by omega
  have q2 : x.size ≤ 1048576 := by omega
  have rS := spec_read r q1
  have rI := impl_read r q1
  rw [← read_same r] at rI
  have hne : ∀ b : Bool, ¬ (b != b) = true := fun b => by simp
  refine Ev.bind s1 (Ev.bind m1 (Ev.bind l1 (Ev.bind w1 (Ev.bind n1 (Ev.bind d1 (Ev.bind r1 (Ev.bind x1 (Ev.const rI (Ev.bind rS (Ev.ite_pos rfl (Ev.ite_pos rfl (Ev.bind b2 (Ev.bind b1 (Ev.ite_neg (hne _) ?_))))))))))))))
  refine Ev.bind o2 (Ev.bind o1 (Ev.ite_neg (hne _) (Ev.const (decText_f d2) (Ev.bind (dt_ev d2) (Ev.ite_pos rfl (Ev.ite_pos rfl (Ev.ite_neg (hne _) (Ev.const (words_f x q2) (Ev.bind (words_ev x q2) (Ev.bind (sameT_ev _ (words_len x q2)) (Ev.ite_pos rfl ?_)))))))))))
  exact law_loop s s2 L2 l0 m2 m3 m4 n r n2 L2.1.length 0 (by omega)
theorem FnLex : ∀ (l0 : List (Int)), (l0.length ≤ maxLen ∧ ∀ x_ ∈ l0, (Lit.int .u8 x_).wf = true) → ∃ k, laws_FnLex.f k l0 = some true := fun l0 _ => Ev.rounds (lex_law l0)
end Go.Proofs.YtbihpjngmjkjmaaDoor.Pure
