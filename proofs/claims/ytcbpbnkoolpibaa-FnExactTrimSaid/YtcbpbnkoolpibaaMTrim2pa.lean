/- Functions of the program and of the reference as plain functions, and that the Go code comes to their answers; several texts in one. No conditions beyond what each theorem says. -/
import Derived.Test.YtcbpbnkoolpibaaMTrimxF21
import Derived.Test.YtcbpbnkoolpibaaMTrim0a
import Derived.Test.YtcbpbnkoolpibaaMTrim2ta
import Derived.Test.YtcbpbnkoolpibaaMTrimxF36
import Derived.Test.YtcbpbnkoolpibaaMTrim0sa
import Derived.Test.YtcbpbnkoolpibaaMTrim2ra
import Derived.Test.YtcbpbnkoolpibaaMTrim0c
import Derived.Test.YtcbpbnkoolpibaaMTrim0ya
import Derived.Test.YtcbpbnkoolpibaaMTrim0b
namespace Go.Proofs.Ytcbpbnkoolpibaa.Gr
open Go.RowKit Go.Proofs.Ytcbpbnkoolpibaa.P Go.Proofs.YtcbpbnkoolpibaaW.PrintWords Go.Proofs.YtcbpbnkoolpibaaW.PrintLast Go.Proofs.Ytcbpbnkoolpibaa.Aux
set_option linter.unusedVariables false
set_option linter.unusedSimpArgs false
theorem rev_ev (b : S47) : Ev (fun k => slices_Reverse_int_int.f k (nextL b)) (nextL b).reverse := by
  refine ⟨3, fun k hk => ?_⟩
  obtain ⟨m, rfl⟩ : ∃ m, k = m + 3 := ⟨k - 3, by omega⟩
  unfold nextL
  repeat' split
  · simp [slices_Reverse_int_int.f, slices_Reverse_int_int.l0, wrap64]
  · simp [slices_Reverse_int_int.f, slices_Reverse_int_int.l0, wrap64, rd]
  · simp [slices_Reverse_int_int.f, slices_Reverse_int_int.l0, wrap64]
/-- The blocks that are come to. -/
inductive Reach (bs : List S47) : Nat → Prop
  | start : Reach bs 0
  | step {x y : Nat} (h : Reach bs x) (hx : x < bs.length) (hy : (y : Int) ∈ nextL (bs[x]'hx)) : Reach bs y
theorem l1_hit (zs : List Int) (p v s : Int) (bs : List S47) (seen todo nx : List Int) (i y : Nat) (hi : (i : Int) < (nx.length : Int)) (hn : (nx.length : Int) ≤ 1000) (hr : rd nx (i : Int) = (y : Int)) (hy : (y : Int) < (seen.length : Int)) (h0 : rd seen (y : Int) = 0) (ht : todo.length < 17592186044416) (k : Nat) :
    spec_Blocks.l1 (k + 1) [] seen todo nx (i : Int) zs p v s bs = spec_Blocks.l1 k [] (seen.set y 1) (todo ++ [(y : Int)]) nx ((i + 1 : Nat) : Int) zs p v s bs := by
  have hw : wrap64 ((i : Int) + 1) = ((i + 1 : Nat) : Int) := by rw [wrap_ok (by omega) (by omega)]; omega
  have a1 : 0 ≤ (i : Int) := by omega
  have a2 : 0 ≤ (y : Int) := by omega
  rw [spec_Blocks.l1, if_pos hi, if_pos a1, hr, if_pos a2, if_pos hy, if_pos h0, if_pos ht, hw, Int.toNat_natCast]
theorem l1_miss (zs : List Int) (p v s : Int) (bs : List S47) (seen todo nx : List Int) (i y : Nat) (hi : (i : Int) < (nx.length : Int)) (hn : (nx.length : Int) ≤ 1000) (hr : rd nx (i : Int) = (y : Int)) (hy : (y : Int) < (seen.length : Int)) (h0 : ¬ rd seen (y : Int) = 0) (k : Nat) :
    spec_Blocks.l1 (k + 1) [] seen todo nx (i : Int) zs p v s bs = spec_Blocks.l1 k [] seen todo nx ((i + 1 : Nat) : Int) zs p v s bs := by
  have hw : wrap64 ((i : Int) + 1) = ((i + 1 : Nat) : Int) := by rw [wrap_ok (by omega) (by omega)]; omega
  have a1 : 0 ≤ (i : Int) := by omega
  have a2 : 0 ≤ (y : Int) := by omega
  rw [spec_Blocks.l1, if_pos hi, if_pos a1, hr, if_pos a2, if_pos hy, if_neg h0, hw]
theorem l1_end (zs : List Int) (p v s : Int) (bs : List S47) (seen todo nx : List Int) (i : Nat) (hi : ¬ (i : Int) < (nx.length : Int)) (k : Nat) : spec_Blocks.l1 (k + 1) [] seen todo nx (i : Int) zs p v s bs = spec_Blocks.l0 k [] seen todo zs p v s bs := by
  rw [spec_Blocks.l1, if_neg hi]
theorem l0_pop (zs : List Int) (p v s : Int) (bs : List S47) (seen todo : List Int) (n : Nat) (h : n < bs.length) (k : Nat) : spec_Blocks.l0 (k + 1) [] seen ((n : Int) :: todo) zs p v s bs = spec_Blocks.l1 k [] seen todo (nextL bs[n]) ((0 : Nat) : Int) zs p v s bs := by
  have hr0 : rd ((n : Int) :: todo) 0 = (n : Int) := rfl
  have a1 : (((n : Int) :: todo).length : Int) > 0 := by simp
  have a2 : 0 < (((n : Int) :: todo).length : Int) := a1
  have a3 : 0 ≤ (n : Int) := by omega
  have a4 : (n : Int) < (bs.length : Int) := by omega
  have a5 : 1 ≤ (((n : Int) :: todo).length : Int) := a1
  rw [spec_Blocks.l0, if_pos a1, if_pos a2, hr0, if_pos a3, if_pos a4, rdIB bs n h, next_s, Option.bind_some, if_pos a5]
  rfl
theorem l0_end (zs : List Int) (p v s : Int) (bs : List S47) (seen : List Int) (k : Nat) : spec_Blocks.l0 (k + 1) [] seen [] zs p v s bs = spec_Blocks.l2 k [] seen 0 := by
  rw [spec_Blocks.l0, if_neg (by simp)]
section
variable (zs : List Int) (p v s : Int) (bs : List S47) (hb : bs.length ≤ 1048576) (hn : ∀ b ∈ bs, ∀ x ∈ nextL b, 0 ≤ x ∧ x < (bs.length : Int))
include hb hn
omit hb in
set_option maxHeartbeats 1000000 in
theorem order_ev (M : Nat) : ∀ (seen : List Bool) (out st : List Int), seen.length = bs.length → 3 * seen.count false + st.length ≤ M → out.length + seen.count false ≤ 4294967296 → st.length + 2 * seen.count false ≤ 4294967296 →
    (∀ x ∈ st, ∃ n : Nat, x = (n : Int) ∧ n < bs.length ∧ Reach bs n) → (∀ x ∈ out, ∃ n : Nat, x = (n : Int) ∧ n < bs.length ∧ Reach bs n) → (∀ (n : Nat) (h : n < seen.length), seen[n] = true ↔ (n : Int) ∈ out) →
    (∀ (n : Nat) (h : n < bs.length), (n : Int) ∈ out → ∀ y ∈ nextL bs[n], y ∈ out ∨ y ∈ st) → ((0 : Int) ∈ out ∨ (0 : Int) ∈ st) →
    ∃ R, Ev (fun k => impl_order.l0 k seen out st zs p v s bs) R ∧ R.length ≤ 4294967296 ∧ (∀ x, x ∈ R ↔ ∃ n : Nat, x = (n : Int) ∧ n < bs.length ∧ Reach bs n) ∧ (0 : Int) ∈ R := by
  induction M using Nat.strongRecOn with
  | ind M IH =>
  intro seen out st hl hM ho hs2 hst hout hseen hcl h0
  rcases List.eq_nil_or_concat st with rfl | ⟨S, x, rfl⟩
  · have h00 : (0 : Int) ∈ out := h0.elim id fun h => by cases h
    refine ⟨out, Ev.step (f := fun _ => some out) (fun k => by rw [impl_order.l0, if_neg (by simp)]) (Ev.now _), by omega, fun x => ⟨hout x, ?_⟩, h00⟩
    rintro ⟨n, rfl, hnl, hr⟩
    clear hnl
    induction hr with
    | start => exact h00
    | step h hx hy ih => exact (hcl _ hx ih _ hy).elim id fun h => by cases h
  · rw [List.concat_eq_append] at hst hcl h0 hM hs2 ⊢
    obtain ⟨n, rfl, hnb, hnr⟩ := hst x (by simp)
    have hxl' : n < seen.length := by omega
    rw [List.length_append, List.length_singleton] at hM hs2
    have h1 : (S ++ [(n : Int)]).length = S.length + 1 := by simp
    have q2 : wrap64 (((S ++ [(n : Int)]).length : Int) - 1) = (S.length : Int) := by rw [h1, wrap_ok (by omega) (by omega)]; omega
    have q3 : rd (S ++ [(n : Int)]) (S.length : Int) = (n : Int) := by rw [rd_lt _ _ (by omega)]; simp
    have q4 : (S ++ [(n : Int)]).take ((S.length : Int)).toNat = S := by rw [Int.toNat_natCast, List.take_left']; rfl
    have hsn := rdOf_lt false seen n hxl'
    have hbx := rdIB bs n hnb
    cases hsx : seen[n] with
    | true =>
      have hno : (n : Int) ∈ out := (hseen n hxl').1 hsx
      obtain ⟨R, g1, g2, g3, g4⟩ := IH (M - 1) (by omega) seen out S hl (by omega) ho (by omega) (fun x hx => hst x (by simp [hx])) hout hseen (fun m hm hmo y hy => by
        rcases hcl m hm hmo y hy with h | h
        · exact .inl h
        · rcases List.mem_append.1 h with h | h
          · exact .inr h
          · obtain rfl := List.mem_singleton.1 h
            exact .inl hno) (h0.elim .inl fun h => by
        rcases List.mem_append.1 h with h | h
        · exact .inr h
        · rw [List.mem_singleton.1 h]
          exact .inl hno)
      exact ⟨R, Ev.step (f := fun k => impl_order.l0 k seen out S zs p v s bs) (fun k => by rw [impl_order.l0, if_pos (by omega), q2, if_pos (by omega), if_pos (by omega), if_pos (by omega), q3, q4, Option.bind_some, if_pos (by omega), if_pos (by omega), hsn, if_pos hsx]) g1, g2, g3, g4⟩
    | false =>
      have hcnt := set_count seen n hxl' hsx
      have hne : ∀ y ∈ nextL bs[n], 0 ≤ y ∧ y < (bs.length : Int) := hn bs[n] (List.getElem_mem hnb)
      have hnl := nextL_length bs[n]
      have hsl : (S ++ (nextL bs[n]).reverse).length = S.length + (nextL bs[n]).length := by rw [List.length_append, List.length_reverse]
      obtain ⟨R, g1, g2, g3, g4⟩ := IH (M - 1) (by omega) (seen.set n true) (out ++ [(n : Int)]) (S ++ (nextL bs[n]).reverse) (by rw [List.length_set]; exact hl) (by omega) (by rw [List.length_append]; simp; omega) (by omega)
        (fun x hx => by
          rcases List.mem_append.1 hx with h | h
          · exact hst x (by simp [h])
          · rw [List.mem_reverse] at h
            obtain ⟨a, b⟩ := hne x h
            exact ⟨x.toNat, by omega, by omega, .step hnr hnb (by rw [show ((x.toNat : Nat) : Int) = x by omega]; exact h)⟩)
        (fun x hx => by
          rcases List.mem_append.1 hx with h | h
          · exact hout x h
          · exact ⟨n, List.mem_singleton.1 h, hnb, hnr⟩)
        (fun m hm => by
          rw [List.length_set] at hm
          rw [List.getElem_set, List.mem_append, List.mem_singleton]
          by_cases e : n = m
          · subst e
            simp
          · rw [if_neg e, hseen m hm]
            exact ⟨.inl, fun h => h.elim id fun h => absurd (by omega) e⟩)
        (fun m hm hmo y hy => by
          rcases List.mem_append.1 hmo with h | h
          · rcases hcl m hm h y hy with h | h
            · exact .inl (by simp [h])
            · rcases List.mem_append.1 h with h | h
              · exact .inr (by simp [h])
              · exact .inl (by rw [List.mem_append]; exact .inr h)
          · have e : m = n := by have := List.mem_singleton.1 h; omega
            subst e
            exact .inr (by rw [List.mem_append, List.mem_reverse]; exact .inr hy))
        (h0.elim (fun h => .inl (by simp [h])) fun h => by
          rcases List.mem_append.1 h with h | h
          · exact .inr (by simp [h])
          · exact .inl (by rw [List.mem_append]; exact .inr h))
      refine ⟨R, Ev.step (f := fun k => (slices_Reverse_int_int.f k (nextL bs[n])).bind fun t124 => if S.length + t124.length < 17592186044416 then impl_order.l0 k (seen.set n true) (out ++ [(n : Int)]) (S ++ t124) zs p v s bs else none) (fun k => by rw [impl_order.l0, if_pos (by omega), q2, if_pos (by omega), if_pos (by omega), if_pos (by omega), q3, q4, Option.bind_some, if_pos (by omega), if_pos (by omega), hsn, if_neg (by rw [hsx]; simp), if_pos (by omega), if_pos (by omega), hbx, next_i, Option.bind_some, Int.toNat_natCast]) (Ev.bind (rev_ev bs[n]) ?_), g2, g3, g4⟩
      exact Ev.ite_pos (by rw [List.length_reverse]; omega) g1
/-- The places of the ones in a row, from a place on. -/
def pk (seen : List Int) (i : Nat) : List Int := ((List.range' i (seen.length - i)).filter fun j => seen.getD j 0 = 1).map Int.ofNat
omit hb hn in
theorem pk_mem (seen : List Int) (y : Int) : y ∈ pk seen 0 ↔ ∃ m : Nat, y = (m : Int) ∧ m < seen.length ∧ seen.getD m 0 = 1 := by
  unfold pk
  simp only [List.mem_map, List.mem_filter, List.mem_range'_1, decide_eq_true_eq]
  constructor
  · rintro ⟨m, ⟨⟨_, h1⟩, h2⟩, rfl⟩
    exact ⟨m, rfl, by omega, h2⟩
  · rintro ⟨m, rfl, h1, h2⟩
    exact ⟨m, ⟨⟨by omega, by omega⟩, h2⟩, rfl⟩
omit hb hn in
theorem pk_asc (seen : List Int) (i : Nat) : (pk seen i).Pairwise (· < ·) := by
  unfold pk
  rw [List.pairwise_map]
  refine List.Pairwise.imp (fun {a b} (h : a < b) => ?_) (List.Pairwise.filter _ List.pairwise_lt_range')
  exact Int.ofNat_lt.2 h
omit hb hn in
theorem pk_len (seen : List Int) (i : Nat) : (pk seen i).length ≤ seen.length - i := by
  unfold pk
  rw [List.length_map]
  refine Nat.le_trans (List.length_filter_le _ _) ?_
  simp
omit hb hn in
theorem l2_ev (seen : List Int) (hl : seen.length ≤ 1048576) (d : Nat) : ∀ (i : Nat) (acc : List Int), i + d = seen.length → acc.length + d ≤ 1048576 → Ev (fun k => spec_Blocks.l2 k acc seen (i : Int)) (acc ++ pk seen i) := by
  induction d with
  | zero =>
    intro i acc hi ha
    have : pk seen i = [] := by unfold pk; rw [show seen.length - i = 0 by omega]; rfl
    rw [this, List.append_nil]
    exact Ev.step (f := fun _ => some acc) (fun k => by rw [spec_Blocks.l2, if_neg (by omega)]) (Ev.now _)
  | succ d ih =>
    intro i acc hi ha
    have hi' : i < seen.length := by omega
    have hr := rd_lt seen i hi'
    have hw : wrap64 ((i : Int) + 1) = ((i + 1 : Nat) : Int) := by rw [wrap_ok (by omega) (by omega)]; omega
    have hg : seen.getD i 0 = seen[i] := by rw [List.getD_eq_getElem?_getD, List.getElem?_eq_getElem hi']; rfl
    have hp : pk seen i = if seen[i] = 1 then (i : Int) :: pk seen (i + 1) else pk seen (i + 1) := by
      unfold pk
      rw [show seen.length - i = (seen.length - (i + 1)) + 1 by omega, List.range'_succ, List.filter_cons, hg]
      by_cases h : seen[i] = 1
      · rw [if_pos (by simpa using h), if_pos h]
        rfl
      · rw [if_neg (by simpa using h), if_neg h]
    rw [hp]
    by_cases h : seen[i] = 1
    · rw [if_pos h]
      have := ih (i + 1) (acc ++ [(i : Int)]) (by omega) (by rw [List.length_append]; simp; omega)
      rw [List.append_assoc, List.singleton_append] at this
      exact Ev.step (fun k => by rw [spec_Blocks.l2, if_pos (by omega), if_pos (by omega), hr, if_pos h, if_pos (by omega), hw]) this
    · rw [if_neg h]
      exact Ev.step (fun k => by rw [spec_Blocks.l2, if_pos (by omega), if_pos (by omega), hr, if_neg h, hw]) (ih (i + 1) acc (by omega) (by omega))
/-- What holds of the marks. -/
def InvF (bs : List S47) (seen todo : List Int) : Prop := seen.length = bs.length ∧ (∀ m : Nat, m < seen.length → seen.getD m 0 = 0 ∨ seen.getD m 0 = 1) ∧ (∀ m : Nat, m < seen.length → seen.getD m 0 = 1 → Reach bs m) ∧ (∀ x ∈ todo, ∃ n : Nat, x = (n : Int) ∧ n < bs.length ∧ seen.getD n 0 = 1) ∧ seen.getD 0 0 = 1
omit hb hn in
theorem getD_set (l : List Int) (i j : Nat) (x : Int) : (l.set i x).getD j 0 = if i = j ∧ j < l.length then x else l.getD j 0 := by
  rw [List.getD_eq_getElem?_getD, List.getD_eq_getElem?_getD, List.getElem?_set]
  by_cases h : i = j
  · subst h
    by_cases h2 : i < l.length
    · simp [h2]
    · simp [h2]
  · simp [h]
omit hb hn in
theorem set_zero (seen : List Int) (i : Nat) (h : i < seen.length) (hf : seen[i] = 0) : (seen.set i 1).count 0 + 1 = seen.count 0 := by
  have h1 : 0 < seen.count 0 := List.count_pos_iff.2 (hf ▸ List.getElem_mem h)
  rw [List.count_set h, hf]
  simp
  omega
set_option maxHeartbeats 2000000 in
theorem bfs_ev (hpos : 0 < bs.length) (M : Nat) : ∀ (seen todo : List Int), InvF bs seen todo → 2 * seen.count 0 + todo.length ≤ M → todo.length + seen.count 0 ≤ 4294967296 →
    (∀ m : Nat, m < seen.length → seen.getD m 0 = 1 → (m : Int) ∈ todo ∨ ∀ (h : m < bs.length), ∀ y ∈ nextL bs[m], seen.getD y.toNat 0 = 1) →
    ∃ R, Ev (fun k => spec_Blocks.l0 k [] seen todo zs p v s bs) R ∧ R.Pairwise (· < ·) ∧ R.length ≤ 1048576 ∧ ∀ x, x ∈ R ↔ ∃ n : Nat, x = (n : Int) ∧ n < bs.length ∧ Reach bs n := by
  induction M using Nat.strongRecOn with
  | ind M IH =>
  intro seen todo hI hM hlen hcl
  obtain ⟨i1, i2, i3, i4, i5⟩ := hI
  cases todo with
  | nil =>
    have hv := l2_ev seen (by omega) seen.length 0 [] (by omega) (by simp; omega)
    rw [List.nil_append] at hv
    refine ⟨pk seen 0, Ev.step (f := fun k => spec_Blocks.l2 k [] seen 0) (fun k => l0_end zs p v s bs seen k) hv, pk_asc seen 0, by have := pk_len seen 0; omega, fun x => (pk_mem seen x).trans ⟨?_, ?_⟩⟩
    · rintro ⟨m, rfl, h1, h2⟩
      exact ⟨m, rfl, by omega, i3 m h1 h2⟩
    · rintro ⟨n, rfl, hnl, hr⟩
      refine ⟨n, rfl, by omega, ?_⟩
      clear hnl
      induction hr with
      | start => exact i5
      | @step x y h hx hy ih =>
        have := (hcl x (by omega) ih).elim (fun h => by cases h) fun h => h hx _ hy
        rwa [Int.toNat_natCast] at this
  | cons x0 todo =>
    obtain ⟨n, rfl, hnb, hns⟩ := i4 x0 (by simp)
    have hbx := rdIB bs n hnb
    have hnl := nextL_length bs[n]
    have hne := hn bs[n] (List.getElem_mem hnb)
    have hr0 : rd ((n : Int) :: todo) 0 = (n : Int) := rfl
    have hnr := i3 n (by omega) hns
    rw [List.length_cons] at hM hlen
    -- the inner loop
    have key : ∀ (e i : Nat) (seen todo : List Int), i + e = (nextL bs[n]).length → InvF bs seen todo → 2 * seen.count 0 + todo.length ≤ M - 1 → todo.length + seen.count 0 ≤ 4294967296 →
        (∀ m : Nat, m < seen.length → seen.getD m 0 = 1 → (m : Int) ∈ todo ∨ (m = n ∧ ∀ y ∈ (nextL bs[n]).take i, seen.getD y.toNat 0 = 1) ∨ ∀ (h : m < bs.length), ∀ y ∈ nextL bs[m], seen.getD y.toNat 0 = 1) →
        ∃ R, Ev (fun k => spec_Blocks.l1 k [] seen todo (nextL bs[n]) (i : Int) zs p v s bs) R ∧ R.Pairwise (· < ·) ∧ R.length ≤ 1048576 ∧ ∀ x, x ∈ R ↔ ∃ n : Nat, x = (n : Int) ∧ n < bs.length ∧ Reach bs n := by
      intro e
      induction e with
      | zero =>
        intro i seen todo hi hI hM' hlen' hcl'
        obtain ⟨R, g1, g2⟩ := IH (M - 1) (by omega) seen todo hI hM' hlen' fun m hm hms => by
          rcases hcl' m hm hms with h | ⟨rfl, h⟩ | h
          · exact .inl h
          · rw [List.take_of_length_le (by omega)] at h
            exact .inr fun _ => h
          · exact .inr h
        exact ⟨R, Ev.step (f := fun k => spec_Blocks.l0 k [] seen todo zs p v s bs) (fun k => l1_end zs p v s bs seen todo _ i (by omega) k) g1, g2⟩
      | succ e ih =>
        intro i seen todo hi hI hM' hlen' hcl'
        have hi' : i < (nextL bs[n]).length := by omega
        obtain ⟨y0, y1⟩ := hne _ (List.getElem_mem hi')
        obtain ⟨y, hy⟩ : ∃ y : Nat, (y : Int) = (nextL bs[n])[i] := ⟨(nextL bs[n])[i].toNat, by omega⟩
        have hr : rd (nextL bs[n]) (i : Int) = (y : Int) := (rd_lt _ i hi').trans hy.symm
        have hym : (y : Int) ∈ nextL bs[n] := by rw [hy]; exact List.getElem_mem hi'
        have hyl : y < seen.length := by rw [hI.1]; omega
        have hrs := rd_lt seen y hyl
        have hgs : seen.getD y 0 = seen[y] := by rw [List.getD_eq_getElem?_getD, List.getElem?_eq_getElem hyl]; rfl
        have htk : (nextL bs[n]).take (i + 1) = (nextL bs[n]).take i ++ [(y : Int)] := by rw [List.take_succ_eq_append_getElem hi', hy]
        obtain ⟨j1, j2, j3, j4, j5⟩ := hI
        by_cases h0 : seen[y] = 0
        · have hc := set_zero seen y hyl h0
          have hmono : ∀ m : Nat, seen.getD m 0 = 1 → (seen.set y 1).getD m 0 = 1 := fun m hm => by
            rw [getD_set]
            split
            · rfl
            · exact hm
          have hyy : (seen.set y 1).getD y 0 = 1 := by rw [getD_set, if_pos ⟨rfl, hyl⟩]
          obtain ⟨R, g1, g2⟩ := ih (i + 1) (seen.set y 1) (todo ++ [(y : Int)]) (by omega) ⟨by rw [List.length_set]; exact j1, fun m hm => by
              rw [getD_set]
              split
              · exact .inr rfl
              · exact j2 m (by simpa using hm), fun m hm hms => by
              rw [getD_set] at hms
              split at hms
              · rename_i e
                rw [← e.1]
                exact .step hnr hnb hym
              · exact j3 m (by simpa using hm) hms, fun x hx => by
              rcases List.mem_append.1 hx with h | h
              · obtain ⟨q, rfl, a, b⟩ := j4 x h
                exact ⟨q, rfl, a, hmono q b⟩
              · exact ⟨y, List.mem_singleton.1 h, by omega, hyy⟩, hmono 0 j5⟩ (by rw [List.length_append]; simp; omega) (by rw [List.length_append]; simp; omega) (fun m hm hms => by
              rw [List.length_set] at hm
              by_cases e : m = y
              · subst e
                exact .inl (by simp)
              · rw [getD_set, if_neg (fun h => e h.1.symm)] at hms
                rcases hcl' m hm hms with h | ⟨h1, h⟩ | h
                · exact .inl (by simp [h])
                · refine .inr (.inl ⟨h1, fun z hz => ?_⟩)
                  rw [htk] at hz
                  rcases List.mem_append.1 hz with hz | hz
                  · exact hmono _ (h z hz)
                  · rw [List.mem_singleton.1 hz, Int.toNat_natCast]
                    exact hyy
                · exact .inr (.inr fun hm z hz => hmono _ (h hm z hz)))
          exact ⟨R, Ev.step (f := fun k => spec_Blocks.l1 k [] (seen.set y 1) (todo ++ [(y : Int)]) (nextL bs[n]) ((i + 1 : Nat) : Int) zs p v s bs) (fun k => l1_hit zs p v s bs seen todo _ i y (by omega) (by omega) hr (by omega) (hrs.trans h0) (by omega) k) g1, g2⟩
        · have h1 : seen[y] = 1 := by
            have := j2 y hyl
            rw [hgs] at this
            exact this.elim (fun h => absurd h h0) id
          obtain ⟨R, g1, g2⟩ := ih (i + 1) seen todo (by omega) ⟨j1, j2, j3, j4, j5⟩ hM' hlen' fun m hm hms => by
            rcases hcl' m hm hms with h | ⟨h2, h⟩ | h
            · exact .inl h
            · refine .inr (.inl ⟨h2, fun z hz => ?_⟩)
              rw [htk] at hz
              rcases List.mem_append.1 hz with hz | hz
              · exact h z hz
              · rw [List.mem_singleton.1 hz, Int.toNat_natCast, hgs]
                exact h1
            · exact .inr (.inr h)
          exact ⟨R, Ev.step (f := fun k => spec_Blocks.l1 k [] seen todo (nextL bs[n]) ((i + 1 : Nat) : Int) zs p v s bs) (fun k => l1_miss zs p v s bs seen todo _ i y (by omega) (by omega) hr (by omega) (fun h => h0 (hrs.symm.trans h)) k) g1, g2⟩
    obtain ⟨R, g1, g2⟩ := key (nextL bs[n]).length 0 seen todo (by omega) ⟨i1, i2, i3, fun x hx => i4 x (by simp [hx]), i5⟩ (by omega) (by omega) fun m hm hms => by
      rcases hcl m hm hms with h | h
      · rcases List.mem_cons.1 h with h | h
        · exact .inr (.inl ⟨by omega, fun y hy => by simp at hy⟩)
        · exact .inl h
      · exact .inr (.inr h)
    exact ⟨R, Ev.step (f := fun k => spec_Blocks.l1 k [] seen todo (nextL bs[n]) ((0 : Nat) : Int) zs p v s bs) (fun k => l0_pop zs p v s bs seen todo n hnb k) g1, g2⟩
end
theorem zeros_l0 (n : Nat) (hn : n ≤ 1048576) (d : Nat) : ∀ i : Nat, i + d = n → Ev (fun k => spec_l03Zeros.l0 k (n : Int) (List.replicate i 0) (i : Int)) (List.replicate n 0) := by
  induction d with
  | zero =>
    intro i hi
    obtain rfl : i = n := by omega
    exact Ev.step (f := fun _ => some _) (fun k => by rw [spec_l03Zeros.l0, if_neg (by omega)]) (Ev.now _)
  | succ d ih =>
    intro i hi
    have hw : wrap64 ((i : Int) + 1) = ((i + 1 : Nat) : Int) := by rw [wrap_ok (by omega) (by omega)]; omega
    have := ih (i + 1) (by omega)
    rw [List.replicate_succ'] at this
    exact Ev.step (fun k => by rw [spec_l03Zeros.l0, if_pos (by omega), if_pos (by rw [List.length_replicate]; omega), hw]) this
theorem zeros_ev (n : Nat) (hn : n ≤ 1048576) : Ev (fun k => spec_l03Zeros.f k (n : Int)) (List.replicate n 0) := zeros_l0 n hn n 0 (by omega)
/-- The blocks that are come to, in order, on both sides; and the program's walk over them. -/
theorem Blocks_ok (zs : List Int) (p v s : Int) (bs : List S47) (hb : bs.length ≤ 1048576) (hG : Ok.okG zs p v s bs = true) :
    ∃ r o, Ev (fun k => impl_order.f k zs p v s bs) o ∧ impl_ascending.f o = some r ∧ (∀ M : Ev (fun k => spec_GraphOk.f k zs p v s bs) true, Ev (fun k => spec_Blocks.f k zs p v s bs) r) ∧ r.Pairwise (· < ·) ∧ r.length ≤ 1048576 ∧ ∀ x, x ∈ r ↔ ∃ n : Nat, x = (n : Int) ∧ n < bs.length ∧ Reach bs n := by
  obtain ⟨hn, hp⟩ := okG_next hG
  have hcl : (List.replicate bs.length false).count false = bs.length := by simp
  obtain ⟨o, o1, o2, o3, o4⟩ := order_ev zs p v s bs hn (3 * bs.length + 1) (List.replicate bs.length false) [] [0] (by simp) (by rw [hcl]; simp) (by rw [hcl]; simp; omega) (by rw [hcl]; simp; omega)
    (fun x hx => ⟨0, by simpa using hx, hp, .start⟩) (fun x hx => by cases hx) (fun n h => by simp) (fun n h ho => by cases ho) (.inr (by simp))
  have hz : (List.replicate bs.length (0 : Int)).count 0 = bs.length := by simp
  have hz2 : ((List.replicate bs.length (0 : Int)).set 0 1).count 0 + 1 = bs.length := by
    have := set_zero (List.replicate bs.length (0 : Int)) 0 (by simpa using hp) (by simp)
    omega
  have hr0 : ∀ m : Nat, (List.replicate bs.length (0 : Int)).getD m 0 = 0 := fun m => by
    rw [List.getD_eq_getElem?_getD, List.getElem?_replicate]
    split <;> rfl
  have hS : ∀ m : Nat, ((List.replicate bs.length (0 : Int)).set 0 1).getD m 0 = 1 → m = 0 := fun m hms => by
    rw [getD_set] at hms
    split at hms
    · rename_i e
      exact e.1.symm
    · rw [hr0] at hms
      cases hms
  have hS0 : ((List.replicate bs.length (0 : Int)).set 0 1).getD 0 0 = 1 := by rw [getD_set, if_pos ⟨rfl, by simpa using hp⟩]
  have hInv : InvF bs ((List.replicate bs.length (0 : Int)).set 0 1) [0] := by
    refine ⟨by simp, fun m hm => ?_, fun m hm hms => ?_, fun x hx => ⟨0, by simpa using hx, hp, hS0⟩, hS0⟩
    · rw [getD_set]
      split
      · exact .inr rfl
      · exact .inl (hr0 m)
    · rw [hS m hms]
      exact .start
  obtain ⟨r, r1, r2, r3, r4⟩ := bfs_ev zs p v s bs hb hn hp (2 * bs.length + 1) ((List.replicate bs.length (0 : Int)).set 0 1) [0] hInv (by simp only [List.length_singleton]; omega) (by simp only [List.length_singleton]; omega) (fun m hm hms => by
    rw [hS m hms]
    exact .inl (by simp))
  obtain ⟨s1, s2⟩ := asc_sorted o
  have hone : ascL o = r := asc_one _ _ s1 r2 fun y => (s2 y).trans ((o3 y).trans (r4 y).symm)
  have hol : 0 < o.length := List.length_pos_of_mem o4
  refine ⟨r, o, Ev.ite_pos (by omega) (Ev.ite_pos (by omega) (by rw [Int.toNat_natCast]; exact o1)), by unfold impl_ascending.f; rw [if_pos ⟨hol, by omega⟩, hone], fun hM => ?_, r2, r3, r4⟩
  refine Ev.const rfl (Ev.bind hM (Ev.ite_pos rfl (Ev.bind (zeros_ev bs.length hb) (Ev.ite_pos (by simp; omega) ?_))))
  exact r1
end Go.Proofs.Ytcbpbnkoolpibaa.Gr
namespace Go.Proofs.Ytcbpbnkoolpibaa.Gr
open Go.RowKit Go.Proofs.Ytcbpbnkoolpibaa.P Go.Proofs.YtcbpbnkoolpibaaW.PrintWords Go.Proofs.YtcbpbnkoolpibaaW.PrintLast Go.Proofs.Ytcbpbnkoolpibaa.Aux
set_option linter.unusedVariables false
set_option linter.unusedSimpArgs false
theorem rdBt (xs : List S47) (i : Nat) (h : i < xs.length) : rd_T47 xs (i : Int) = xs[i] := by
  unfold rd_T47
  rw [Int.toNat_natCast, List.getD_eq_getElem?_getD, List.getElem?_eq_getElem h]
  rfl
theorem etaB (b : S47) : (⟨[] ++ b.f0, b.f1, b.f2, b.f3, b.f4⟩ : S47) = b := by cases b; rfl
theorem takeB (bs : List S47) (i : Nat) (h : i < bs.length) : bs.take (i + 1) = bs.take i ++ [bs[i]] := by
  rw [List.take_add_one, List.getElem?_eq_getElem h]
  rfl
theorem copyI_l0 (zs : List Int) (p v s : Int) (bs : List S47) (hb : bs.length ≤ 1048576) (hc : ∀ b ∈ bs, b.f0.length ≤ 4294967296) (d : Nat) : ∀ i : Nat, i + d = bs.length → Ev (fun k => impl_copyGraph.l0 k bs (bs.length : Int) (i : Int) zs p v s (bs.take i)) (zs, p, v, s, bs) := by
  induction d with
  | zero =>
    intro i hi
    obtain rfl : i = bs.length := by omega
    rw [List.take_length]
    exact Ev.step (f := fun _ => some _) (fun k => by rw [impl_copyGraph.l0, if_neg (by omega)]) (Ev.now _)
  | succ d ih =>
    intro i hi
    have hlt : i < bs.length := by omega
    have hw : wrap64 ((i : Int) + 1) = ((i + 1 : Nat) : Int) := by rw [wrap_ok (by omega) (by omega)]; omega
    have h1 := ih (i + 1) (by omega)
    have hl := hc bs[i] (List.getElem_mem hlt)
    rw [takeB bs i hlt] at h1
    exact Ev.step (fun k => by rw [impl_copyGraph.l0, if_pos (by omega), if_pos (by omega), if_pos (by omega), Option.bind_some, rdBt bs i hlt, if_pos (by rw [List.length_nil]; omega), if_pos (by rw [List.length_take]; omega), hw, etaB]) h1
theorem copyI_ev (zs : List Int) (p v s : Int) (bs : List S47) (hz : zs.length ≤ 1048576) (hb : bs.length ≤ 1048576) (hc : ∀ b ∈ bs, b.f0.length ≤ 4294967296) : Ev (fun k => impl_copyGraph.f k zs p v s bs) (zs, p, v, s, bs) := by
  unfold impl_copyGraph.f
  refine Ev.const rfl (Ev.ite_pos (by rw [List.length_nil]; omega) ?_)
  exact copyI_l0 zs p v s bs hb hc bs.length 0 (by omega)
theorem copyS_l0 (zs : List Int) (p v s : Int) (bs : List S47) (hb : bs.length ≤ 1048576) (hc : ∀ b ∈ bs, b.f0.length ≤ 4294967296) (d : Nat) : ∀ i : Nat, i + d = bs.length → Ev (fun k => spec_l04Copy.l0 k (i : Int) zs p v s bs zs p v s (bs.take i)) (zs, p, v, s, bs) := by
  induction d with
  | zero =>
    intro i hi
    obtain rfl : i = bs.length := by omega
    rw [List.take_length]
    exact Ev.step (f := fun _ => some _) (fun k => by rw [spec_l04Copy.l0, if_neg (by omega)]) (Ev.now _)
  | succ d ih =>
    intro i hi
    have hlt : i < bs.length := by omega
    have hw : wrap64 ((i : Int) + 1) = ((i + 1 : Nat) : Int) := by rw [wrap_ok (by omega) (by omega)]; omega
    have h1 := ih (i + 1) (by omega)
    have hl := hc bs[i] (List.getElem_mem hlt)
    rw [takeB bs i hlt] at h1
    exact Ev.step (fun k => by rw [spec_l04Copy.l0, if_pos (by omega), if_pos (by omega), Option.bind_some, rdBt bs i hlt, if_pos (by rw [List.length_nil]; omega), if_pos (by rw [List.length_take]; omega), hw, etaB]) h1
theorem copyS_ev (zs : List Int) (p v s : Int) (bs : List S47) (hz : zs.length ≤ 1048576) (hb : bs.length ≤ 1048576) (hc : ∀ b ∈ bs, b.f0.length ≤ 4294967296) : Ev (fun k => spec_l04Copy.f k zs p v s bs) (zs, p, v, s, bs) := by
  unfold spec_l04Copy.f
  refine Ev.const rfl (Ev.ite_pos (by rw [List.length_nil]; omega) ?_)
  exact copyS_l0 zs p v s bs hb hc bs.length 0 (by omega)
end Go.Proofs.Ytcbpbnkoolpibaa.Gr
