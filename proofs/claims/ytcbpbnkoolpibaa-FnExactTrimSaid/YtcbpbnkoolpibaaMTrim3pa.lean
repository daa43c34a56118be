/- Functions of the program and of the reference as plain functions, and that the Go code comes to their answers; several texts in one. No conditions beyond what each theorem says. -/
import Derived.Test.YtcbpbnkoolpibaaMTrimxGtr
import Derived.Test.YtcbpbnkoolpibaaMTrim2pa
import Derived.Test.YtcbpbnkoolpibaaMTrim2a
namespace Go.Proofs.Ytcbpbnkoolpibaa.Gr
open Go.RowKit Go.Proofs.Ytcbpbnkoolpibaa.P Go.Proofs.YtcbpbnkoolpibaaW.PrintWords Go.Proofs.YtcbpbnkoolpibaaW.PrintLast Go.Proofs.Ytcbpbnkoolpibaa.Aux
set_option linter.unusedVariables false
set_option linter.unusedSimpArgs false
theorem idx_l0 (xs : List Int) (hx : xs.length ≤ 1048576) (hpw : xs.Pairwise (· < ·)) (j : Nat) (hj : j < xs.length) (d : Nat) : ∀ i : Nat, i + d = j → Ev (fun k => slices_Index_int_int.l0 k xs xs[j] (xs.length : Int) (i : Int)) (j : Int) := by
  induction d with
  | zero =>
    intro i hi
    obtain rfl : i = j := by omega
    exact Ev.step (f := fun _ => some _) (fun k => by rw [slices_Index_int_int.l0, if_pos (by omega), if_pos (by omega), if_pos (by omega), if_pos (rd_lt xs i hj).symm]) (Ev.now _)
  | succ d ih =>
    intro i hi
    have hw : wrap64 ((i : Int) + 1) = ((i + 1 : Nat) : Int) := by rw [wrap_ok (by omega) (by omega)]; omega
    have hlt : xs[i] < xs[j] := List.pairwise_iff_getElem.1 hpw i j (by omega) hj (by omega)
    have hne : ¬ xs[j] = rd xs (i : Int) := by rw [rd_lt xs i (by omega)]; omega
    exact Ev.step (fun k => by rw [slices_Index_int_int.l0, if_pos (by omega), if_pos (by omega), if_pos (by omega), if_neg hne, hw]) (ih (i + 1) (by omega))
/-- The place of a number in a row. -/
def idx (r : List Int) (y : Int) : Int := (r.idxOf y : Int)
theorem idx_ev (r : List Int) (hr : r.length ≤ 1048576) (hpw : r.Pairwise (· < ·)) (y : Int) (hy : y ∈ r) : Ev (fun k => slices_Index_int_int.f k r y) (idx r y) := by
  have hj : r.idxOf y < r.length := List.idxOf_lt_length_of_mem hy
  have h := idx_l0 r hr hpw (r.idxOf y) hj (r.idxOf y) 0 (by omega)
  rw [List.getElem_idxOf] at h
  exact h
/-- A kept block as_ it stands in the new graph. -/
def nb (r : List Int) (b : S47) : S47 := ⟨b.f0, b.f1, b.f2, if b.f1 = 2 then b.f3 else idx r b.f3, if b.f1 = 1 then idx r b.f4 else b.f4⟩
theorem trB_ev (r : List Int) (hr : r.length ≤ 1048576) (hpw : r.Pairwise (· < ·)) (b : S47) (h3 : ¬ b.f1 = 2 → b.f3 ∈ r) (h4 : b.f1 = 1 → b.f4 ∈ r) : Ev (fun k => trB k r b) (nb r b) := by
  unfold trB nb
  have e3 : Ev (fun k => if b.f1 = 2 then some b.f3 else slices_Index_int_int.f k r b.f3) (if b.f1 = 2 then b.f3 else idx r b.f3) := by
    by_cases c : b.f1 = 2
    · rw [if_pos c]; exact Ev.ite_pos (f := fun _ => some b.f3) c (Ev.now _)
    · rw [if_neg c]; exact Ev.ite_neg (f := fun _ => some b.f3) c (idx_ev r hr hpw _ (h3 c))
  have e4 : Ev (fun k => if b.f1 = 1 then slices_Index_int_int.f k r b.f4 else some b.f4) (if b.f1 = 1 then idx r b.f4 else b.f4) := by
    by_cases c : b.f1 = 1
    · rw [if_pos c]; exact Ev.ite_pos (g := fun _ => some b.f4) c (idx_ev r hr hpw _ (h4 c))
    · rw [if_neg c]; exact Ev.ite_neg (g := fun _ => some b.f4) c (Ev.now _)
  exact Ev.bind e3 (Ev.bind e4 (Ev.now _))
theorem trL_ev (r : List Int) (hr : r.length ≤ 1048576) (hpw : r.Pairwise (· < ·)) (bs : List S47) (hin : ∀ x ∈ r, (0 ≤ x ∧ x < (bs.length : Int)) ∧ (¬ (rd_T47 bs x).f1 = 2 → (rd_T47 bs x).f3 ∈ r) ∧ ((rd_T47 bs x).f1 = 1 → (rd_T47 bs x).f4 ∈ r)) :
    ∀ xs : List Int, (∀ x ∈ xs, x ∈ r) → Ev (fun k => trL k r bs xs) (xs.map fun x => nb r (rd_T47 bs x))
  | [], _ => Ev.now _
  | x :: xs, h => by
    obtain ⟨h1, h2, h3⟩ := hin x (h x (List.mem_cons_self ..))
    exact Ev.ite_pos h1 (Ev.bind (trB_ev r hr hpw _ h2 h3) (Ev.bind (trL_ev r hr hpw bs hin xs fun y hy => h y (List.mem_cons_of_mem _ hy)) (Ev.now _)))
end Go.Proofs.Ytcbpbnkoolpibaa.Gr
namespace Go.Proofs.Ytcbpbnkoolpibaa.Gr
open Go.RowKit Go.Proofs.Ytcbpbnkoolpibaa.P Go.Proofs.YtcbpbnkoolpibaaW.PrintWords Go.Proofs.YtcbpbnkoolpibaaW.PrintLast Go.Proofs.Ytcbpbnkoolpibaa.Aux
set_option linter.unusedVariables false
set_option linter.unusedSimpArgs false
theorem etaB2 (b : S47) : (⟨b.f0, b.f1, b.f2, b.f3, b.f4⟩ : S47) = b := by cases b; rfl
theorem takeI (r : List Int) (i : Nat) (h : i < r.length) : r.take (i + 1) = r.take i ++ [r[i]] := by
  rw [List.take_add_one, List.getElem?_eq_getElem h]
  rfl
theorem rd_set (t : List Int) (a b v : Int) (ha : 0 ≤ a) (hb : 0 ≤ b) (hl : b < (t.length : Int)) : rd (t.set a.toNat v) b = if a = b then v else rd t b := by
  unfold rd
  rw [List.getD_eq_getElem?_getD, List.getElem?_set, List.getD_eq_getElem?_getD]
  by_cases e : a = b
  · subst e
    rw [if_pos rfl, if_pos rfl, if_pos (by omega)]
    rfl
  · rw [if_neg (by omega), if_neg e]
theorem spec0_ev (r : List Int) (hr : r.length ≤ 1048576) (hpw : r.Pairwise (· < ·)) (zs : List Int) (p v s : Int) (bs : List S47) (hin : ∀ x ∈ r, 0 ≤ x ∧ x < (bs.length : Int)) (R : List Int × Int × Int × Int × List S47)
    (hend : ∀ to' : List Int, to'.length = bs.length → (∀ j (h : j < r.length), rd to' r[j] = (j : Int)) → Ev (fun k => spec_Trim.l1 k to' (r.map fun x => rd_T47 bs x) 0 zs p v s bs) R) (d : Nat) :
    ∀ (i : Nat) (t : List Int), i + d = r.length → t.length = bs.length → (∀ j (h : j < r.length), j < i → rd t r[j] = (j : Int)) → Ev (fun k => spec_Trim.l0 k r t ((r.take i).map fun x => rd_T47 bs x) (i : Int) zs p v s bs) R := by
  induction d with
  | zero =>
    intro i t hi ht hj
    obtain rfl : i = r.length := by omega
    rw [List.take_length]
    exact Ev.step (fun k => by rw [spec_Trim.l0, if_neg (by omega)]) (hend t ht fun j h => hj j h h)
  | succ d ih =>
    intro i t hi ht hj
    have hlt : i < r.length := by omega
    have hw : wrap64 ((i : Int) + 1) = ((i + 1 : Nat) : Int) := by rw [wrap_ok (by omega) (by omega)]; omega
    obtain ⟨h0, h1⟩ := hin r[i] (List.getElem_mem hlt)
    have h2 := ih (i + 1) (t.set r[i].toNat (i : Int)) (by omega) (by rw [List.length_set]; exact ht) (fun j h hji => by
      obtain ⟨g0, g1⟩ := hin r[j] (List.getElem_mem h)
      rw [rd_set t _ _ _ h0 g0 (by omega)]
      by_cases e : j = i
      · subst e
        rw [if_pos rfl]
      · have hlt2 : r[j] < r[i] := List.pairwise_iff_getElem.1 hpw j i h hlt (by omega)
        rw [if_neg (by omega)]
        exact hj j h (by omega))
    rw [takeI r i hlt, List.map_append] at h2
    have hk : ((r.take i).map fun x => rd_T47 bs x).length < 2513169434916 := by rw [List.length_map, List.length_take]; omega
    exact Ev.step (fun k => by rw [spec_Trim.l0, if_pos (by omega), if_pos (by omega), rd_lt r i hlt, if_pos h0, if_pos (by omega), if_pos h1, if_pos hk, hw, etaB2]; rfl) h2
theorem rdApp (A : List S47) (b : S47) (C : List S47) : rd_T47 (A ++ b :: C) (A.length : Int) = b := by
  rw [rdBt _ A.length (by simp)]
  simp
theorem setApp (A : List S47) (b c : S47) (C : List S47) : (A ++ b :: C).set (A.length : Int).toNat c = A ++ c :: C := by
  rw [Int.toNat_natCast]
  simp
theorem spec1_ev (r t : List Int) (zs : List Int) (p v s : Int) (bs : List S47) (ht : ∀ y ∈ r, 0 ≤ y ∧ y < (t.length : Int) ∧ rd t y = idx r y) :
    ∀ (C A : List S47), A.length + C.length ≤ 1048576 → (∀ b ∈ C, (¬ b.f1 = 2 → b.f3 ∈ r) ∧ (b.f1 = 1 → b.f4 ∈ r)) → Ev (fun k => spec_Trim.l1 k t (A ++ C) (A.length : Int) zs p v s bs) (zs, p, v, s, A ++ C.map (nb r))
  | [], A, _, _ => by
    rw [List.append_nil, List.map_nil, List.append_nil]
    exact Ev.step (f := fun _ => some _) (fun k => by rw [spec_Trim.l1, if_neg (by omega)]) (Ev.now _)
  | b :: C, A, hl, hb => by
    obtain ⟨h3, h4⟩ := hb b (List.mem_cons_self ..)
    have hl2 : A.length + (C.length + 1) ≤ 1048576 := by simpa using hl
    have ih := spec1_ev r t zs p v s bs ht C (A ++ [nb r b]) (by rw [List.length_append, List.length_singleton]; omega) (fun x hx => hb x (List.mem_cons_of_mem _ hx))
    rw [List.append_assoc, List.append_assoc] at ih
    have hw : wrap64 ((A.length : Int) + 1) = (((A ++ [nb r b]).length : Nat) : Int) := by rw [List.length_append, List.length_singleton, wrap_ok (by omega) (by omega)]; omega
    have c1 : (A.length : Int) < ((A ++ b :: C).length : Int) := by rw [List.length_append, List.length_cons]; omega
    have c2 : 0 ≤ (A.length : Int) := by omega
    by_cases e2 : b.f1 = 2
    · have hn : nb r b = b := by unfold nb; rw [if_pos e2, if_neg (by omega)]
      rw [hn] at ih hw
      refine Ev.step (fun k => ?_) (by rw [List.map_cons, hn]; exact ih)
      rw [spec_Trim.l1, if_pos c1, if_pos c2, rdApp, if_pos e2, if_neg (by omega), hw]
      rfl
    · obtain ⟨a1, a2, a3⟩ := ht _ (h3 e2)
      by_cases e1 : b.f1 = 1
      · obtain ⟨b1, b2, b3⟩ := ht _ (h4 e1)
        have hn : nb r b = ⟨b.f0, b.f1, b.f2, rd t b.f3, rd t b.f4⟩ := by unfold nb; rw [if_neg e2, if_pos e1, a3, b3]
        rw [hn] at ih hw
        refine Ev.step (fun k => ?_) (by rw [List.map_cons, hn]; exact ih)
        rw [spec_Trim.l1, if_pos c1, if_pos c2, rdApp, if_neg e2, if_pos a1, if_pos a2, Option.bind_some, setApp, rdApp, if_pos e1, if_pos b1, if_pos b2, setApp, hw]
        rfl
      · have hn : nb r b = ⟨b.f0, b.f1, b.f2, rd t b.f3, b.f4⟩ := by unfold nb; rw [if_neg e2, if_neg e1, a3]
        rw [hn] at ih hw
        refine Ev.step (fun k => ?_) (by rw [List.map_cons, hn]; exact ih)
        rw [spec_Trim.l1, if_pos c1, if_pos c2, rdApp, if_neg e2, if_pos a1, if_pos a2, Option.bind_some, setApp, rdApp, if_neg e1, hw]
        rfl
end Go.Proofs.Ytcbpbnkoolpibaa.Gr
namespace Go.Proofs.Ytcbpbnkoolpibaa.Gr
open Go.RowKit Go.Proofs.Ytcbpbnkoolpibaa.P Go.Proofs.YtcbpbnkoolpibaaW.PrintWords Go.Proofs.YtcbpbnkoolpibaaW.PrintLast Go.Proofs.Ytcbpbnkoolpibaa.Aux
set_option linter.unusedVariables false
set_option linter.unusedSimpArgs false
theorem okG_012 {zs : List Int} {p v s : Int} {bs : List S47} (h : Ok.okG zs p v s bs = true) : ∀ b ∈ bs, b.f1 = 0 ∨ b.f1 = 1 ∨ b.f1 = 2 := by
  unfold Ok.okG at h
  simp only [Bool.and_eq_true] at h
  obtain ⟨_, _, hl, ha, _⟩ := h
  intro b hb
  have hk := List.all_eq_true.1 ha b hb
  unfold Ok.blkOk Ok.blockB at hk
  split at hk
  · exact absurd hk (by simp)
  · rename_i hc
    split at hk
    · exact absurd hk (by simp)
    by_cases h0 : b.f1 = 0
    · exact .inl h0
    by_cases h1 : b.f1 = 1
    · exact .inr (.inl h1)
    rw [if_neg h0, if_neg h1] at hk
    by_cases h2 : b.f1 = 2
    · exact .inr (.inr h2)
    · simp [h2] at hk
theorem Trim_ok (zs : List Int) (p v s : Int) (bs : List S47) (hz : zs.length ≤ 1048576) (hb : bs.length ≤ 1048576) (hc : ∀ b ∈ bs, b.f0.length ≤ 4294967296) (hG : Ok.okG zs p v s bs = true) (hS : Ev (fun k => spec_GraphOk.f k zs p v s bs) true) (hI : Ev (fun k => impl_isGraph.f k zs p v s bs) true) (h012 : ∀ b ∈ bs, b.f1 = 0 ∨ b.f1 = 1 ∨ b.f1 = 2) :
    ∃ r : List Int, r.Pairwise (· < ·) ∧ (∀ x ∈ r, 0 ≤ x ∧ x < (bs.length : Int)) ∧ Ev (fun k => spec_Trim.f k zs p v s bs) (zs, p, v, s, r.map fun x => nb r (rd_T47 bs x)) ∧ Ev (fun k => impl_Trim.f k zs p v s bs) (zs, p, v, s, r.map fun x => nb r (rd_T47 bs x)) := by
  obtain ⟨r, o, e1, e2, e3, hpw, hr, hm⟩ := Blocks_ok zs p v s bs hb hG
  have hin : ∀ x ∈ r, 0 ≤ x ∧ x < (bs.length : Int) := fun x hx => by obtain ⟨n, rfl, h1, _⟩ := (hm x).1 hx; omega
  have hnx : ∀ x ∈ r, (¬ (rd_T47 bs x).f1 = 2 → (rd_T47 bs x).f3 ∈ r) ∧ ((rd_T47 bs x).f1 = 1 → (rd_T47 bs x).f4 ∈ r) := fun x hx => by
    obtain ⟨n, rfl, h1, h2⟩ := (hm x).1 hx
    rw [rdBt bs n h1]
    have hcl : ∀ y ∈ nextL bs[n], y ∈ r := fun y hy => by
      obtain ⟨g1, g2⟩ := (okG_next hG).1 bs[n] (List.getElem_mem h1) y hy
      refine (hm y).2 ⟨y.toNat, by omega, by omega, Reach.step h2 h1 ?_⟩
      rw [Int.toNat_of_nonneg g1]
      exact hy
    unfold nextL at hcl
    rcases h012 bs[n] (List.getElem_mem h1) with e | e | e
    · rw [if_pos e] at hcl
      exact ⟨fun _ => hcl _ (by simp), fun h => absurd h (by omega)⟩
    · rw [if_neg (by omega), if_pos e] at hcl
      exact ⟨fun _ => hcl _ (by simp), fun _ => hcl _ (by simp)⟩
    · exact ⟨fun h => absurd e h, fun h => absurd h (by omega)⟩
  refine ⟨r, hpw, hin, ?_, ?_⟩
  · refine Ev.bind (copyS_ev zs p v s bs hz hb hc) (Ev.bind hS (Ev.ite_pos rfl (Ev.bind (e3 hS) (Ev.bind (zeros_ev bs.length hb) ?_))))
    refine spec0_ev r hr hpw zs p v s bs hin _ (fun t ht hj => ?_) r.length 0 _ (by omega) (by simp) (fun j h h0 => absurd h0 (Nat.not_lt_zero _))
    have h := spec1_ev r t zs p v s bs (fun y hy => ?_) (r.map fun x => rd_T47 bs x) [] (by simp; exact hr) (fun b hb => by obtain ⟨x, hx, rfl⟩ := List.mem_map.1 hb; exact hnx x hx)
    · rw [List.map_map] at h
      exact h
    · obtain ⟨g0, g1⟩ := hin y hy
      refine ⟨g0, by omega, ?_⟩
      have := hj (r.idxOf y) (List.idxOf_lt_length_of_mem hy)
      rw [List.getElem_idxOf] at this
      exact this
  · refine Ev.bind hI (Ev.ite_pos rfl (Ev.bind e1 (Ev.const e2 (Ev.bind (copyI_ev zs p v s bs hz hb hc) (Ev.ite_pos ⟨hpw, hr⟩ (Ev.bind (trL_ev r hr hpw bs (fun x hx => ⟨hin x hx, hnx x hx⟩) r fun _ h => h) (Ev.now _)))))))
/-- Both sides trim alike: the graph stays as_ it is, or the blocks that are come to are kept. -/
theorem Trim_same (zs : List Int) (p v s : Int) (bs : List S67) (h : Small zs bs) :
    ∃ L : List S47, (L = bs.map convB ∨ ∃ r : List Int, r.Pairwise (· < ·) ∧ (∀ x ∈ r, 0 ≤ x ∧ x < ((bs.map convB).length : Int)) ∧ L = r.map fun x => nb r (rd_T47 (bs.map convB) x)) ∧
      Ev (fun k => spec_Trim.f k zs p v s (bs.map convB)) (zs, p, v, s, L) ∧ Ev (fun k => impl_Trim.f k zs p v s (bs.map convB)) (zs, p, v, s, L) := by
  have hb : (bs.map convB).length ≤ 1048576 := by rw [List.length_map]; exact h.blocks
  have hc : ∀ b ∈ bs.map convB, b.f0.length ≤ 4294967296 := fun b hb => by have := conv_code h b hb; omega
  have hS := Ok.GraphOk_ev zs p v s (bs.map convB) hb h.sizes h.stepsI
  have hI := Ok.isGraph_ev zs p v s (bs.map convB) hb h.stepsI
  cases hG : Ok.okG zs p v s (bs.map convB) with
  | false =>
    rw [hG] at hS hI
    exact ⟨bs.map convB, .inl rfl, Ev.bind (copyS_ev zs p v s _ h.sizes hb hc) (Ev.bind hS (Ev.ite_neg (by simp) (Ev.now _))), Ev.bind hI (Ev.ite_neg (by simp) (copyI_ev zs p v s _ h.sizes hb hc))⟩
  | true =>
    rw [hG] at hS hI
    obtain ⟨r, h1, h2, h3, h4⟩ := Trim_ok zs p v s (bs.map convB) h.sizes hb hc hG hS hI (okG_012 hG)
    exact ⟨_, .inr ⟨r, h1, h2, rfl⟩, h3, h4⟩
end Go.Proofs.Ytcbpbnkoolpibaa.Gr
