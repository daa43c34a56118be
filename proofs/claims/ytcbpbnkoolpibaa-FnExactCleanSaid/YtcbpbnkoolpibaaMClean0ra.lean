/- Functions of the program and of the reference as plain functions, and that the Go code comes to their answers; several texts in one. No conditions beyond what each theorem says. -/
import Derived.Test.YtcbpbnkoolpibaaMClean0a
import Derived.Test.YtcbpbnkoolpibaaMClean0wa
import Derived.Test.YtcbpbnkoolpibaaMClean0ua
set_option maxHeartbeats 2000000
set_option maxRecDepth 100000
set_option linter.unusedVariables false
set_option linter.unusedSimpArgs false
namespace Go.Proofs.Ytcbpbnkoolpibaa.P
open RowKit YtcbpbnkoolpibaaW.wA YtcbpbnkoolpibaaW.wB YtcbpbnkoolpibaaW.wC Aux
def OwnI (w : World) (g cap : Nat) (zs : List Int) : Prop := ∃ cur : Array Value, w.heap[g]? = some (.cells cur 3 (0, 0)) ∧ cur.size = cap ∧ zs.length ≤ cap ∧ cap ≤ maxLen ∧ cur.toList.take zs.length = zs.map (Value.int .i64)
theorem OwnI.of_R {w : World} {base : Nat} {ok : Nat → Prop} {g n cap : Nat} {zs : List Int} (h : Kd.R (Kd.int .i64) 3 w base ok (.slice (some ⟨g, 0, none⟩) n cap) zs) : n = zs.length ∧ OwnI w g cap zs := by
  obtain ⟨h0, inner, ho, hr⟩ := h
  rcases ho.2 with ⟨h1, _⟩ | ⟨g', cap', cur, hv, hb, hh, h2, h3, h4, h5⟩
  · cases h1
  · injection hv with e1 e2 e3
    injection e1 with e1
    injection e1 with e1
    subst e1
    subst e3
    have hi : inner = zs.map (Value.int .i64) := by
      apply List.ext_getElem?
      intro j
      have hl : inner.length = zs.length := by have := hr.1; simpa [Kd.int, Kd.scalar] using this
      rcases Nat.lt_or_ge j zs.length with hj | hj
      · have h6 := hr.2 j _ (List.getElem?_eq_getElem hj)
        have h7 : (inner.drop (j * 1)).take 1 = [Value.int .i64 zs[j]] := h6
        rw [List.getElem?_map, List.getElem?_eq_getElem hj]
        have h8 := congrArg (fun l => l[0]?) h7
        simpa using h8
      · rw [List.getElem?_eq_none (by omega), List.getElem?_eq_none (by simpa using hj)]
    refine ⟨e2, cur, hh, ?_, h2, h3, ?_⟩
    · rw [h4]
      show cap * 1 = cap
      omega
    · rw [← hi, ← h5]
      show _ = cur.toList.take (zs.length * 1)
      rw [Nat.mul_one]
theorem OwnI.to_R {w : World} {base : Nat} {ok : Nat → Prop} {g cap : Nat} {zs : List Int} (h : OwnI w g cap zs) (hb : base ≤ g) (hok : ok g) : Kd.R (Kd.int .i64) 3 w base ok (.slice (some ⟨g, 0, none⟩) zs.length cap) zs := by
  obtain ⟨cur, h1, h2, h3, h4, h5⟩ := h
  refine ⟨fun k hk => ?_, zs.map (Value.int .i64), ⟨by simp [Kd.int, Kd.scalar], .inr ⟨g, cap, cur, rfl, hb, h1, h3, h4, ?_, ?_⟩⟩, by simp [Kd.int, Kd.scalar], fun j p hj => ?_⟩
  · have : g = k := by simpa [Value.ownBlock] using hk
    subst this
    exact hok
  · show cur.size = cap * 1
    omega
  · show cur.toList.take (zs.length * 1) = _
    rw [Nat.mul_one]
    exact h5
  · show ((zs.map (Value.int .i64)).drop (j * 1)).take 1 = [Value.int .i64 p]
    obtain ⟨hl, rfl⟩ := List.getElem?_eq_some_iff.1 hj
    rw [Nat.mul_one, ← List.map_drop, List.drop_eq_getElem_cons hl]
    rfl
theorem OwnI.holds {w : World} {g cap : Nat} {zs : List Int} (h : OwnI w g cap zs) : Go.Sort.Holds (Value.int .i64) w g 0 zs.toArray := by
  obtain ⟨cur, h1, h2, h3, h4, h5⟩ := h
  intro j hj
  have hj' : j < zs.length := by simpa using hj
  refine ⟨?_, blk_frozen h1 _⟩
  rw [Nat.zero_add, bkC h1]
  have h6 := congrArg (fun l => l[j]?) h5
  simp only [List.getElem?_take, if_pos hj', List.getElem?_map, List.getElem?_eq_getElem hj', Option.map_some] at h6
  rw [← Array.getElem?_toList, h6]
  simp [hj']
theorem put_take (cur : Array Value) (zs : List Int) (h : zs.length ≤ cur.size) : (Go.Sort.putCells (Value.int .i64) 0 zs.toArray cur).toList.take zs.length = zs.map (Value.int .i64) := by
  apply List.ext_getElem?
  intro j
  rcases Nat.lt_or_ge j zs.length with hj | hj
  · rw [List.getElem?_take, if_pos hj, List.getElem?_map, List.getElem?_eq_getElem hj, Array.getElem?_toList, Go.Sort.putCells, Array.getElem?_mapIdx, Array.getElem?_eq_getElem (by omega)]
    simp [hj]
  · rw [List.getElem?_eq_none (by simp; omega), List.getElem?_eq_none (by simpa using hj)]
theorem heap_put (w : World) (g n : Nat) (zs : List Int) (os : Array Obj) (k : Nat) (hk : k < w.heap.size) : (Go.Sort.grow (Go.Sort.putRow (Value.int .i64) (Go.Sort.ahead w n) g 0 zs.toArray) os).heap[k]? = if k = g then (w.heap[k]?).map (Go.Sort.onCells (Go.Sort.putCells (Value.int .i64) 0 zs.toArray)) else w.heap[k]? := by
  show (w.heap.modify g _ ++ os)[k]? = _
  rw [Array.getElem?_append_left (by simpa using hk), Array.getElem?_modify]
  by_cases e : k = g
  · rw [if_pos e, if_pos e.symm]
  · rw [if_neg e, if_neg (fun h => e h.symm)]
theorem OwnI.put {w : World} {g cap : Nat} {zs zs' : List Int} (h : OwnI w g cap zs) (hl : zs'.length ≤ cap) (n : Nat) (os : Array Obj) : OwnI (Go.Sort.grow (Go.Sort.putRow (Value.int .i64) (Go.Sort.ahead w n) g 0 zs'.toArray) os) g cap zs' := by
  obtain ⟨cur, h1, h2, h3, h4, h5⟩ := h
  refine ⟨Go.Sort.putCells (Value.int .i64) 0 zs'.toArray cur, ?_, by simp [Go.Sort.putCells, h2], hl, h4, put_take cur zs' (by omega)⟩
  rw [heap_put w g n zs' os g (blk_lt h1), if_pos rfl, h1]
  rfl
theorem put_grown (w : World) (g n : Nat) (zs : List Int) (os : Array Obj) : w.grownBy (Go.Sort.grow (Go.Sort.putRow (Value.int .i64) (Go.Sort.ahead w n) g 0 zs.toArray) os) (some g) := by
  refine ⟨rfl, rfl, rfl, ?_, fun k hk hne => ?_⟩
  · show w.heap.size ≤ (w.heap.modify g _ ++ os).size
    simp
  · rw [heap_put w g n zs os k hk, if_neg (fun e => hne (by rw [e]))]
def ascL (zs : List Int) : List Int := Lib.compact (zs.mergeSort fun x y => decide (x ≤ y))
theorem compact_len (zs : List Int) : (Lib.compact zs).length ≤ zs.length := by
  unfold Lib.compact Lib.compactUpTo
  rw [List.length_map]
  refine Nat.le_trans (List.length_filter_le _ _) ?_
  simp
theorem OwnI.cut {w : World} {g cap : Nat} {zs ys : List Int} (h : OwnI w g cap (zs ++ ys)) : OwnI w g cap zs := by
  obtain ⟨cur, h1, h2, h3, h4, h5⟩ := h
  rw [List.length_append] at h3
  refine ⟨cur, h1, h2, by omega, h4, ?_⟩
  have h6 := congrArg (fun l => l.take zs.length) h5
  simp only [List.take_take, List.length_append, List.map_append] at h6
  rw [Nat.min_eq_left (by omega)] at h6
  rw [h6, List.take_append_of_le_length (by simp), List.take_of_length_le (by simp)]
theorem asc_calls (w : World) (g cap : Nat) (zs : List Int) (h : OwnI w g cap zs) (hn : zs.length < 4611686018427387904) :
    Calls Try.prog 35 #[.slice (some ⟨g, 0, none⟩) zs.length cap] w fun e w' => e = .returned (.slice (some ⟨g, 0, none⟩) (ascL zs).length cap) ∧ OwnI w' g cap (ascL zs) ∧ w.grownBy w' (some g) := by
  have hlt : g < w.heap.size := by obtain ⟨cur, h1, _⟩ := h; exact blk_lt h1
  have hsl : (zs.mergeSort fun x y => decide (x ≤ y)).length = zs.length := List.length_mergeSort _
  have hcap : zs.length ≤ cap := by obtain ⟨cur, _, _, h1, _⟩ := h; exact h1
  have hs := Zs0.mk (Try.slices_Sort_int g 0 cap zs w h.holds hlt hn)
  have hcp := Zs0.mk (fun (n : Nat) (os : Array Obj) => (h.put (zs' := zs.mergeSort fun x y => decide (x ≤ y)) (by omega) n os))
  have hgr := Zs0.mk (fun (n : Nat) (os : Array Obj) => put_grown w g n (zs.mergeSort fun x y => decide (x ≤ y)) os)
  have HSL := Zs0.mk hsl
  have HCAP := Zs0.mk hcap
  have HN := Zs0.mk hn
  clear h hsl hcap hn hlt
  go_enter Try.func35, Try.ntmps35
  go_wp2_with fail
  go_at_call 55
  refine hs.out.mono ?_
  rintro e w1 ⟨rfl, n, os, hw1⟩
  have ho1 := hcp.out n os
  have hg1 := hgr.out n os
  rw [← hw1] at ho1 hg1
  have hcc := Try.slices_Compact_int g 0 cap (zs.mergeSort fun x y => decide (x ≤ y)) w1 ho1.holds (by have := HSL.out; have := HN.out; omega) (by have := HSL.out; have := HCAP.out; omega)
  rw [HSL.out] at hcc
  have HCC := Zs0.mk hcc
  have HO1 := Zs0.mk ho1
  have HG1 := Zs0.mk hg1
  clear hcc ho1 hg1 hw1 hs hcp hgr
  go_wp2_with fail
  go_at_call 56
  refine HCC.out.mono ?_
  rintro e w2 ⟨rfl, q, hw2⟩
  have ho2 := HO1.out.put (zs' := Lib.compact (zs.mergeSort fun x y => decide (x ≤ y)) ++ List.replicate (zs.length - (Lib.compact (zs.mergeSort fun x y => decide (x ≤ y))).length) 0) (by have := compact_len (zs.mergeSort fun x y => decide (x ≤ y)); have := HSL.out; have := HCAP.out; rw [List.length_append, List.length_replicate]; omega) q #[]
  have hg2 := put_grown w1 g q (Lib.compact (zs.mergeSort fun x y => decide (x ≤ y)) ++ List.replicate (zs.length - (Lib.compact (zs.mergeSort fun x y => decide (x ≤ y))).length) 0) #[]
  have hgw : ∀ w0 : World, Go.Sort.grow w0 #[] = w0 := fun w0 => by unfold Go.Sort.grow; simp
  rw [hgw, ← hw2] at ho2 hg2
  have HO2 := Zs0.mk ho2.cut
  have HG2 := Zs0.mk (HG1.out.trans hg2)
  clear ho2 hg2 hw2 hgw
  go_wp2
  go_ret
  exact ⟨rfl, HO2.out, HG2.out⟩
def impl_ascending.f (l : List Int) : Option (List Int) := if 0 < l.length ∧ l.length < 4611686018427387904 then some (ascL l) else none
theorem asc_own {w0 W : World} {ok : Nat → Prop} {A : Option Addr} {c : Nat} {l r : List Int} (HB : Below w0.heap.size w0 W) (HO : Kd.R (Kd.int .i64) 3 W w0.heap.size ok (.slice A l.length c) l) (h : impl_ascending.f l = some r) :
    Calls Try.prog 35 #[.slice A l.length c] W fun e w' => ∃ v0_ : Value, e = .returned v0_ ∧ Kd.R (Kd.int .i64) 3 w' w0.heap.size (fun k => w0.heap.size ≤ k) v0_ r ∧ Below w0.heap.size w0 w' ∧ ∀ (q : Nat) (cs : Array Value) (t : TypeId), W.heap[q]? = some (.cells cs t (0, 0)) → t ≠ 3 → w'.heap[q]? = some (.cells cs t (0, 0)) := by
  unfold impl_ascending.f at h
  split at h
  · rename_i hn
    obtain rfl := Option.some.inj h
    have HO' := HO
    obtain ⟨h0, inner, hown, hr⟩ := HO
    rcases hown.2 with ⟨_, hz⟩ | ⟨g, cap, _, e, _⟩
    · omega
    · injection e with e1 e2 e3
      subst e1
      have hgb : w0.heap.size ≤ g := own_base hown g (by simp [Value.ownBlock])
      have ho := (OwnI.of_R HO').2
      refine (asc_calls W g c l ho hn.2).mono ?_
      rintro e w' ⟨rfl, ho2, hg2⟩
      refine ⟨_, rfl, ho2.to_R hgb hgb, HB.grown hg2 HB.size (fun k hk => by obtain rfl := Option.some.inj hk; exact hgb), fun q cs t hq ht => ?_⟩
      obtain ⟨cur, hcur, _⟩ := ho
      refine (hg2.block q (blk_lt hq) fun hne => ?_).trans hq
      obtain rfl := Option.some.inj hne
      rw [hq] at hcur
      injection hcur with hcur
      injection hcur with _ hcur
      exact ht hcur
  · cases h
theorem likeA {base : Nat} {ok : Nat → Prop} {w : World} {v : Value} {xs : List Int} (w2 : World) (h : Kd.R (Kd.int .i64) 3 w base ok v xs) : Kd.R (Kd.int .i64) 3 w2 base ok (.slice none 0 0) [] := Kd.R_nil _ _ w2 base ok
theorem none_own (k : Nat) : some k ≠ (Value.slice none 0 0).ownBlock := by simp [Value.ownBlock]
end Go.Proofs.Ytcbpbnkoolpibaa.P
