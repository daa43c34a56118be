/- The graph without the blocks that are never come to, as_ the program makes it: the contract of impl.Trim. Conditions: the walk's row ascends; fewer blocks than 2^20. -/
import Derived.Test.YtcbpbnkoolpibaaMTrim0a
import Derived.Test.YtcbpbnkoolpibaaMTrim0sa
import Derived.Test.YtcbpbnkoolpibaaMTrim0b
import Derived.Test.YtcbpbnkoolpibaaMTrim2ta
import Derived.Test.YtcbpbnkoolpibaaMTrimxF36
namespace Go.Proofs.Ytcbpbnkoolpibaa.P
open Go.RowKit Go.Proofs.YtcbpbnkoolpibaaW.PrintWords Go.Proofs.YtcbpbnkoolpibaaW.PrintLast Go.Proofs.YtcbpbnkoolpibaaW.PrintMore Go.Proofs.Ytcbpbnkoolpibaa.Gr Go.Proofs.Ytcbpbnkoolpibaa.Aux
set_option linter.unusedVariables false
set_option linter.unusedSimpArgs false
/-- A block that is kept: its nexts by their new places. -/
def trB (k : Nat) (keep : List Int) (b : S47) : Option S47 :=
  (if b.f1 = 2 then some b.f3 else slices_Index_int_int.f k keep b.f3).bind fun t => (if b.f1 = 1 then slices_Index_int_int.f k keep b.f4 else some b.f4).bind fun e => some ⟨b.f0, b.f1, b.f2, t, e⟩
def trL (k : Nat) (keep : List Int) (bs : List S47) : List Int → Option (List S47)
  | [] => some []
  | x :: xs => if 0 ≤ x ∧ x < (bs.length : Int) then (trB k keep (rd_T47 bs x)).bind fun b => (trL k keep bs xs).bind fun r => some (b :: r) else none
def impl_Trim.f (k : Nat) (zs : List Int) (p v s : Int) (bs : List S47) : Option (List Int × Int × Int × Int × List S47) :=
  (impl_isGraph.f k zs p v s bs).bind fun t => if t = true then (impl_order.f k zs p v s bs).bind fun o => (impl_ascending.f o).bind fun keep => (impl_copyGraph.f k zs p v s bs).bind fun g => if keep.Pairwise (· < ·) ∧ keep.length ≤ 1048576 then (trL k keep g.2.2.2.2 keep).bind fun bs' => some (g.1, g.2.1, g.2.2.1, g.2.2.2.1, bs') else none
    else impl_copyGraph.f k zs p v s bs
theorem trB_mono (k : Nat) (keep : List Int) (b : S47) : LeO (trB k keep b) (trB (k + 1) keep b) := by
  unfold trB
  refine LeO.bind ?_ fun t => LeO.bind ?_ fun e => LeO.refl _
  · exact LeO.ite (LeO.refl _) (slices_Index_int_int.mono _ _ _)
  · exact LeO.ite (slices_Index_int_int.mono _ _ _) (LeO.refl _)
theorem trL_mono (k : Nat) (keep : List Int) (bs : List S47) : ∀ xs, LeO (trL k keep bs xs) (trL (k + 1) keep bs xs)
  | [] => LeO.refl _
  | x :: xs => LeO.ite (LeO.bind (trB_mono k keep _) fun b => LeO.bind (trL_mono k keep bs xs) fun r => LeO.refl _) (LeO.refl _)
theorem impl_Trim.mono : ∀ zs p v s bs k, LeO (impl_Trim.f k zs p v s bs) (impl_Trim.f (k + 1) zs p v s bs) := fun zs p v s bs k =>
  LeO.bind (impl_isGraph.mono _ _ _ _ _ _) fun t => LeO.ite (LeO.bind (impl_order.mono _ _ _ _ _ _) fun o => LeO.bind (LeO.refl _) fun keep => LeO.bind (impl_copyGraph.mono _ _ _ _ _ _) fun g => LeO.ite (LeO.bind (trL_mono _ _ _ _) fun _ => LeO.refl _) (LeO.refl _)) (impl_copyGraph.mono _ _ _ _ _ _)
theorem put5 {w : World} {g : Nat} {t : TypeId} {a0 a1 a2 a3 a4 : Value} (h : w.heap[g]? = some (.cells #[a0, a1, a2, a3, a4] t (0, 0))) (v0 v1 v2 v3 v4 : Value) : (((((w.setCell ⟨g, 0, none⟩ v0).setCell ⟨g, 1, none⟩ v1).setCell ⟨g, 2, none⟩ v2).setCell ⟨g, 3, none⟩ v3).setCell ⟨g, 4, none⟩ v4).heap[g]? = some (.cells #[v0, v1, v2, v3, v4] t (0, 0)) :=
  blk_put (blk_put (blk_put (blk_put (blk_put h 0 v0 rfl) 1 v1 rfl) 2 v2 rfl) 3 v3 rfl) 4 v4 rfl
set_option maxRecDepth 100000 in
set_option maxHeartbeats 4000000 in
theorem trim_no (k : Nat) (A0_0 : Option Addr) (c0_0 : Nat) (l0_0 : List Int) (a0_1 : Int) (a0_2 : Int) (a0_3 : Int) (A0_4 : Option Addr) (c0_4 : Nat) (l0_4 : List S47) (r1 : List Int) (r2 : Int) (r3 : Int) (r4 : Int) (r5 : List S47) (w : World) (hr0_0 : Kd.C (Kd.int .i64) w A0_0 l0_0.length l0_0) (hc0_0 : l0_0.length ≤ c0_0) (hr0_4 : Kd.C k47 w A0_4 l0_4.length l0_4) (hc0_4 : l0_4.length ≤ c0_4)
    (e1 : impl_isGraph.f k l0_0 a0_1 a0_2 a0_3 l0_4 = some false) (e2 : impl_copyGraph.f k l0_0 a0_1 a0_2 a0_3 l0_4 = some (r1, r2, r3, r4, r5)) :
    Calls Try.prog 10 #[.agg #[.slice A0_0 l0_0.length c0_0, .int .i64 a0_1, .int .i64 a0_2, .int .i64 a0_3, .slice A0_4 l0_4.length c0_4]] w fun e w' => ∃ v0_ v4_ : Value, e = .returned (.agg #[v0_, .int .i64 r2, .int .i64 r3, .int .i64 r4, v4_]) ∧ Kd.R (Kd.int .i64) 3 w' w.heap.size (fun _ => True) v0_ r1 ∧ Kd.S k47 47 w' w.heap.size (fun _ => True) v4_ r5 ∧ Below w.heap.size w w' := by
  have huIG := Try.underlying29
  have HR0 := Zs0.mk hr0_0
  have HR4 := Zs0.mk hr0_4
  have HE1 := Zs0.mk e1
  have HE2 := Zs0.mk e2
  clear hr0_0 hr0_4 e1 e2
  go_enter Try.func10, Try.ntmps10
  go_wp2_with fail
  go_at_call 33
  refine (impl_isGraph.calls k _ _ l0_0 a0_1 a0_2 a0_3 _ _ l0_4 _ _ (Kd.cA1 (Kd.cA1 HR0.out _) _) hc0_0 (Kd.cA1 (Kd.cA1 HR4.out _) _) hc0_4 HE1.out).mono ?_
  rintro e w1 ⟨rfl, hb1⟩
  have hb1g := bkB (g := w.heap.size) (bkA (heap_alloc_new w _) _) hb1
  have hb2g := bkB (g := w.heap.size + 1) (show _ = some (.cells #[.slice none 0 0, .int .i64 0, .int .i64 0, .int .i64 0, .slice none 0 0] 29 (0, 0)) from by have h := heap_alloc_new (w.alloc (.cells #[.slice A0_0 l0_0.length c0_0, .int .i64 a0_1, .int .i64 a0_2, .int .i64 a0_3, .slice A0_4 l0_4.length c0_4] 29)) (.cells #[.slice none 0 0, .int .i64 0, .int .i64 0, .int .i64 0, .slice none 0 0] 29); simpa using h) hb1
  have HB1 := Zs0.mk (show Below w.heap.size w w1 from blT (blA (blA (Below.refl _ _) _) _) hb1)
  have HG1 := Zs0.mk hb1g
  have HG2 := Zs0.mk hb2g
  obtain ⟨x0, x1, x2, x3, x4, y0, y1, y2, y3, y4⟩ := bx5 hb1g
  obtain ⟨u0, u1, u2, u3, u4, z0, z1, z2, z3, z4⟩ := bx5 hb2g
  clear hb1 hb1g hb2g
  go_wp2_with fail
  go_at_call 34
  refine (impl_copyGraph.calls k _ _ l0_0 a0_1 a0_2 a0_3 _ _ l0_4 _ _ _ _ _ _ (Kd.cB1 HR0.out HB1.out) hc0_0 (Kd.cB1 HR4.out HB1.out) hc0_4 HE2.out).mono ?_
  rintro e w2 ⟨v0, v4, rfl, hz, hs, hb2⟩
  obtain ⟨Az, cz, rfl⟩ := Kd.R_slice hz
  obtain ⟨As, cs, rfl⟩ := Kd.S_slice hs
  have hb2g := bkB HG2.out hb2
  have HB2 := Zs0.mk (blT HB1.out hb2)
  have HZ := Zs0.mk (Kd.R_types (Kd.R_lower hz HB1.out.size) hb2g (by decide))
  have HS := Zs0.mk (Kd.S_types (Kd.S_lower hs HB1.out.size) hb2g (by decide))
  obtain ⟨u0, u1, u2, u3, u4, z0, z1, z2, z3, z4⟩ := bx5 hb2g
  have HG3 := Zs0.mk hb2g
  clear hb2 hb2g hz hs x0 x1 x2 x3 x4 y0 y1 y2 y3 y4
  go_wp2
  refine bodyPost_ret (results_cell_row rfl _ _ (w.heap.size + 1) 29 #[.slice Az r1.length cz, .int .i64 r2, .int .i64 r3, .int .i64 r4, .slice As r5.length cs] (0, 0) _ rfl (put5 HG3.out _ _ _ _ _) Try.underlying29 rfl (by kernel_rfl)) rfl ?_
  have hk := ((((((Kept.refl w2 (fun q => q = w.heap.size + 1)).setCell (p := ⟨w.heap.size + 1, 0, none⟩) (.inl rfl) (.slice Az r1.length cz)).setCell (p := ⟨w.heap.size + 1, 1, none⟩) (.inl rfl) (.int .i64 r2)).setCell (p := ⟨w.heap.size + 1, 2, none⟩) (.inl rfl) (.int .i64 r3)).setCell (p := ⟨w.heap.size + 1, 3, none⟩) (.inl rfl) (.int .i64 r4)).setCell (p := ⟨w.heap.size + 1, 4, none⟩) (.inl rfl) (.slice As r5.length cs))
  refine ⟨.slice Az r1.length cz, .slice As r5.length cs, rfl, Kd.R_mono (Kd.R_kept HZ.out hk fun q h1 h2 => h1.2 h2) fun _ _ => trivial, Kd.S_mono (Kd.S_kept HS.out hk fun q h1 h2 => h1.2 h2) fun _ _ => trivial, ?_⟩
  exact blS (blS (blS (blS (blS HB2.out (Nat.le_succ _)) (Nat.le_succ _)) (Nat.le_succ _)) (Nat.le_succ _)) (Nat.le_succ _)
/-- The blocks that are kept so far, and the cells that were put in for them. -/
def RowsOk (w4 : World) (gA : Nat) (bsA : List S47) (keep : List Int) (xs : List S47) (rows : List (List Value)) : Prop :=
  rows.length = xs.length ∧ ∀ j (h : j < xs.length), ∃ vc, w4.cell? ⟨gA, (keep.getD j 0).toNat * 5, none⟩ = some vc ∧ rows[j]? = some [vc, .int .i64 xs[j].f1, .int .i64 xs[j].f2, .int .i64 xs[j].f3, .int .i64 xs[j].f4] ∧ xs[j].f0 = (rd_T47 bsA (keep.getD j 0)).f0 ∧ 0 ≤ keep.getD j 0 ∧ keep.getD j 0 < (bsA.length : Int)
theorem RowsOk.snoc {w4 : World} {gA : Nat} {bsA : List S47} {keep : List Int} {xs : List S47} {rows : List (List Value)} (h : RowsOk w4 gA bsA keep xs rows) (b : S47) (vc : Value) (h1 : w4.cell? ⟨gA, (keep.getD xs.length 0).toNat * 5, none⟩ = some vc) (h2 : b.f0 = (rd_T47 bsA (keep.getD xs.length 0)).f0) (h3 : 0 ≤ keep.getD xs.length 0) (h4 : keep.getD xs.length 0 < (bsA.length : Int)) :
    RowsOk w4 gA bsA keep (xs ++ [b]) (rows ++ [[vc, .int .i64 b.f1, .int .i64 b.f2, .int .i64 b.f3, .int .i64 b.f4]]) := by
  refine ⟨by rw [List.length_append, List.length_append, h.1]; rfl, fun j hj => ?_⟩
  by_cases e : j < xs.length
  · obtain ⟨vc', a1, a2, a3⟩ := h.2 j e
    rw [List.getElem_append_left e, List.getElem?_append_left (by have := h.1; omega)]
    exact ⟨vc', a1, a2, a3⟩
  · rw [List.length_append, List.length_singleton] at hj
    obtain rfl : j = xs.length := by omega
    rw [List.getElem_append_right (Nat.le_refl _), List.getElem?_append_right (by have := h.1; omega)]
    simp only [Nat.sub_self, h.1, List.getElem?_cons_zero, List.getElem_cons_zero]
    exact ⟨vc, h1, rfl, h2, h3, h4⟩
theorem trL_take (k : Nat) (keep : List Int) (bs : List S47) (x : Int) (xs : List Int) (ys : List S47) (h : trL k keep bs (x :: xs) = some ys) : (0 ≤ x ∧ x < (bs.length : Int)) ∧ ∃ b r, trB k keep (rd_T47 bs x) = some b ∧ trL k keep bs xs = some r ∧ ys = b :: r := by
  unfold trL at h
  split at h
  · rename_i hc
    obtain ⟨b, hb, h⟩ := Option.bind_eq_some_iff.mp h
    obtain ⟨r, hr, h⟩ := Option.bind_eq_some_iff.mp h
    exact ⟨hc, b, r, hb, hr, (Option.some.inj h).symm⟩
  · cases h
theorem pw_inj {keep : List Int} (h : keep.Pairwise (· < ·)) (hp : ∀ j, j < keep.length → 0 ≤ keep.getD j 0) {i j : Nat} (hi : i < keep.length) (hj : j < keep.length) (e : (keep.getD i 0).toNat = (keep.getD j 0).toNat) : i = j := by
  have e2 : keep.getD i 0 = keep.getD j 0 := by have := hp i hi; have := hp j hj; omega
  rw [List.getD_eq_getElem?_getD, List.getD_eq_getElem?_getD, List.getElem?_eq_getElem hi, List.getElem?_eq_getElem hj] at e2
  have e3 : keep[i] = keep[j] := e2
  rw [List.pairwise_iff_getElem] at h
  rcases Nat.lt_trichotomy i j with l | l | l
  · have := h i j hi hj l; omega
  · exact l
  · have := h j i hj hi l; omega
theorem trim_S {w4 wr : World} {base g0 gA cs n c : Nat} {keep : List Int} {bsA xs : List S47} {As A : Option Addr} {rows : List (List Value)} {cells : Array Value} (hlow : base ≤ w4.heap.size) (hg0 : g0 < w4.heap.size) (hS : Kd.S k47 47 w4 base (fun _ => True) (.slice As bsA.length cs) bsA) (hgA : 0 < bsA.length → As = some ⟨gA, 0, none⟩)
    (hpw : keep.Pairwise (· < ·)) (hxl : xs.length = keep.length) (hrow : RowsOk w4 gA bsA keep xs rows) (hbel : Below w4.heap.size w4 wr) (hg2 : wr.heap[g0]? = some (.cells cells 29 (0, 0))) (hraw : (Kd.raw 5).R 47 wr w4.heap.size (fun _ => True) (.slice A n c) rows) : Kd.S k47 47 wr base (fun k => k ≠ g0) (.slice A n c) xs := by
  have hraw2 := Kd.R_bound hraw
  by_cases hb : 0 < bsA.length
  · obtain rfl := hgA hb
    have hS2 := Kd.S_types (Kd.S_below (Kd.S_bound hS) hbel) hg2 (by decide)
    refine Kd.S_mono (build_S (sel := fun j => (keep.getD j 0).toNat) hS2 hb (Kd.R_lower hraw2 hlow) hrow.1 (fun i j hi hj e => pw_inj hpw (fun j hj => ?_) (hxl ▸ hi) (hxl ▸ hj) e) (fun k hk e => ?_) (fun j hj => ?_)) ?_
    · obtain ⟨_, _, _, _, a4, _⟩ := hrow.2 j (hxl ▸ hj)
      exact a4
    · have h1 := (hraw2.1 k e.symm).2.1
      have h2 := hk.1.2.2.1
      omega
    · obtain ⟨vc, a1, a2, a3, a4, a5⟩ := hrow.2 j hj
      refine ⟨by show (keep.getD j 0).toNat < _; omega, vc, (hbel.cell (World.block_lt_of_cell? w4 _ a1)).trans a1, a2, ?_⟩
      rw [a3, show ((keep.getD j 0).toNat : Int) = keep.getD j 0 from by omega]
    · rintro k (h | h)
      · exact h.2
      · have h1 := h.2.1
        omega
  · have hx0 : xs = [] := by
      cases xs with
      | nil => rfl
      | cons a t =>
        obtain ⟨_, _, _, _, a4, a5⟩ := hrow.2 0 (Nat.succ_pos _)
        omega
    subst hx0
    have hr0 : rows = [] := List.eq_nil_of_length_eq_zero hrow.1
    subst hr0
    obtain ⟨h0, inner, hown, hr⟩ := Kd.R_lower hraw2 hlow
    exact ⟨fun _ => 0, fun k hk => (by have h1 := (h0 k hk).2.1; omega), inner, hown, hr.1, fun j p hj => (by simp at hj)⟩
/-- The loop's invariant. -/
def InvT (k : Nat) (keep : List Int) (bsA r5 : List S47) (gA : Nat) (vz va : Value) (p v s : Int) (w4 : World) (y : Int) (gg : Nat) (wr : World) : Prop :=
  ∃ (kk : Nat) (xs ys : List S47) (rows : List (List Value)) (A : Option Addr) (n c : Nat), (kk : Int) = y ∧ kk ≤ keep.length ∧ keep.length - kk ≤ gg ∧ xs.length = kk ∧ trL k keep bsA (keep.drop kk) = some ys ∧ r5 = xs ++ ys ∧ RowsOk w4 gA bsA keep xs rows ∧ Below w4.heap.size w4 wr ∧
    wr.heap[w4.heap.size]? = some (.cells #[vz, .int .i64 p, .int .i64 v, .int .i64 s, va] 29 (0, 0)) ∧ wr.heap[w4.heap.size + 1]? = some (.cells #[vz, .int .i64 p, .int .i64 v, .int .i64 s, .slice A n c] 29 (0, 0)) ∧ (Kd.raw 5).R 47 wr w4.heap.size (fun _ => True) (.slice A n c) rows
/-- Behind an append to the row of kept blocks, and the store of the row. -/
theorem appT {w4 wr W w1 : World} {vz va u v1 : Value} {p v s : Int} {rows : List (List Value)} {cell : List Value} (hbel : Below w4.heap.size w4 wr) (hW : Below wr.heap.size wr W) (hb4 : wr.heap[w4.heap.size]? = some (.cells #[vz, .int .i64 p, .int .i64 v, .int .i64 s, va] 29 (0, 0))) (hb5 : wr.heap[w4.heap.size + 1]? = some (.cells #[vz, .int .i64 p, .int .i64 v, .int .i64 s, u] 29 (0, 0)))
    (hraw : (Kd.raw 5).R 47 wr w4.heap.size (fun _ => True) u rows) (hR : (Kd.raw 5).R 47 w1 w4.heap.size (fun _ => True) v1 (rows ++ [cell])) (hB : Below w4.heap.size w4 w1) (hgr : W.grownBy w1 u.ownBlock) :
    (w1.cell? ⟨w4.heap.size + 1, 4, none⟩ = some u ∧ w1.frozen? ⟨w4.heap.size + 1, 4, none⟩ = false) ∧ Below w4.heap.size w4 (w1.setCell ⟨w4.heap.size + 1, 4, none⟩ v1) ∧
      (w1.setCell ⟨w4.heap.size + 1, 4, none⟩ v1).heap[w4.heap.size]? = some (.cells #[vz, .int .i64 p, .int .i64 v, .int .i64 s, va] 29 (0, 0)) ∧ (w1.setCell ⟨w4.heap.size + 1, 4, none⟩ v1).heap[w4.heap.size + 1]? = some (.cells #[vz, .int .i64 p, .int .i64 v, .int .i64 s, v1] 29 (0, 0)) ∧ (Kd.raw 5).R 47 (w1.setCell ⟨w4.heap.size + 1, 4, none⟩ v1) w4.heap.size (fun _ => True) v1 (rows ++ [cell]) := by
  have far : ∀ (q : Nat) (cs : Array Value), wr.heap[q]? = some (.cells cs 29 (0, 0)) → w1.heap[q]? = some (.cells cs 29 (0, 0)) := fun q cs hq => by
    have hq2 := bkB hq hW
    refine (hgr.block q (blk_lt hq2) fun e => ?_).trans hq2
    obtain ⟨cs2, h2⟩ := Kd.R_typed hraw q e.symm
    rw [hq] at h2
    injection h2 with h2
    injection h2 with _ h2
    exact absurd h2 (by decide)
  have h4 := far _ _ hb4
  have h5 := far _ _ hb5
  refine ⟨⟨by rw [bkC h5]; rfl, blk_frozen h5 4⟩, blS hB (Nat.le_succ _), (Below.heap_setCell w1 ⟨w4.heap.size + 1, 4, none⟩ v1 _ (by show w4.heap.size ≠ w4.heap.size + 1; omega)).trans h4, blk_put h5 4 v1 rfl, ?_⟩
  exact Kd.R_mono (Kd.R_far (Kd.R_types hR h5 (by decide)) (fun q hq => hq.2) v1) fun _ _ => trivial
theorem one5 (v : Value) (a b c d : Int) (h : v.oneCell' = true) : ∀ u ∈ [v, .int .i64 a, .int .i64 b, .int .i64 c, .int .i64 d], u.oneCell' = true := by
  intro u hu
  simp only [List.mem_cons, List.not_mem_nil, or_false] at hu
  rcases hu with rfl | rfl | rfl | rfl | rfl
  · exact h
  all_goals rfl
set_option maxRecDepth 100000 in
set_option maxHeartbeats 8000000 in
theorem trim_yes (k : Nat) (A0_0 : Option Addr) (c0_0 : Nat) (l0_0 : List Int) (a0_1 : Int) (a0_2 : Int) (a0_3 : Int) (A0_4 : Option Addr) (c0_4 : Nat) (l0_4 : List S47) (o keep : List Int) (r1 : List Int) (r2 : Int) (r3 : Int) (r4 : Int) (bsA r5 : List S47) (w : World) (hr0_0 : Kd.C (Kd.int .i64) w A0_0 l0_0.length l0_0) (hc0_0 : l0_0.length ≤ c0_0) (hr0_4 : Kd.C k47 w A0_4 l0_4.length l0_4) (hc0_4 : l0_4.length ≤ c0_4)
    (e1 : impl_isGraph.f k l0_0 a0_1 a0_2 a0_3 l0_4 = some true) (e2 : impl_order.f k l0_0 a0_1 a0_2 a0_3 l0_4 = some o) (e3 : impl_ascending.f o = some keep) (e4 : impl_copyGraph.f k l0_0 a0_1 a0_2 a0_3 l0_4 = some (r1, r2, r3, r4, bsA)) (hpw : keep.Pairwise (· < ·)) (hkl : keep.length ≤ 1048576) (e5 : trL k keep bsA keep = some r5) :
    Calls Try.prog 10 #[.agg #[.slice A0_0 l0_0.length c0_0, .int .i64 a0_1, .int .i64 a0_2, .int .i64 a0_3, .slice A0_4 l0_4.length c0_4]] w fun e w' => ∃ v0_ v4_ : Value, e = .returned (.agg #[v0_, .int .i64 r2, .int .i64 r3, .int .i64 r4, v4_]) ∧ Kd.R (Kd.int .i64) 3 w' w.heap.size (fun _ => True) v0_ r1 ∧ Kd.S k47 47 w' w.heap.size (fun _ => True) v4_ r5 ∧ Below w.heap.size w w' := by
  have huIG := Try.underlying29
  have huIB := Try.underlying47
  have HR0 := Zs0.mk hr0_0
  have HR4 := Zs0.mk hr0_4
  have HE1 := Zs0.mk e1
  have HE2 := Zs0.mk e2
  have HE3 := Zs0.mk e3
  have HE4 := Zs0.mk e4
  have HE5 := Zs0.mk e5
  have HPW := Zs0.mk hpw
  have HKL := Zs0.mk hkl
  clear hr0_0 hr0_4 e1 e2 e3 e4 e5 hpw hkl
  go_enter Try.func10, Try.ntmps10
  go_wp2_with fail
  go_at_call 33
  refine (impl_isGraph.calls k _ _ l0_0 a0_1 a0_2 a0_3 _ _ l0_4 _ _ (Kd.cA1 (Kd.cA1 HR0.out _) _) hc0_0 (Kd.cA1 (Kd.cA1 HR4.out _) _) hc0_4 HE1.out).mono ?_
  rintro e w1 ⟨rfl, hb1⟩
  have hb1g := bkB (g := w.heap.size) (bkA (heap_alloc_new w _) _) hb1
  have hb2g := bkB (g := w.heap.size + 1) (show _ = some (.cells #[.slice none 0 0, .int .i64 0, .int .i64 0, .int .i64 0, .slice none 0 0] 29 (0, 0)) from by have h := heap_alloc_new (w.alloc (.cells #[.slice A0_0 l0_0.length c0_0, .int .i64 a0_1, .int .i64 a0_2, .int .i64 a0_3, .slice A0_4 l0_4.length c0_4] 29)) (.cells #[.slice none 0 0, .int .i64 0, .int .i64 0, .int .i64 0, .slice none 0 0] 29); simpa using h) hb1
  have HB1 := Zs0.mk (show Below w.heap.size w w1 from blT (blA (blA (Below.refl _ _) _) _) hb1)
  have HG1 := Zs0.mk hb1g
  have HG2 := Zs0.mk hb2g
  obtain ⟨x0, x1, x2, x3, x4, y0, y1, y2, y3, y4⟩ := bx5 hb1g
  clear hb1 hb1g hb2g
  go_wp2_with fail
  go_at_call 36
  refine (impl_order.calls k _ _ l0_0 a0_1 a0_2 a0_3 _ _ l0_4 _ _ (Kd.cB1 HR0.out HB1.out) hc0_0 (Kd.cB1 HR4.out HB1.out) hc0_4 HE2.out).mono ?_
  rintro e w2 ⟨vo, rfl, ho, hb2⟩
  obtain ⟨Ao, co, rfl⟩ := Kd.R_slice ho
  have HB2 := Zs0.mk (blT HB1.out hb2)
  have HO := Zs0.mk (Kd.R_lower ho HB1.out.size)
  have HG1' := Zs0.mk (bkB HG1.out hb2)
  have HG2' := Zs0.mk (bkB HG2.out hb2)
  clear hb2 ho x0 x1 x2 x3 x4 y0 y1 y2 y3 y4
  go_wp2_with fail
  go_at_call 35
  refine (asc_own HB2.out HO.out HE3.out).mono ?_
  rintro e w3 ⟨vk, rfl, hkr, hb3, hkp⟩
  obtain ⟨Ak, ck, rfl⟩ := Kd.R_slice hkr
  have hg1 := hkp _ _ _ HG1'.out (by decide)
  have hg2 := hkp _ _ _ HG2'.out (by decide)
  have HB3 := Zs0.mk hb3
  have HK3 := Zs0.mk hkr
  have HG1 := Zs0.mk hg1
  have HG2 := Zs0.mk hg2
  obtain ⟨x0, x1, x2, x3, x4, y0, y1, y2, y3, y4⟩ := bx5 hg1
  clear hb3 hkr hkp hg1 hg2
  go_wp2_with fail
  go_at_call 34
  refine (impl_copyGraph.calls k _ _ l0_0 a0_1 a0_2 a0_3 _ _ l0_4 _ _ _ _ _ _ (Kd.cB1 HR0.out HB3.out) hc0_0 (Kd.cB1 HR4.out HB3.out) hc0_4 HE4.out).mono ?_
  rintro e w4 ⟨v0, v4, rfl, hz, hs, hb4⟩
  obtain ⟨Az, cz, rfl⟩ := Kd.R_slice hz
  obtain ⟨As, cs, rfl⟩ := Kd.S_slice hs
  have HB4 := Zs0.mk (blT HB3.out hb4)
  have HZ := Zs0.mk (Kd.R_lower hz HB3.out.size)
  have HS := Zs0.mk (Kd.S_lower hs HB3.out.size)
  have HG1 := Zs0.mk (bkB HG1.out hb4)
  have HG2 := Zs0.mk (bkB HG2.out hb4)
  have HK4 := Zs0.mk (Kd.R_below HK3.out hb4)
  clear hb4 hz hs x0 x1 x2 x3 x4 y0 y1 y2 y3 y4
  go_wp2
  obtain ⟨gA, hgA⟩ : ∃ gA : Nat, 0 < bsA.length → As = some ⟨gA, 0, none⟩ := by
    by_cases hpos : 0 < bsA.length
    · obtain ⟨g, c, e, _⟩ := parts HS.out hpos
      injection e with e _ _
      exact ⟨g, fun _ => e⟩
    · exact ⟨0, fun h => absurd h hpos⟩
  have HGA := Zs0.mk hgA
  clear hgA
  go_loopg [23] keep.length (fun gg s23 wr => ∃ y : Int, s23 = .int .i64 y ∧ Zs0 (InvT k keep bsA r5 gA (.slice Az r1.length cz) (.slice As bsA.length cs) r2 r3 r4 w4 y gg wr))
  case atStart =>
    refine ⟨0, rfl, ⟨⟨0, [], r5, [], none, 0, 0, rfl, Nat.zero_le _, by omega, rfl, by rw [List.drop_zero]; exact HE5.out, rfl, ⟨rfl, fun j h => absurd h (Nat.not_lt_zero _)⟩, blA (blA (Below.refl _ _) _) _, ?_, ?_, Kd.R_nil _ _ _ _ _⟩⟩⟩
    · exact bkA (heap_alloc_new w4 _) _
    · have h := heap_alloc_new (w4.alloc (.cells #[.slice Az r1.length cz, .int .i64 r2, .int .i64 r3, .int .i64 r4, .slice As bsA.length cs] 29)) (.cells #[.slice Az r1.length cz, .int .i64 r2, .int .i64 r3, .int .i64 r4, .slice none 0 0] 29)
      simpa using h
  case round =>
    obtain ⟨y, rfl, A2⟩ := hrel
    by_cases hlt : y < (keep.length : Int)
    · have c4b0 : decide (y < (keep.length : Int)) = true := decide_eq_true hlt
      have p101 : 0 ≤ y := by obtain ⟨kk, _, _, _, _, _, _, h1, _⟩ := A2.out; omega
      obtain ⟨kk, xs, ys, rows, A, n, c, hkk, hk1, hk2, hxl, htr, hr5, hrow, hbel, hb4, hb5, hraw⟩ := A2.out
      have hkl : kk < keep.length := by omega
      rw [List.drop_eq_getElem_cons hkl] at htr
      obtain ⟨⟨hx0, hx1⟩, b, r, hb, hr, rfl⟩ := trL_take k keep bsA _ _ _ htr
      have hrd : rd keep y = keep[kk] := by rw [← hkk]; exact rd_lt keep kk hkl
      have hgd : keep.getD xs.length 0 = keep[kk] := by rw [hxl, List.getD_eq_getElem?_getD, List.getElem?_eq_getElem hkl]; rfl
      obtain ⟨adk, rfl, hck⟩ := Kd.at_int (Kd.cB1 (Kd.R_reads' HK4.out).2.2 hbel) y p101 hlt
      rw [hrd] at hck
      generalize hx : keep[kk] = x at hx0 hx1 hb hck hgd
      have hAs := HGA.out (by omega)
      obtain ⟨adA, Ac, cc, eA, q0, q1, q2, q3, q4, ql, qi⟩ := at_T47 (Kd.S_reads' HS.out).2.2 x hx0 hx1
      have hadA : adA = ⟨gA, 0, none⟩ := by rw [hAs] at eA; exact (Option.some.inj eA).symm
      subst eA
      have q00 : w4.cell? ⟨gA, (keep.getD xs.length 0).toNat * 5, none⟩ = some (.slice Ac (rd_T47 bsA x).f0.length cc) := by
        rw [hgd]
        rw [hadA, add_plain] at q0
        simpa using q0
      subst hadA
      rw [add_plain] at q0 q1 q2 q3 q4
      dsimp only at q1 q2 q3 q4
      replace q0 := (hbel.cell (World.block_lt_of_cell? w4 _ q0)).trans q0
      replace q1 := (hbel.cell (World.block_lt_of_cell? w4 _ q1)).trans q1
      replace q2 := (hbel.cell (World.block_lt_of_cell? w4 _ q2)).trans q2
      replace q3 := (hbel.cell (World.block_lt_of_cell? w4 _ q3)).trans q3
      replace q4 := (hbel.cell (World.block_lt_of_cell? w4 _ q4)).trans q4
      obtain ⟨x0, x1, x2, x3, x4, y0, y1, y2, y3, y4⟩ := bx5 hb4
      obtain ⟨u0, u1, u2, u3, u4, z0, z1, z2, z3, z4⟩ := bx5 hb5
      have HKC := Zs0.mk (Kd.cB1 (Kd.R_reads' HK4.out).2.2 hbel)
      have HCK := Zs0.mk (Kd.R_reads' HK4.out).2.1
      have HRAW := Zs0.mk hraw
      have HBEL := Zs0.mk hbel
      have HB4B := Zs0.mk hb4
      have HB5B := Zs0.mk hb5
      have HLEN := Zs0.mk (show (rows.length + 1) * 56 ≤ 140737488355328 by have := hrow.1; have := HKL.out; omega)
      have HKK := Zs0.mk hkk
      have HK2 := Zs0.mk hk2
      have HKL2 := Zs0.mk hkl
      have HXL := Zs0.mk hxl
      have HR := Zs0.mk hr
      have HROW := Zs0.mk hrow
      have HQ00 := Zs0.mk q00
      have HGD := Zs0.mk hgd
      have HX0 := Zs0.mk hx0
      have HX1 := Zs0.mk hx1
      have hx0' := eq_true hx0
      have hx1' := eq_true hx1
      have hb5n := blk_lt hb5
      have hb4n := blk_lt hb4
      clear hx htr hraw hbel hb4 hb5 hkk hk1 hk2 hxl hr hrow q00 hgd hrd hkl qi ql hx0 hx1
      replace p101 := eq_true p101
      replace hlt := eq_true hlt
      unfold trB at hb
      obtain ⟨t3, ht3, hb⟩ := Option.bind_eq_some_iff.mp hb
      obtain ⟨t4, ht4, hb⟩ := Option.bind_eq_some_iff.mp hb
      obtain rfl := Option.some.inj hb
      have HR5 := Zs0.mk hr5
      clear hb hr5
      by_cases f2 : (rd_T47 bsA x).f1 = 2
      · rw [if_pos f2] at ht3
        rw [if_neg (by omega)] at ht4
        obtain rfl := Option.some.inj ht3
        obtain rfl := Option.some.inj ht4
        have c20 : ((rd_T47 bsA x).f1 == 2) = true := beq_iff_eq.mpr f2
        have c21 : ((rd_T47 bsA x).f1 != 2) = false := bne_eq_false_iff_eq.mpr f2
        have c10 : ((rd_T47 bsA x).f1 == 1) = false := beq_eq_false_iff_ne.mpr (by omega)
        clear f2 ht3 ht4
        go_wp2_with (first | (at_builtin; refine Kd.R_append (Kd.raw 5) (w0 := w4) w4.heap.size rfl (.tmp 49) (.tmp 51) 27 47 (.agg #[(.slice none 0 0), (.int .i64 0), (.int .i64 0), (.int .i64 0), (.int .i64 0)]) 56 rfl Try.underlying27 info47 rfl (by decide) (by omega) (.slice A n c) rows [.slice Ac (rd_T47 bsA x).f0.length cc, .int .i64 (rd_T47 bsA x).f1, .int .i64 (rd_T47 bsA x).f2, .int .i64 ((rd_T47 bsA x).f3), .int .i64 ((rd_T47 bsA x).f4)] [.slice Ac (rd_T47 bsA x).f0.length cc, .int .i64 (rd_T47 bsA x).f1, .int .i64 (rd_T47 bsA x).f2, .int .i64 ((rd_T47 bsA x).f3), .int .i64 ((rd_T47 bsA x).f4)] (fun _ => True) (fun _ => False) rfl (by first | rfl | (go_simp; done) | (simp; done)) ⟨rfl, rfl, one5 _ _ _ _ _ rfl⟩ (fun _ hk => hk.elim) (fun _ _ => trivial) (Kd.R_below HRAW.out (by repeat (first | with_reducible exact Below.refl _ _ | with_reducible apply blA | with_reducible apply pbN | (refine blS ?_ (by simp))))) (blT HBEL.out (by repeat (first | with_reducible exact Below.refl _ _ | with_reducible apply blA | with_reducible apply pbN | (refine blS ?_ (by simp))))) (blT HBEL.out (by repeat (first | with_reducible exact Below.refl _ _ | with_reducible apply blA | with_reducible apply pbN | (refine blS ?_ (by simp))))).size HLEN.out ?_; intro v1 w9 hR9 hB9 hgr9 _; obtain ⟨A9, c9, rfl⟩ := Kd.R_slice hR9; obtain ⟨⟨s0, s1⟩, s2, s3, s4, s5⟩ := appT (cell := [.slice Ac (rd_T47 bsA x).f0.length cc, .int .i64 (rd_T47 bsA x).f1, .int .i64 (rd_T47 bsA x).f2, .int .i64 ((rd_T47 bsA x).f3), .int .i64 ((rd_T47 bsA x).f4)]) HBEL.out (by repeat (first | with_reducible exact Below.refl _ _ | with_reducible apply blA | with_reducible apply pbN | (refine blS ?_ (by simp)))) HB4B.out HB5B.out HRAW.out hR9 hB9 hgr9; have H2 := Zs0.mk s2; have H3 := Zs0.mk s3; have H4 := Zs0.mk s4; have H5 := Zs0.mk s5; clear s2 s3 s4 s5 hR9 hB9 hgr9))
        go_roundg (gk - 1)
        case measure => have h1 := HK2.out; have h2 := HKL2.out; omega
        case rel =>
          refine ⟨_, rfl, ⟨?_⟩⟩
          have h1 := HKK.out
          have h2 := HKL2.out
          have h3 := HK2.out
          have h4 := HKL.out
          have h6 := HXL.out
          have z2 := H2.out
          have z3 := H3.out
          have z4 := H4.out
          have z5 := H5.out
          simp only [List.length_append, List.length_cons, List.length_nil, Nat.zero_add] at z2 z3 z4 z5
          refine ⟨kk + 1, xs ++ [⟨(rd_T47 bsA x).f0, (rd_T47 bsA x).f1, (rd_T47 bsA x).f2, (rd_T47 bsA x).f3, (rd_T47 bsA x).f4⟩], r, rows ++ [[.slice Ac (rd_T47 bsA x).f0.length cc, .int .i64 (rd_T47 bsA x).f1, .int .i64 (rd_T47 bsA x).f2, .int .i64 ((rd_T47 bsA x).f3), .int .i64 ((rd_T47 bsA x).f4)]], A9, _, c9, ?_, by omega, by omega, by rw [List.length_append, h6]; rfl, HR.out, by rw [HR5.out, List.append_assoc]; rfl, (HROW.out).snoc ⟨(rd_T47 bsA x).f0, (rd_T47 bsA x).f1, (rd_T47 bsA x).f2, (rd_T47 bsA x).f3, (rd_T47 bsA x).f4⟩ _ HQ00.out ?_ ?_ ?_, z2, z3, z4, z5⟩
          · rw [wrap_ok (by omega) (by omega)]
            omega
          · show (rd_T47 bsA x).f0 = _
            rw [HGD.out]
          · rw [HGD.out]
            exact HX0.out
          · rw [HGD.out]
            exact HX1.out
      · rw [if_neg f2] at ht3
        have c20 : ((rd_T47 bsA x).f1 == 2) = false := beq_eq_false_iff_ne.mpr f2
        have c21 : ((rd_T47 bsA x).f1 != 2) = true := bne_iff_ne.mpr f2
        have HT3 := Zs0.mk ht3
        clear f2 ht3
        by_cases f1 : (rd_T47 bsA x).f1 = 1
        · rw [if_pos f1] at ht4
          have c10 : ((rd_T47 bsA x).f1 == 1) = true := beq_iff_eq.mpr f1
          have HT4 := Zs0.mk ht4
          clear f1 ht4
          go_wp2_with (first | (go_at_call 37; refine (slices_Index_int_int.calls k _ _ keep _ _ _ (Kd.cB1 HKC.out (by repeat (first | with_reducible exact Below.refl _ _ | with_reducible apply blA | with_reducible apply pbN | (refine blS ?_ (by simp))))) HCK.out HT3.out).mono ?_; clear HT3; rintro e w' ⟨rfl, ⟨nd, rfl⟩⟩) | (go_at_call 37; refine (slices_Index_int_int.calls k _ _ keep _ _ _ (Kd.cB1 HKC.out (by repeat (first | with_reducible exact Below.refl _ _ | with_reducible apply blA | with_reducible apply pbN | (refine blS ?_ (by simp))))) HCK.out HT4.out).mono ?_; rintro e w' ⟨rfl, ⟨nd, rfl⟩⟩) | (at_builtin; refine Kd.R_append (Kd.raw 5) (w0 := w4) w4.heap.size rfl (.tmp 49) (.tmp 51) 27 47 (.agg #[(.slice none 0 0), (.int .i64 0), (.int .i64 0), (.int .i64 0), (.int .i64 0)]) 56 rfl Try.underlying27 info47 rfl (by decide) (by omega) (.slice A n c) rows [.slice Ac (rd_T47 bsA x).f0.length cc, .int .i64 (rd_T47 bsA x).f1, .int .i64 (rd_T47 bsA x).f2, .int .i64 (t3), .int .i64 (t4)] [.slice Ac (rd_T47 bsA x).f0.length cc, .int .i64 (rd_T47 bsA x).f1, .int .i64 (rd_T47 bsA x).f2, .int .i64 (t3), .int .i64 (t4)] (fun _ => True) (fun _ => False) rfl (by first | rfl | (go_simp; done) | (simp; done)) ⟨rfl, rfl, one5 _ _ _ _ _ rfl⟩ (fun _ hk => hk.elim) (fun _ _ => trivial) (Kd.R_below HRAW.out (by repeat (first | with_reducible exact Below.refl _ _ | with_reducible apply blA | with_reducible apply pbN | (refine blS ?_ (by simp))))) (blT HBEL.out (by repeat (first | with_reducible exact Below.refl _ _ | with_reducible apply blA | with_reducible apply pbN | (refine blS ?_ (by simp))))) (blT HBEL.out (by repeat (first | with_reducible exact Below.refl _ _ | with_reducible apply blA | with_reducible apply pbN | (refine blS ?_ (by simp))))).size HLEN.out ?_; intro v1 w9 hR9 hB9 hgr9 _; obtain ⟨A9, c9, rfl⟩ := Kd.R_slice hR9; obtain ⟨⟨s0, s1⟩, s2, s3, s4, s5⟩ := appT (cell := [.slice Ac (rd_T47 bsA x).f0.length cc, .int .i64 (rd_T47 bsA x).f1, .int .i64 (rd_T47 bsA x).f2, .int .i64 (t3), .int .i64 (t4)]) HBEL.out (by repeat (first | with_reducible exact Below.refl _ _ | with_reducible apply blA | with_reducible apply pbN | (refine blS ?_ (by simp)))) HB4B.out HB5B.out HRAW.out hR9 hB9 hgr9; have H2 := Zs0.mk s2; have H3 := Zs0.mk s3; have H4 := Zs0.mk s4; have H5 := Zs0.mk s5; clear s2 s3 s4 s5 hR9 hB9 hgr9))
          go_roundg (gk - 1)
          case measure => have h1 := HK2.out; have h2 := HKL2.out; omega
          case rel =>
            refine ⟨_, rfl, ⟨?_⟩⟩
            have h1 := HKK.out
            have h2 := HKL2.out
            have h3 := HK2.out
            have h4 := HKL.out
            have h6 := HXL.out
            have z2 := H2.out
            have z3 := H3.out
            have z4 := H4.out
            have z5 := H5.out
            simp only [List.length_append, List.length_cons, List.length_nil, Nat.zero_add] at z2 z3 z4 z5
            refine ⟨kk + 1, xs ++ [⟨(rd_T47 bsA x).f0, (rd_T47 bsA x).f1, (rd_T47 bsA x).f2, t3, t4⟩], r, rows ++ [[.slice Ac (rd_T47 bsA x).f0.length cc, .int .i64 (rd_T47 bsA x).f1, .int .i64 (rd_T47 bsA x).f2, .int .i64 (t3), .int .i64 (t4)]], A9, _, c9, ?_, by omega, by omega, by rw [List.length_append, h6]; rfl, HR.out, by rw [HR5.out, List.append_assoc]; rfl, (HROW.out).snoc ⟨(rd_T47 bsA x).f0, (rd_T47 bsA x).f1, (rd_T47 bsA x).f2, t3, t4⟩ _ HQ00.out ?_ ?_ ?_, z2, z3, z4, z5⟩
            · rw [wrap_ok (by omega) (by omega)]
              omega
            · show (rd_T47 bsA x).f0 = _
              rw [HGD.out]
            · rw [HGD.out]
              exact HX0.out
            · rw [HGD.out]
              exact HX1.out
        · rw [if_neg f1] at ht4
          obtain rfl := Option.some.inj ht4
          have c10 : ((rd_T47 bsA x).f1 == 1) = false := beq_eq_false_iff_ne.mpr f1
          clear f1 ht4
          go_wp2_with (first | (go_at_call 37; refine (slices_Index_int_int.calls k _ _ keep _ _ _ (Kd.cB1 HKC.out (by repeat (first | with_reducible exact Below.refl _ _ | with_reducible apply blA | with_reducible apply pbN | (refine blS ?_ (by simp))))) HCK.out HT3.out).mono ?_; clear HT3; rintro e w' ⟨rfl, ⟨nd, rfl⟩⟩) | (at_builtin; refine Kd.R_append (Kd.raw 5) (w0 := w4) w4.heap.size rfl (.tmp 49) (.tmp 51) 27 47 (.agg #[(.slice none 0 0), (.int .i64 0), (.int .i64 0), (.int .i64 0), (.int .i64 0)]) 56 rfl Try.underlying27 info47 rfl (by decide) (by omega) (.slice A n c) rows [.slice Ac (rd_T47 bsA x).f0.length cc, .int .i64 (rd_T47 bsA x).f1, .int .i64 (rd_T47 bsA x).f2, .int .i64 (t3), .int .i64 ((rd_T47 bsA x).f4)] [.slice Ac (rd_T47 bsA x).f0.length cc, .int .i64 (rd_T47 bsA x).f1, .int .i64 (rd_T47 bsA x).f2, .int .i64 (t3), .int .i64 ((rd_T47 bsA x).f4)] (fun _ => True) (fun _ => False) rfl (by first | rfl | (go_simp; done) | (simp; done)) ⟨rfl, rfl, one5 _ _ _ _ _ rfl⟩ (fun _ hk => hk.elim) (fun _ _ => trivial) (Kd.R_below HRAW.out (by repeat (first | with_reducible exact Below.refl _ _ | with_reducible apply blA | with_reducible apply pbN | (refine blS ?_ (by simp))))) (blT HBEL.out (by repeat (first | with_reducible exact Below.refl _ _ | with_reducible apply blA | with_reducible apply pbN | (refine blS ?_ (by simp))))) (blT HBEL.out (by repeat (first | with_reducible exact Below.refl _ _ | with_reducible apply blA | with_reducible apply pbN | (refine blS ?_ (by simp))))).size HLEN.out ?_; intro v1 w9 hR9 hB9 hgr9 _; obtain ⟨A9, c9, rfl⟩ := Kd.R_slice hR9; obtain ⟨⟨s0, s1⟩, s2, s3, s4, s5⟩ := appT (cell := [.slice Ac (rd_T47 bsA x).f0.length cc, .int .i64 (rd_T47 bsA x).f1, .int .i64 (rd_T47 bsA x).f2, .int .i64 (t3), .int .i64 ((rd_T47 bsA x).f4)]) HBEL.out (by repeat (first | with_reducible exact Below.refl _ _ | with_reducible apply blA | with_reducible apply pbN | (refine blS ?_ (by simp)))) HB4B.out HB5B.out HRAW.out hR9 hB9 hgr9; have H2 := Zs0.mk s2; have H3 := Zs0.mk s3; have H4 := Zs0.mk s4; have H5 := Zs0.mk s5; clear s2 s3 s4 s5 hR9 hB9 hgr9))
          go_roundg (gk - 1)
          case measure => have h1 := HK2.out; have h2 := HKL2.out; omega
          case rel =>
            refine ⟨_, rfl, ⟨?_⟩⟩
            have h1 := HKK.out
            have h2 := HKL2.out
            have h3 := HK2.out
            have h4 := HKL.out
            have h6 := HXL.out
            have z2 := H2.out
            have z3 := H3.out
            have z4 := H4.out
            have z5 := H5.out
            simp only [List.length_append, List.length_cons, List.length_nil, Nat.zero_add] at z2 z3 z4 z5
            refine ⟨kk + 1, xs ++ [⟨(rd_T47 bsA x).f0, (rd_T47 bsA x).f1, (rd_T47 bsA x).f2, t3, (rd_T47 bsA x).f4⟩], r, rows ++ [[.slice Ac (rd_T47 bsA x).f0.length cc, .int .i64 (rd_T47 bsA x).f1, .int .i64 (rd_T47 bsA x).f2, .int .i64 (t3), .int .i64 ((rd_T47 bsA x).f4)]], A9, _, c9, ?_, by omega, by omega, by rw [List.length_append, h6]; rfl, HR.out, by rw [HR5.out, List.append_assoc]; rfl, (HROW.out).snoc ⟨(rd_T47 bsA x).f0, (rd_T47 bsA x).f1, (rd_T47 bsA x).f2, t3, (rd_T47 bsA x).f4⟩ _ HQ00.out ?_ ?_ ?_, z2, z3, z4, z5⟩
            · rw [wrap_ok (by omega) (by omega)]
              omega
            · show (rd_T47 bsA x).f0 = _
              rw [HGD.out]
            · rw [HGD.out]
              exact HX0.out
            · rw [HGD.out]
              exact HX1.out
    · have c4b0 : decide (y < (keep.length : Int)) = false := decide_eq_false hlt
      obtain ⟨kk, xs, ys, rows, A, n, c, hkk, hk1, hk2, hxl, htr, hr5, hrow, hbel, hb4, hb5, hraw⟩ := A2.out
      obtain rfl : kk = keep.length := by omega
      rw [List.drop_length] at htr
      obtain rfl : ys = [] := (Option.some.inj htr).symm
      rw [List.append_nil] at hr5
      subst hr5
      have hg2 := bkB HG2.out hbel
      obtain ⟨x0, x1, x2, x3, x4, y0, y1, y2, y3, y4⟩ := bx5 hb5
      obtain ⟨u0, u1, u2, u3, u4, z0, z1, z2, z3, z4⟩ := bx5 hg2
      have hlow := HB4.out.size
      have hlt4 := blk_lt HG2.out
      have HS9 := Zs0.mk (trim_S hlow hlt4 HS.out HGA.out HPW.out hxl hrow hbel hg2 hraw)
      have HZ9 := Zs0.mk (Kd.R_types (Kd.R_below HZ.out hbel) hg2 (by decide))
      have HB9 := Zs0.mk (blT HB4.out hbel)
      have HG9 := Zs0.mk hg2
      clear hkk hk1 hk2 hxl htr hrow hbel hb4 hb5 hraw hg2 hlow hlt4 hlt A2
      go_wp2
      refine bodyPost_ret (results_cell_row rfl _ _ (w.heap.size + 1) 29 #[.slice Az r1.length cz, .int .i64 r2, .int .i64 r3, .int .i64 r4, .slice A n c] (0, 0) _ rfl (put5 HG9.out _ _ _ _ _) Try.underlying29 rfl (by kernel_rfl)) rfl ?_
      have hk := ((((((Kept.refl wr (fun q => q = w.heap.size + 1)).setCell (p := ⟨w.heap.size + 1, 0, none⟩) (.inl rfl) (.slice Az r1.length cz)).setCell (p := ⟨w.heap.size + 1, 1, none⟩) (.inl rfl) (.int .i64 r2)).setCell (p := ⟨w.heap.size + 1, 2, none⟩) (.inl rfl) (.int .i64 r3)).setCell (p := ⟨w.heap.size + 1, 3, none⟩) (.inl rfl) (.int .i64 r4)).setCell (p := ⟨w.heap.size + 1, 4, none⟩) (.inl rfl) (.slice A n c))
      refine ⟨.slice Az r1.length cz, .slice A n c, rfl, Kd.R_mono (Kd.R_kept HZ9.out hk fun q h1 h2 => h1.2 h2) fun _ _ => trivial, Kd.S_mono (Kd.S_kept HS9.out hk fun q h1 h2 => h1 h2) fun _ _ => trivial, ?_⟩
      exact blS (blS (blS (blS (blS HB9.out (Nat.le_succ _)) (Nat.le_succ _)) (Nat.le_succ _)) (Nat.le_succ _)) (Nat.le_succ _)
theorem impl_Trim.calls (k : Nat) (A0_0 : Option Addr) (c0_0 : Nat) (l0_0 : List Int) (a0_1 : Int) (a0_2 : Int) (a0_3 : Int) (A0_4 : Option Addr) (c0_4 : Nat) (l0_4 : List S47) (r1 : List Int) (r2 : Int) (r3 : Int) (r4 : Int) (r5 : List S47) (w : World) (hr0_0 : Kd.C (Kd.int .i64) w A0_0 l0_0.length l0_0) (hc0_0 : l0_0.length ≤ c0_0) (hr0_4 : Kd.C k47 w A0_4 l0_4.length l0_4) (hc0_4 : l0_4.length ≤ c0_4)
    (h : impl_Trim.f k l0_0 a0_1 a0_2 a0_3 l0_4 = some (r1, r2, r3, r4, r5)) :
    Calls Try.prog 10 #[.agg #[.slice A0_0 l0_0.length c0_0, .int .i64 a0_1, .int .i64 a0_2, .int .i64 a0_3, .slice A0_4 l0_4.length c0_4]] w fun e w' => ∃ v0_ v4_ : Value, e = .returned (.agg #[v0_, .int .i64 r2, .int .i64 r3, .int .i64 r4, v4_]) ∧ Kd.R (Kd.int .i64) 3 w' w.heap.size (fun _ => True) v0_ r1 ∧ Kd.S k47 47 w' w.heap.size (fun _ => True) v4_ r5 ∧ Below w.heap.size w w' := by
  unfold impl_Trim.f at h
  obtain ⟨t, e1, h⟩ := Option.bind_eq_some_iff.mp h
  cases t with
  | false =>
    rw [if_neg (by decide)] at h
    exact trim_no k A0_0 c0_0 l0_0 a0_1 a0_2 a0_3 A0_4 c0_4 l0_4 r1 r2 r3 r4 r5 w hr0_0 hc0_0 hr0_4 hc0_4 e1 h
  | true =>
    rw [if_pos rfl] at h
    obtain ⟨o, e2, h⟩ := Option.bind_eq_some_iff.mp h
    obtain ⟨keep, e3, h⟩ := Option.bind_eq_some_iff.mp h
    obtain ⟨⟨q1, q2, q3, q4, bsA⟩, e4, h⟩ := Option.bind_eq_some_iff.mp h
    split at h
    · rename_i hc
      obtain ⟨bs', e5, h⟩ := Option.bind_eq_some_iff.mp h
      have h := Option.some.inj h
      simp only [Prod.mk.injEq] at h
      obtain ⟨rfl, rfl, rfl, rfl, rfl⟩ := h
      exact trim_yes k A0_0 c0_0 l0_0 a0_1 a0_2 a0_3 A0_4 c0_4 l0_4 o keep q1 q2 q3 q4 bsA bs' w hr0_0 hc0_0 hr0_4 hc0_4 e1 e2 e3 e4 hc.1 hc.2 e5
    · cases h
end Go.Proofs.Ytcbpbnkoolpibaa.P
