/- impl.Clean: its contract. Condition: as_ the plain function says. -/
import Derived.Test.YtcbpbnkoolpibaaMClean2pa
import Derived.Test.YtcbpbnkoolpibaaMCleanxGlo
import Derived.Test.YtcbpbnkoolpibaaMClean2sa
import Derived.Test.YtcbpbnkoolpibaaMClean0c
set_option maxHeartbeats 8000000
set_option maxRecDepth 100000
set_option linter.unusedVariables false
set_option linter.unusedSimpArgs false
namespace Go.Proofs.Ytcbpbnkoolpibaa.P
open RowKit YtcbpbnkoolpibaaW.wA YtcbpbnkoolpibaaW.wB YtcbpbnkoolpibaaW.wC Gr Aux
def plainB (x : S57) : Bool := (x.f0 == 0 || x.f0 == 1) || x.f0 == 2
def cleanC : List S57 → List Bool → List S57 × List Bool
  | [], X => ([], X)
  | x :: xs, X => if plainB x = true ∧ gb (cleanC xs X).2 x.f1.toNat = false then cleanC xs X else (x :: (cleanC xs X).1, backL x (cleanC xs X).2)
def cleanBk (b : S47) (X : List Bool) : S47 := ⟨(cleanC b.f0 (jumpL b X)).1, b.f1, b.f2, b.f3, b.f4⟩
def cleanTo (bs : List S47) (R : List (List Bool)) : Nat → List S47
  | 0 => bs
  | i + 1 => (cleanTo bs R i).set i (cleanBk (bs.getD i z47) (row R i))
theorem cleanC_len : ∀ (code : List S57) (X : List Bool), (cleanC code X).2.length = X.length
  | [], X => rfl
  | x :: xs, X => by
    rw [cleanC]
    split
    · exact cleanC_len xs X
    · rw [backL_len]
      exact cleanC_len xs X
theorem cleanTo_len (bs : List S47) (R : List (List Bool)) : ∀ i, (cleanTo bs R i).length = bs.length
  | 0 => rfl
  | i + 1 => by rw [cleanTo, List.length_set, cleanTo_len bs R i]
theorem cleanTo_ge (bs : List S47) (R : List (List Bool)) : ∀ i j, i ≤ j → (cleanTo bs R i).getD j z47 = bs.getD j z47
  | 0, j, _ => rfl
  | i + 1, j, h => by
    rw [cleanTo, List.getD_eq_getElem?_getD, List.getElem?_set_ne (by omega), ← List.getD_eq_getElem?_getD]
    exact cleanTo_ge bs R i j (by omega)
def okR (R : List (List Bool)) (n S : Nat) : Bool := R.length == n && R.all fun X => X.length == S
theorem okR_shp {R : List (List Bool)} {n S : Nat} (h : okR R n S = true) : Shp n S R := by
  unfold okR at h
  rw [Bool.and_eq_true, beq_iff_eq, List.all_eq_true] at h
  refine ⟨h.1, fun i hi => ?_⟩
  have hi2 : i < R.length := by rw [h.1]; exact hi
  rw [List.getD_eq_getElem?_getD, List.getElem?_eq_getElem hi2]
  exact eq_of_beq (h.2 _ (List.getElem_mem hi2))
theorem shp_okR {R : List (List Bool)} {n S : Nat} (h : Shp n S R) : okR R n S = true := by
  unfold okR
  rw [Bool.and_eq_true, beq_iff_eq, List.all_eq_true]
  refine ⟨h.1, fun X hX => ?_⟩
  obtain ⟨i, hi, rfl⟩ := List.getElem_of_mem hX
  have h2 := h.2 i (by have := h.1; omega)
  rw [List.getD_eq_getElem?_getD, List.getElem?_eq_getElem hi] at h2
  exact beq_iff_eq.mpr h2
def impl_Clean.f (k : Nat) (zs : List Int) (p v s : Int) (bs : List S47) : Option (List Int × Int × Int × Int × List S47) :=
  (impl_copyGraph.f k zs p v s bs).bind fun g => (impl_isGraph.f k zs p v s bs).bind fun t => if t = true then (impl_liveOf.f k zs p v s bs).bind fun R => if Ok.okG zs p v s g.2.2.2.2 = true ∧ okR R g.2.2.2.2.length s.toNat = true then some (g.1, g.2.1, g.2.2.1, g.2.2.2.1, cleanTo g.2.2.2.2 R g.2.2.2.2.length) else none
    else some g
theorem put5c {w : World} {g : Nat} {t : TypeId} {a0 a1 a2 a3 a4 : Value} (h : w.heap[g]? = some (.cells #[a0, a1, a2, a3, a4] t (0, 0))) (v0 v1 v2 v3 v4 : Value) : (((((w.setCell ⟨g, 0, none⟩ v0).setCell ⟨g, 1, none⟩ v1).setCell ⟨g, 2, none⟩ v2).setCell ⟨g, 3, none⟩ v3).setCell ⟨g, 4, none⟩ v4).heap[g]? = some (.cells #[v0, v1, v2, v3, v4] t (0, 0)) :=
  blk_put (blk_put (blk_put (blk_put (blk_put h 0 v0 rfl) 1 v1 rfl) 2 v2 rfl) 3 v3 rfl) 4 v4 rfl
def InvA (w : World) (gr go gA cA gL cL : Nat) (c2 co : Array Value) (vz : Value) (zs : List Int) (bs : List S47) (S : Nat) (R : List (List Bool)) (x : Int) (gg : Nat) (wr : World) : Prop :=
  ∃ (i : Nat) (LV : List (List Bool)), (i : Int) = x ∧ i ≤ bs.length ∧ bs.length - i ≤ gg ∧ Shp bs.length S LV ∧ (∀ j, i ≤ j → row LV j = row R j) ∧ CL w gr go gA cA bs.length gL cL c2 co vz zs (cleanTo bs R i) LV wr
def InvB (w : World) (gr go gA cA gL cL n : Nat) (c2 co : Array Value) (vz : Value) (zs : List Int) (i : Nat) (bk : S47) (BS : List S47) (LV : List (List Bool)) (X : List Bool) (vS : Value) (x : Int) (gg : Nat) (wr : World) : Prop :=
  ∃ m : Nat, (m : Int) - 1 = x ∧ m ≤ bk.f0.length ∧ m ≤ gg ∧ wr.cell? ⟨gL, i, none⟩ = some vS ∧ CL w gr go gA cA n gL cL c2 co vz zs (BS.set i ⟨bk.f0.take m ++ (cleanC (bk.f0.drop m) X).1, bk.f1, bk.f2, bk.f3, bk.f4⟩) (LV.set i (cleanC (bk.f0.drop m) X).2) wr
theorem clean_no (k : Nat) (A0_0 : Option Addr) (c0_0 : Nat) (l0_0 : List Int) (a0_1 : Int) (a0_2 : Int) (a0_3 : Int) (A0_4 : Option Addr) (c0_4 : Nat) (l0_4 : List S47) (r1 : List Int) (r2 : Int) (r3 : Int) (r4 : Int) (r5 : List S47) (w : World) (hr0_0 : Kd.C (Kd.int .i64) w A0_0 l0_0.length l0_0) (hc0_0 : l0_0.length ≤ c0_0) (hr0_4 : Kd.C k47 w A0_4 l0_4.length l0_4) (hc0_4 : l0_4.length ≤ c0_4)
    (e1 : impl_isGraph.f k l0_0 a0_1 a0_2 a0_3 l0_4 = some false) (e2 : impl_copyGraph.f k l0_0 a0_1 a0_2 a0_3 l0_4 = some (r1, r2, r3, r4, r5)) :
    Calls Try.prog 20 #[.agg #[.slice A0_0 l0_0.length c0_0, .int .i64 a0_1, .int .i64 a0_2, .int .i64 a0_3, .slice A0_4 l0_4.length c0_4]] w fun e w' => ∃ v0_ v4_ : Value, e = .returned (.agg #[v0_, .int .i64 r2, .int .i64 r3, .int .i64 r4, v4_]) ∧ Kd.R (Kd.int .i64) 3 w' w.heap.size (fun _ => True) v0_ r1 ∧ Kd.S k47 47 w' w.heap.size (fun _ => True) v4_ r5 ∧ Below w.heap.size w w' := by
  have huIG := Try.underlying29
  have HR0 := Zs0.mk hr0_0
  have HR4 := Zs0.mk hr0_4
  have HE1 := Zs0.mk e1
  have HE2 := Zs0.mk e2
  clear hr0_0 hr0_4 e1 e2
  go_enter Try.func20, Try.ntmps20
  go_wp2_with fail
  go_at_call 34
  refine (impl_copyGraph.calls k _ _ l0_0 a0_1 a0_2 a0_3 _ _ l0_4 _ _ _ _ _ _ (Kd.cA1 (Kd.cA1 HR0.out _) _) hc0_0 (Kd.cA1 (Kd.cA1 HR4.out _) _) hc0_4 HE2.out).mono ?_
  rintro e w1 ⟨v0, v4, rfl, hz, hs, hb1⟩
  obtain ⟨Az, cz, rfl⟩ := Kd.R_slice hz
  obtain ⟨As, cs, rfl⟩ := Kd.S_slice hs
  have hb1g := bkB (g := w.heap.size) (bkA (heap_alloc_new w _) _) hb1
  have hb2g := bkB (g := w.heap.size + 1) (show _ = some (.cells #[.slice none 0 0, .int .i64 0, .int .i64 0, .int .i64 0, .slice none 0 0] 29 (0, 0)) from by have h := heap_alloc_new (w.alloc (.cells #[.slice A0_0 l0_0.length c0_0, .int .i64 a0_1, .int .i64 a0_2, .int .i64 a0_3, .slice A0_4 l0_4.length c0_4] 29)) (.cells #[.slice none 0 0, .int .i64 0, .int .i64 0, .int .i64 0, .slice none 0 0] 29); simpa using h) hb1
  have HB1 := Zs0.mk (show Below w.heap.size w w1 from blT (blA (blA (Below.refl _ _) _) _) hb1)
  have hbs := (blA (blA (Below.refl w.heap.size w) (.cells #[.slice A0_0 l0_0.length c0_0, .int .i64 a0_1, .int .i64 a0_2, .int .i64 a0_3, .slice A0_4 l0_4.length c0_4] 29)) (.cells #[.slice none 0 0, .int .i64 0, .int .i64 0, .int .i64 0, .slice none 0 0] 29)).size
  have HZ := Zs0.mk (Kd.R_types (Kd.R_lower hz hbs) hb2g (by decide))
  have HS := Zs0.mk (Kd.S_types (Kd.S_lower hs hbs) hb2g (by decide))
  have HG1 := Zs0.mk hb1g
  have HG2 := Zs0.mk hb2g
  have nk := blk_lt hb1g
  have nk2 := blk_lt hb2g
  obtain ⟨x0, x1, x2, x3, x4, y0, y1, y2, y3, y4⟩ := bx5 hb1g
  obtain ⟨u0, u1, u2, u3, u4, z0, z1, z2, z3, z4⟩ := bx5 hb2g
  clear hb1 hb1g hb2g hz hs hbs
  go_wp2_with fail
  go_at_call 33
  refine (impl_isGraph.calls k _ _ l0_0 a0_1 a0_2 a0_3 _ _ l0_4 _ _ (Kd.cA1 (Kd.cB1 HR0.out HB1.out) _) hc0_0 (Kd.cA1 (Kd.cB1 HR4.out HB1.out) _) hc0_4 HE1.out).mono ?_
  rintro e w2 ⟨rfl, hb2⟩
  have hb3g := bkB (heap_alloc_new w1 (.cells #[.slice Az r1.length cz, .int .i64 r2, .int .i64 r3, .int .i64 r4, .slice As r5.length cs] 29)) hb2
  have hb2g := bkB (bkA HG2.out _) hb2
  have HB2 := Zs0.mk (blT (blA HB1.out _) hb2)
  have HZ := Zs0.mk (Kd.R_below (Kd.rA1 HZ.out _) hb2)
  have HS := Zs0.mk (Kd.S_below (Kd.S_alloc HS.out _) hb2)
  clear x0 x1 x2 x3 x4 y0 y1 y2 y3 y4 u0 u1 u2 u3 u4 z0 z1 z2 z3 z4
  obtain ⟨x0, x1, x2, x3, x4, y0, y1, y2, y3, y4⟩ := bx5 hb3g
  obtain ⟨u0, u1, u2, u3, u4, z0, z1, z2, z3, z4⟩ := bx5 hb2g
  have HG3 := Zs0.mk hb2g
  clear hb2 hb3g hb2g nk nk2
  go_wp2
  refine bodyPost_ret (results_cell_row rfl _ _ (w.heap.size + 1) 29 #[.slice Az r1.length cz, .int .i64 r2, .int .i64 r3, .int .i64 r4, .slice As r5.length cs] (0, 0) _ rfl (put5c HG3.out _ _ _ _ _) Try.underlying29 rfl (by kernel_rfl)) rfl ?_
  have hk := ((((((Kept.refl w2 (fun q => q = w.heap.size + 1)).setCell (p := ⟨w.heap.size + 1, 0, none⟩) (.inl rfl) (.slice Az r1.length cz)).setCell (p := ⟨w.heap.size + 1, 1, none⟩) (.inl rfl) (.int .i64 r2)).setCell (p := ⟨w.heap.size + 1, 2, none⟩) (.inl rfl) (.int .i64 r3)).setCell (p := ⟨w.heap.size + 1, 3, none⟩) (.inl rfl) (.int .i64 r4)).setCell (p := ⟨w.heap.size + 1, 4, none⟩) (.inl rfl) (.slice As r5.length cs))
  refine ⟨.slice Az r1.length cz, .slice As r5.length cs, rfl, Kd.R_mono (Kd.R_kept HZ.out hk fun q h1 h2 => h1.2 h2) fun _ _ => trivial, Kd.S_mono (Kd.S_kept HS.out hk fun q h1 h2 => h1.2 h2) fun _ _ => trivial, ?_⟩
  exact blS (blS (blS (blS (blS HB2.out (Nat.le_succ _)) (Nat.le_succ _)) (Nat.le_succ _)) (Nat.le_succ _)) (Nat.le_succ _)
theorem set_getD (bs : List S47) (i : Nat) (b : S47) (h : bs.getD i z47 = b) : bs.set i b = bs := by
  refine List.ext_getElem (by simp) fun j h1 h2 => ?_
  rw [List.getElem_set]
  split
  · rename_i e
    subst e
    rw [← h, List.getD_eq_getElem?_getD, List.getElem?_eq_getElem h2]
    rfl
  · rfl
theorem getD_set (bs : List S47) (i : Nat) (b : S47) (h : i < bs.length) : (bs.set i b).getD i z47 = b := by
  rw [List.getD_eq_getElem?_getD, List.getElem?_set_self h]
  rfl
theorem eta5 (b : S47) (c : List S57) (h : c = b.f0) : (⟨c, b.f1, b.f2, b.f3, b.f4⟩ : S47) = b := by subst h; rfl
theorem cur_cons (code ys : List S57) (kq : Nat) (h : kq < code.length) : code.take (kq + 1) ++ ys = code.take kq ++ (code[kq] :: ys) := by
  rw [List.take_succ_eq_append_getElem h, List.append_assoc, List.singleton_append]
theorem cur_erase (code ys : List S57) (kq : Nat) (h : kq < code.length) : (code.take (kq + 1) ++ ys).eraseIdx kq = code.take kq ++ ys := by
  rw [cur_cons code ys kq h, List.eraseIdx_append_of_length_le (by rw [List.length_take]; omega), List.length_take, Nat.min_eq_left (by omega), Nat.sub_self]
  rfl
theorem cur_at (code ys : List S57) (kq : Nat) (h : kq < code.length) : r57 (code.take (kq + 1) ++ ys) (kq : Int) = code[kq] := by
  rw [rdIIt _ kq (by rw [List.length_append, List.length_take]; omega), List.getElem_append_left (by rw [List.length_take]; omega), List.getElem_take]
theorem invB_del {w w1 : World} {gr go gA cA gL cL n i kq gg : Nat} {c2 co : Array Value} {vz vS : Value} {zs : List Int} {bk : S47} {BS : List S47} {LV : List (List Bool)} {X : List Bool} {x : Int} (hk : (kq : Int) = x ∧ kq < bk.f0.length ∧ kq + 1 ≤ gg) (hl : bk.f0.length ≤ 1000) (hi : i < BS.length) (hx : plainB bk.f0[kq] = true) (hg : gb (cleanC (bk.f0.drop (kq + 1)) X).2 bk.f0[kq].f1.toNat = false) (hL : w1.cell? ⟨gL, i, none⟩ = some vS)
    (hC : CL w gr go gA cA n gL cL c2 co vz zs ((BS.set i ⟨bk.f0.take (kq + 1) ++ (cleanC (bk.f0.drop (kq + 1)) X).1, bk.f1, bk.f2, bk.f3, bk.f4⟩).set i ⟨(bk.f0.take (kq + 1) ++ (cleanC (bk.f0.drop (kq + 1)) X).1).eraseIdx x.toNat, bk.f1, bk.f2, bk.f3, bk.f4⟩) (LV.set i (cleanC (bk.f0.drop (kq + 1)) X).2) w1) :
    InvB w gr go gA cA gL cL n c2 co vz zs i bk BS LV X vS (wrap64 (x - 1)) kq w1 := by
  have e : cleanC (bk.f0.drop kq) X = cleanC (bk.f0.drop (kq + 1)) X := by
    rw [List.drop_eq_getElem_cons hk.2.1, cleanC, if_pos ⟨hx, hg⟩]
  rw [List.set_set, show x.toNat = kq by omega, cur_erase _ _ _ hk.2.1] at hC
  refine ⟨kq, ?_, Nat.le_of_lt hk.2.1, Nat.le_refl _, hL, by rw [e]; exact hC⟩
  rw [wrap_ok (by omega) (by omega)]
  omega
theorem invB_back {w w1 : World} {gr go gA cA gL cL n i kq gg : Nat} {c2 co : Array Value} {vz vS : Value} {zs : List Int} {bk : S47} {BS : List S47} {LV : List (List Bool)} {X : List Bool} {x : Int} (hk : (kq : Int) = x ∧ kq < bk.f0.length ∧ kq + 1 ≤ gg) (hl : bk.f0.length ≤ 1000) (hx : ¬ (plainB bk.f0[kq] = true ∧ gb (cleanC (bk.f0.drop (kq + 1)) X).2 bk.f0[kq].f1.toNat = false)) (hL : w1.cell? ⟨gL, i, none⟩ = some vS)
    (hC : CL w gr go gA cA n gL cL c2 co vz zs (BS.set i ⟨bk.f0.take (kq + 1) ++ (cleanC (bk.f0.drop (kq + 1)) X).1, bk.f1, bk.f2, bk.f3, bk.f4⟩) ((LV.set i (cleanC (bk.f0.drop (kq + 1)) X).2).set i (backL bk.f0[kq] (cleanC (bk.f0.drop (kq + 1)) X).2)) w1) :
    InvB w gr go gA cA gL cL n c2 co vz zs i bk BS LV X vS (wrap64 (x - 1)) kq w1 := by
  have e : cleanC (bk.f0.drop kq) X = (bk.f0[kq] :: (cleanC (bk.f0.drop (kq + 1)) X).1, backL bk.f0[kq] (cleanC (bk.f0.drop (kq + 1)) X).2) := by
    rw [List.drop_eq_getElem_cons hk.2.1, cleanC, if_neg hx]
  rw [List.set_set, cur_cons _ _ _ hk.2.1] at hC
  refine ⟨kq, ?_, Nat.le_of_lt hk.2.1, Nat.le_refl _, hL, by rw [e]; exact hC⟩
  rw [wrap_ok (by omega) (by omega)]
  omega
theorem clean_yes (k : Nat) (A0_0 : Option Addr) (c0_0 : Nat) (l0_0 : List Int) (a0_1 : Int) (a0_2 : Int) (a0_3 : Int) (A0_4 : Option Addr) (c0_4 : Nat) (l0_4 : List S47) (r1 : List Int) (r2 : Int) (r3 : Int) (r4 : Int) (r5 : List S47) (RR : List (List Bool)) (w : World) (hr0_0 : Kd.C (Kd.int .i64) w A0_0 l0_0.length l0_0) (hc0_0 : l0_0.length ≤ c0_0) (hr0_4 : Kd.C k47 w A0_4 l0_4.length l0_4) (hc0_4 : l0_4.length ≤ c0_4)
    (e1 : impl_isGraph.f k l0_0 a0_1 a0_2 a0_3 l0_4 = some true) (e2 : impl_copyGraph.f k l0_0 a0_1 a0_2 a0_3 l0_4 = some (r1, r2, r3, r4, r5)) (e3 : impl_liveOf.f k l0_0 a0_1 a0_2 a0_3 l0_4 = some RR) (hs : 0 ≤ a0_3 ∧ a0_3 ≤ 1000) (hn : 0 < r5.length ∧ r5.length ≤ 300) (hblk : ∀ b ∈ r5, BlkOk a0_3 r5.length b) (hSh : Shp r5.length a0_3.toNat RR) :
    Calls Try.prog 20 #[.agg #[.slice A0_0 l0_0.length c0_0, .int .i64 a0_1, .int .i64 a0_2, .int .i64 a0_3, .slice A0_4 l0_4.length c0_4]] w fun e w' => ∃ v0_ v4_ : Value, e = .returned (.agg #[v0_, .int .i64 r2, .int .i64 r3, .int .i64 r4, v4_]) ∧ Kd.R (Kd.int .i64) 3 w' w.heap.size (fun _ => True) v0_ r1 ∧ Kd.S k47 47 w' w.heap.size (fun _ => True) v4_ (cleanTo r5 RR r5.length) ∧ Below w.heap.size w w' := by
  have huIG := Try.underlying29
  have huIB := Try.underlying47
  have huII := Try.underlying57
  have HR0 := Zs0.mk hr0_0
  have HR4 := Zs0.mk hr0_4
  have HE1 := Zs0.mk e1
  have HE2 := Zs0.mk e2
  have HE3 := Zs0.mk e3
  have HSS := Zs0.mk hs
  have HN := Zs0.mk hn
  have HBK := Zs0.mk hblk
  have HSH := Zs0.mk hSh
  clear hr0_0 hr0_4 e1 e2 e3 hs hn hblk hSh
  go_enter Try.func20, Try.ntmps20
  go_wp2_with fail
  go_at_call 34
  refine (impl_copyGraph.calls k _ _ l0_0 a0_1 a0_2 a0_3 _ _ l0_4 _ _ _ _ _ _ (Kd.cA1 (Kd.cA1 HR0.out _) _) hc0_0 (Kd.cA1 (Kd.cA1 HR4.out _) _) hc0_4 HE2.out).mono ?_
  rintro e w1 ⟨v0, v4, rfl, hz, hs, hb1⟩
  obtain ⟨Az, cz, rfl⟩ := Kd.R_slice hz
  obtain ⟨As, cs, rfl⟩ := Kd.S_slice hs
  obtain ⟨gA, eA⟩ : ∃ gA, As = some ⟨gA, 0, none⟩ := by
    obtain ⟨gA, cA, e, _⟩ := Kd.R_form (Kd.S_R hs) HN.out.1
    injection e with e
    exact ⟨gA, e⟩
  subst eA
  have hb1g := bkB (g := w.heap.size) (bkA (heap_alloc_new w _) _) hb1
  have hb2g := bkB (g := w.heap.size + 1) (show _ = some (.cells #[.slice none 0 0, .int .i64 0, .int .i64 0, .int .i64 0, .slice none 0 0] 29 (0, 0)) from by have h := heap_alloc_new (w.alloc (.cells #[.slice A0_0 l0_0.length c0_0, .int .i64 a0_1, .int .i64 a0_2, .int .i64 a0_3, .slice A0_4 l0_4.length c0_4] 29)) (.cells #[.slice none 0 0, .int .i64 0, .int .i64 0, .int .i64 0, .slice none 0 0] 29); simpa using h) hb1
  have HB1 := Zs0.mk (show Below w.heap.size w w1 from blT (blA (blA (Below.refl _ _) _) _) hb1)
  have hbs := (blA (blA (Below.refl w.heap.size w) (.cells #[.slice A0_0 l0_0.length c0_0, .int .i64 a0_1, .int .i64 a0_2, .int .i64 a0_3, .slice A0_4 l0_4.length c0_4] 29)) (.cells #[.slice none 0 0, .int .i64 0, .int .i64 0, .int .i64 0, .slice none 0 0] 29)).size
  have HZ := Zs0.mk (Kd.R_lower hz hbs)
  have HS := Zs0.mk (Kd.S_lower hs hbs)
  have HG1 := Zs0.mk hb1g
  have HG2 := Zs0.mk hb2g
  have nk := blk_lt hb1g
  have nk2 := blk_lt hb2g
  obtain ⟨x0, x1, x2, x3, x4, y0, y1, y2, y3, y4⟩ := bx5 hb1g
  obtain ⟨u0, u1, u2, u3, u4, z0, z1, z2, z3, z4⟩ := bx5 hb2g
  clear hb1 hb1g hb2g hz hs hbs
  go_wp2_with fail
  go_at_call 33
  refine (impl_isGraph.calls k _ _ l0_0 a0_1 a0_2 a0_3 _ _ l0_4 _ _ (Kd.cA1 (Kd.cB1 HR0.out HB1.out) _) hc0_0 (Kd.cA1 (Kd.cB1 HR4.out HB1.out) _) hc0_4 HE1.out).mono ?_
  rintro e w2 ⟨rfl, hb2⟩
  have hb3g := bkB (heap_alloc_new w1 (.cells #[.slice Az r1.length cz, .int .i64 r2, .int .i64 r3, .int .i64 r4, .slice (some ⟨gA, 0, none⟩) r5.length cs] 29)) hb2
  have hb2g := bkB (bkA HG2.out _) hb2
  have HB2 := Zs0.mk (blT (blA HB1.out _) hb2)
  have HZ := Zs0.mk (Kd.R_below (Kd.rA1 HZ.out _) hb2)
  have HS := Zs0.mk (Kd.S_below (Kd.S_alloc HS.out _) hb2)
  clear x0 x1 x2 x3 x4 y0 y1 y2 y3 y4 u0 u1 u2 u3 u4 z0 z1 z2 z3 z4
  obtain ⟨x0, x1, x2, x3, x4, y0, y1, y2, y3, y4⟩ := bx5 hb3g
  obtain ⟨u0, u1, u2, u3, u4, z0, z1, z2, z3, z4⟩ := bx5 hb2g
  have hb1g := bkB (bkA HG1.out _) hb2
  have HG1 := Zs0.mk hb1g
  have HG2 := Zs0.mk hb2g
  have HG3 := Zs0.mk hb3g
  obtain ⟨s0, s1, s2, s3, s4, t0, t1, t2, t3, t4⟩ := bx5 hb1g
  clear hb2 hb3g hb2g hb1g nk nk2
  go_wp2_with fail
  go_at_call 42
  refine (impl_liveOf.calls k _ _ l0_0 a0_1 a0_2 a0_3 _ _ l0_4 _ _ (Kd.cB1 HR0.out HB2.out) hc0_0 (Kd.cB1 HR4.out HB2.out) hc0_4 HE3.out).mono ?_
  rintro e w3 ⟨vL, rfl, hl, hb3⟩
  obtain ⟨AL, cL, rfl⟩ := Kd.S_slice hl
  obtain ⟨gL, eL⟩ : ∃ gL, AL = some ⟨gL, 0, none⟩ := by
    obtain ⟨gA, cA, e, _⟩ := Kd.R_form (Kd.S_R hl) (by rw [HSH.out.1]; exact HN.out.1)
    injection e with e
    exact ⟨gA, e⟩
  subst eL
  have HCL := Zs0.mk (show CL w (w.heap.size + 1) w1.heap.size gA cs r5.length gL cL _ _ _ r1 r5 RR w3 from ⟨Kd.R_below HZ.out hb3, Kd.S_below HS.out hb3, by have := Kd.S_lower hl HB2.out.size; rw [HSH.out.1] at this; exact this, bkB HG2.out hb3, bkB HG3.out hb3, blT HB2.out hb3⟩)
  rw [HSH.out.1]
  have HGO := Zs0.mk (show w.heap.size ≤ w1.heap.size from HB1.out.size)
  clear x0 x1 x2 x3 x4 y0 y1 y2 y3 y4 u0 u1 u2 u3 u4 z0 z1 z2 z3 z4 s0 s1 s2 s3 s4 t0 t1 t2 t3 t4 hl hb3 HG1 HG2 HG3 HZ HS HB1 HB2
  generalize w1.heap.size = go at HCL HGO ⊢
  obtain ⟨x0, x1, x2, x3, x4, y0, y1, y2, y3, y4⟩ := bx5 HCL.out.o
  go_wp2
  go_loopg [22] r5.length (fun gg s22 wr => ∃ x : Int, s22 = .int .i64 x ∧ Zs0 (InvA w (w.heap.size + 1) go gA cs gL cL #[.slice none 0 0, .int .i64 0, .int .i64 0, .int .i64 0, .slice none 0 0] #[.slice Az r1.length cz, .int .i64 r2, .int .i64 r3, .int .i64 r4, .slice (some ⟨gA, 0, none⟩) r5.length cs] (.slice Az r1.length cz) r1 r5 a0_3.toNat RR x gg wr))
  case atStart => exact ⟨0, rfl, ⟨⟨0, RR, rfl, Nat.zero_le _, by omega, HSH.out, fun _ _ => rfl, HCL.out⟩⟩⟩
  case round =>
    clear HCL x0 x1 x2 x3 x4 y0 y1 y2 y3 y4
    obtain ⟨x22, rfl, HI⟩ := hrel
    by_cases hlt : x22 < (r5.length : Int)
    · have c22b0 : decide (x22 < (r5.length : Int)) = true := decide_eq_true hlt
      obtain ⟨i, LV, hi, hi1, hi2, hLV, hrw, hC⟩ := HI.out
      have hin : i < r5.length := by omega
      have hp : 0 ≤ x22 := by omega
      have hei : x22.toNat = i := by omega
      obtain ⟨bk, hbk⟩ : ∃ bk, bk = r5.getD i z47 := ⟨_, rfl⟩
      have hge : (cleanTo r5 RR i).getD i z47 = bk := by rw [hbk]; exact cleanTo_ge r5 RR i i (Nat.le_refl _)
      have hok : BlkOk a0_3 r5.length bk := by
        rw [hbk, List.getD_eq_getElem?_getD, List.getElem?_eq_getElem hin]
        exact HBK.out _ (List.getElem_mem hin)
      obtain ⟨Ac, cc, b0, b1, b2, bf, bC⟩ := hC.blk i hin
      rw [hge] at b0 b1 b2
      obtain ⟨Al, cl, l0, lf, ll, lC⟩ := rr_get hC.l i hin
      obtain ⟨X0, hX0⟩ : ∃ X0, X0 = row LV i := ⟨_, rfl⟩
      rw [← hX0] at l0
      have hXl : X0.length = a0_3.toNat := by rw [hX0]; exact hLV.2 i hin
      have HL0 := Zs0.mk l0
      have HC := Zs0.mk hC
      have HOK := Zs0.mk hok
      have HBB := Zs0.mk hbk
      have HGE := Zs0.mk hge
      have HX0 := Zs0.mk hX0
      have HXL := Zs0.mk hXl
      have HLV := Zs0.mk hLV
      have HRW := Zs0.mk hrw
      have HII := Zs0.mk (show (i : Int) = x22 ∧ i < r5.length ∧ r5.length - i ≤ gk ∧ x22.toNat = i from ⟨hi, hin, hi2, hei⟩)
      rw [← hei] at b0 b1 b2 l0
      have p22 := eq_true hp
      have q22 := eq_true hlt
      obtain ⟨x0, x1, x2, x3, x4, y0, y1, y2, y3, y4⟩ := bx5 hC.o
      clear HI hi hi1 hi2 hLV hrw hC hin hp hei hbk hge hok bf bC lf ll lC hX0 hXl hlt
      go_upto_if 37 with fail
      go_cut [] (fun wc => Zs0 (CL w (w.heap.size + 1) go gA cs r5.length gL cL #[.slice none 0 0, .int .i64 0, .int .i64 0, .int .i64 0, .slice none 0 0] #[.slice Az r1.length cz, .int .i64 r2, .int .i64 r3, .int .i64 r4, .slice (some ⟨gA, 0, none⟩) r5.length cs] (.slice Az r1.length cz) r1 (cleanTo r5 RR i) (LV.set i (jumpL bk X0)) wc ∧ wc.cell? ⟨gL, i, none⟩ = some (.slice Al X0.length cl)))
      case first =>
        by_cases hj0 : bk.f1 = 0
        · have c37 : (bk.f1 != 0) = false := bne_eq_false_iff_eq.mpr hj0
          have HJP := Zs0.mk (show LV.set i (jumpL bk X0) = LV by unfold jumpL; rw [if_pos hj0, HX0.out]; exact set_row)
          clear hj0
          go_wp2
          go_meet
          case rel => rw [HJP.out]; exact ⟨HC.out, HL0.out⟩
        · have c37 : (bk.f1 != 0) = true := bne_iff_ne.mpr hj0
          obtain ⟨f0, f1⟩ := HOK.out.2.2.1 hj0
          have HJP := Zs0.mk (show jumpL bk X0 = X0.set bk.f2.toNat true by unfold jumpL; rw [if_neg hj0])
          obtain ⟨q, rfl, hq1, hq2, hq3, hM⟩ := HC.out.put i HII.out.2.1 HL0.out bk.f2.toNat (by rw [← HX0.out, HXL.out]; omega) true
          rw [← HX0.out, ← HJP.out] at hM
          have M1 := Zs0.mk hM
          have M2 := Zs0.mk (show (wr.setCell ⟨q, bk.f2.toNat, none⟩ (.bool true)).cell? ⟨gL, i, none⟩ = some (.slice (some ⟨q, 0, none⟩) X0.length cl) from (cell_far (fun e => hq3 e.symm) _).trans HL0.out)
          have pf := eq_true f0
          have qf := eq_true (show bk.f2 < (X0.length : Int) by rw [HXL.out]; omega)
          clear hj0 f0 f1 hM hq3
          go_wp2
          go_meet
          case rel => exact ⟨M1.out, M2.out⟩
      case rest =>
        have HC1 := Zs0.mk hcut.out.1
        have HL1 := Zs0.mk hcut.out.2
        obtain ⟨Ad, cd, d0, d1, d2, df, dC⟩ := hcut.out.1.blk i HII.out.2.1
        rw [HGE.out] at d0
        have he := HII.out.2.2.2
        rw [← he] at d0
        obtain ⟨x0, x1, x2, x3, x4, y0, y1, y2, y3, y4⟩ := bx5 hcut.out.1.o
        clear hcut d1 d2 df dC he HC HL0
        go_wp2
        go_loopg [8] bk.f0.length (fun gg s8 wr => ∃ x : Int, s8 = .int .i64 x ∧ Zs0 (InvB w (w.heap.size + 1) go gA cs gL cL r5.length #[.slice none 0 0, .int .i64 0, .int .i64 0, .int .i64 0, .slice none 0 0] #[.slice Az r1.length cz, .int .i64 r2, .int .i64 r3, .int .i64 r4, .slice (some ⟨gA, 0, none⟩) r5.length cs] (.slice Az r1.length cz) r1 i bk (cleanTo r5 RR i) LV (jumpL bk X0) (.slice Al X0.length cl) x gg wr))
        case atStart =>
          refine ⟨_, rfl, ⟨⟨bk.f0.length, (by have := HOK.out.2.1; rw [wrap_ok (by omega) (by omega)]), Nat.le_refl _, Nat.le_refl _, HL1.out, ?_⟩⟩⟩
          rw [List.drop_length, List.take_length]
          have e1 : (cleanTo r5 RR i).set i ⟨bk.f0 ++ (cleanC [] (jumpL bk X0)).1, bk.f1, bk.f2, bk.f3, bk.f4⟩ = cleanTo r5 RR i := set_getD _ _ _ (HGE.out.trans (eta5 bk _ (List.append_nil _)).symm)
          rw [e1]
          exact HC1.out
        case round =>
          clear HC1 HL1 d0 x0 x1 x2 x3 x4 y0 y1 y2 y3 y4
          obtain ⟨x8, rfl, HI⟩ := hrel
          by_cases hlt : 0 ≤ x8
          · have c8b0 : decide (0 ≤ x8) = true := decide_eq_true hlt
            obtain ⟨m, hm, hm1, hm2, hL, hC⟩ := HI.out
            obtain ⟨kq, rfl⟩ : ∃ kq, m = kq + 1 := ⟨m - 1, by omega⟩
            have hin : i < r5.length := HII.out.2.1
            have hkl : kq < bk.f0.length := by omega
            have hkx : x8 = (kq : Int) := by omega
            obtain ⟨ys, hys⟩ : ∃ ys, ys = (cleanC (bk.f0.drop (kq + 1)) (jumpL bk X0)).1 := ⟨_, rfl⟩
            obtain ⟨Y, hY⟩ : ∃ Y, Y = (cleanC (bk.f0.drop (kq + 1)) (jumpL bk X0)).2 := ⟨_, rfl⟩
            obtain ⟨cur, hcur⟩ : ∃ cur, cur = bk.f0.take (kq + 1) ++ ys := ⟨_, rfl⟩
            rw [← hys, ← hY, ← hcur] at hC
            have hcl : cur.length = kq + 1 + ys.length := by rw [hcur, List.length_append, List.length_take]; omega
            obtain ⟨Ac, cc, b0, _, _, bf, bC⟩ := hC.blk i hin
            have hgs : ((cleanTo r5 RR i).set i ⟨cur, bk.f1, bk.f2, bk.f3, bk.f4⟩).getD i z47 = ⟨cur, bk.f1, bk.f2, bk.f3, bk.f4⟩ := getD_set _ _ _ (by rw [cleanTo_len]; exact hin)
            rw [hgs] at b0 bC
            dsimp only at b0 bC
            have hx8 : x8 < (cur.length : Int) := by omega
            obtain ⟨ad, ea, e0, e1, e2, e3, e4, e5, e6⟩ := at_T57 bC x8 hlt hx8
            subst ea
            have hxk : r57 cur x8 = bk.f0[kq] := by rw [hkx, hcur]; exact cur_at _ _ _ hkl
            rw [hxk] at e0 e1 e2 e3 e4 e5 e6
            obtain ⟨xk, hxk2⟩ : ∃ xk, xk = bk.f0[kq] := ⟨_, rfl⟩
            rw [← hxk2] at e0 e1 e2 e3 e4 e5 e6
            have hstep : StepOk a0_3 xk := by rw [hxk2]; exact HOK.out.1 _ (List.getElem_mem _)
            have hYl : Y.length = X0.length := by rw [hY, cleanC_len, jumpL_len]
            have hrow : row (LV.set i Y) i = Y := by rw [row_set, if_pos ⟨rfl, by rw [HLV.out.1]; exact hin⟩]
            obtain ⟨Al2, cl2, l0, lf, ll, lC⟩ := rr_get hC.l i hin
            rw [hrow, hL] at l0
            rw [hrow] at lC
            obtain ⟨rfl, rfl⟩ : Al = Al2 ∧ cl = cl2 := by
              injection l0 with l0
              injection l0 with h1 _ h2
              exact ⟨h1, h2⟩
            have HC := Zs0.mk hC
            have HL := Zs0.mk hL
            have HB0 := Zs0.mk b0
            have HK := Zs0.mk (show (kq : Int) = x8 ∧ kq < bk.f0.length ∧ kq + 1 ≤ gk from ⟨hkx.symm, hkl, hm2⟩)
            have HCU := Zs0.mk hcur
            have HYS := Zs0.mk hys
            have HY := Zs0.mk hY
            have HYL := Zs0.mk hYl
            have HXK := Zs0.mk hxk2
            have HROW := Zs0.mk hrow
            have HGS := Zs0.mk hgs
            have HX8 := Zs0.mk (show 0 ≤ x8 ∧ x8 < (cur.length : Int) ∧ x8 ≤ 1000 from ⟨hlt, hx8, by have := HOK.out.2.1; omega⟩)
            have HST := Zs0.mk hstep
            have HLC := Zs0.mk lC
            have he := HII.out.2.2.2
            have b1 := b0
            rw [← he] at b1
            have p8 := eq_true hlt
            have q8 := eq_true hx8
            clear HI hm hm1 hm2 hL hC hkx hys hY hcur hcl b0 bf bC hgs hx8 hxk hxk2 hstep hYl hrow l0 lf ll lC he hlt hin
            by_cases hop : xk.f0 = 0
            · have c0 : (xk.f0 == 0) = true := beq_iff_eq.mpr hop
              have HPL := Zs0.mk (show plainB xk = true by unfold plainB; rw [c0]; rfl)
              obtain ⟨D0, D1⟩ := HST.out.2 (by rw [hop]; decide) (by rw [hop]; decide)
              have hDl : xk.f1 < (Y.length : Int) := by rw [HYL.out, HXL.out]; have := HSS.out; omega
              obtain ⟨al, eal, hv⟩ := Kd.at_bool HLC.out xk.f1 D0 hDl
              subst eal
              have hDl2 : xk.f1 < (X0.length : Int) := by rw [← HYL.out]; exact hDl
              have hrg : rdOf false Y xk.f1 = gb Y xk.f1.toNat := rfl
              rw [hrg] at hv
              have pD := eq_true D0
              have qD := eq_true hDl2
              obtain ⟨gbv, hgb⟩ : ∃ b, b = gb Y xk.f1.toNat := ⟨_, rfl⟩
              rw [← hgb] at hv
              have hv2 := pw_cell_below (blA (Below.refl _ _) (.cells #[.int .i64 xk.f0, .int .i64 xk.f1, .int .i64 xk.f2, .int .i64 xk.f3, .int .i64 xk.f4, .int .i64 xk.f5, .string xk.f6] 57)) hv
              have HGB := Zs0.mk hgb.symm
              clear D0 D1 hDl hDl2 hrg hgb hop
              cases gbv with
              | true =>
                obtain ⟨hmr, P, hR, hpost⟩ := (HC.out.below (blA (Below.refl _ _) (.cells #[.int .i64 xk.f0, .int .i64 xk.f1, .int .i64 xk.f2, .int .i64 xk.f3, .int .i64 xk.f4, .int .i64 xk.f5, .string xk.f6] 57))).back i HII.out.2.1 (pw_cell_below (blA (Below.refl _ _) _) HL.out)
                rw [HROW.out] at hR
                obtain ⟨k2, hk2⟩ := (back_ev HST.out Y (by rw [HYL.out, HXL.out]; have := HSS.out; omega)).rounds
                have HPO := Zs0.mk hpost
                have HR1 := Zs0.mk hR
                have HK2 := Zs0.mk hk2
                clear hmr hR hpost hk2
                go_wp2_with fail
                go_at_call 47
                refine (impl_back.calls k2 P _ _ _ _ _ _ _ _ _ _ w _ (HC.out.below (blA (Below.refl _ _) _)).bel HR1.out HK2.out).mono ?_
                rintro e w1 ⟨rfl, hR1, hB1, hK1⟩
                obtain ⟨hCC, hLL⟩ := HPO.out w1 _ hR1 hB1 hK1
                have HCC := Zs0.mk hCC
                have HLL := Zs0.mk hLL
                clear hR1 hB1 hK1 hCC hLL HPO HR1 HK2
                go_wp2
                go_roundg kq
                case measure => exact HK.out.2.2
                case rel =>
                  refine ⟨_, rfl, ⟨invB_back HK.out HOK.out.2.1 ?_ HLL.out ?_⟩⟩
                  · rw [← HXK.out, ← HY.out]
                    exact fun h => by rw [HGB.out] at h; exact absurd h.2 (by simp)
                  · rw [← HXK.out, ← HY.out, ← HYS.out, ← HCU.out]
                    exact HCC.out
              | false =>
                have b2 := pw_cell_below (blA (Below.refl _ _) (.cells #[.int .i64 xk.f0, .int .i64 xk.f1, .int .i64 xk.f2, .int .i64 xk.f3, .int .i64 xk.f4, .int .i64 xk.f5, .string xk.f6] 57)) b1
                go_wp2_with fail
                go_at_call 46
                obtain ⟨gc, eAc, hml, P, hR, hpost⟩ := (HC.out.below (blA (Below.refl _ _) (.cells #[.int .i64 xk.f0, .int .i64 xk.f1, .int .i64 xk.f2, .int .i64 xk.f3, .int .i64 xk.f4, .int .i64 xk.f5, .string xk.f6] 57))).del i HII.out.2.1 (pw_cell_below (blA (Below.refl _ _) _) HB0.out) (by have := HX8.out; omega)
                injection eAc with eAc
                subst eAc
                rw [HGS.out] at hR hpost
                dsimp only at hR hpost
                have HPO := Zs0.mk hpost
                have HR1 := Zs0.mk hR
                clear hml hR hpost
                refine (delete_walk P gc cc cur.length x8 (wrap64 (x8 + 1)) cur w _ (HC.out.below (blA (Below.refl _ _) _)).bel HR1.out HX8.out.1 HX8.out.2.1 (by have := HX8.out; rw [wrap_ok (by omega) (by omega)])).mono ?_
                rintro e w1 ⟨rfl, hR1, hB1, hK1⟩
                obtain ⟨g0, g1, hCC, hLL⟩ := HPO.out w1 _ hR1 hB1 hK1
                have HCC := Zs0.mk hCC
                have HLL := Zs0.mk (hLL _ (pw_cell_below (blA (Below.refl _ _) _) HL.out))
                have he := HII.out.2.2.2
                rw [← he] at g0 g1
                clear hR1 hB1 hK1 hCC hLL HPO HR1 he
                go_wp2
                go_roundg kq
                case measure => exact HK.out.2.2
                case rel =>
                  refine ⟨_, rfl, ⟨invB_del HK.out HOK.out.2.1 (by rw [cleanTo_len]; exact HII.out.2.1) (by rw [← HXK.out]; exact HPL.out) (by rw [← HXK.out, ← HY.out]; exact HGB.out) (by rw [HII.out.2.2.2]; exact HLL.out) ?_⟩⟩
                  rw [← HY.out, ← HYS.out, ← HCU.out, HII.out.2.2.2]
                  exact HCC.out
            have c0 : (xk.f0 == 0) = false := beq_eq_false_iff_ne.mpr hop
            clear hop
            by_cases hop : xk.f0 = 1
            · have c1 : (xk.f0 == 1) = true := beq_iff_eq.mpr hop
              have HPL := Zs0.mk (show plainB xk = true by unfold plainB; rw [c0, c1]; rfl)
              obtain ⟨D0, D1⟩ := HST.out.2 (by rw [hop]; decide) (by rw [hop]; decide)
              have hDl : xk.f1 < (Y.length : Int) := by rw [HYL.out, HXL.out]; have := HSS.out; omega
              obtain ⟨al, eal, hv⟩ := Kd.at_bool HLC.out xk.f1 D0 hDl
              subst eal
              have hDl2 : xk.f1 < (X0.length : Int) := by rw [← HYL.out]; exact hDl
              have hrg : rdOf false Y xk.f1 = gb Y xk.f1.toNat := rfl
              rw [hrg] at hv
              have pD := eq_true D0
              have qD := eq_true hDl2
              obtain ⟨gbv, hgb⟩ : ∃ b, b = gb Y xk.f1.toNat := ⟨_, rfl⟩
              rw [← hgb] at hv
              have hv2 := pw_cell_below (blA (Below.refl _ _) (.cells #[.int .i64 xk.f0, .int .i64 xk.f1, .int .i64 xk.f2, .int .i64 xk.f3, .int .i64 xk.f4, .int .i64 xk.f5, .string xk.f6] 57)) hv
              have HGB := Zs0.mk hgb.symm
              clear D0 D1 hDl hDl2 hrg hgb hop
              cases gbv with
              | true =>
                obtain ⟨hmr, P, hR, hpost⟩ := (HC.out.below (blA (Below.refl _ _) (.cells #[.int .i64 xk.f0, .int .i64 xk.f1, .int .i64 xk.f2, .int .i64 xk.f3, .int .i64 xk.f4, .int .i64 xk.f5, .string xk.f6] 57))).back i HII.out.2.1 (pw_cell_below (blA (Below.refl _ _) _) HL.out)
                rw [HROW.out] at hR
                obtain ⟨k2, hk2⟩ := (back_ev HST.out Y (by rw [HYL.out, HXL.out]; have := HSS.out; omega)).rounds
                have HPO := Zs0.mk hpost
                have HR1 := Zs0.mk hR
                have HK2 := Zs0.mk hk2
                clear hmr hR hpost hk2
                go_wp2_with fail
                go_at_call 47
                refine (impl_back.calls k2 P _ _ _ _ _ _ _ _ _ _ w _ (HC.out.below (blA (Below.refl _ _) _)).bel HR1.out HK2.out).mono ?_
                rintro e w1 ⟨rfl, hR1, hB1, hK1⟩
                obtain ⟨hCC, hLL⟩ := HPO.out w1 _ hR1 hB1 hK1
                have HCC := Zs0.mk hCC
                have HLL := Zs0.mk hLL
                clear hR1 hB1 hK1 hCC hLL HPO HR1 HK2
                go_wp2
                go_roundg kq
                case measure => exact HK.out.2.2
                case rel =>
                  refine ⟨_, rfl, ⟨invB_back HK.out HOK.out.2.1 ?_ HLL.out ?_⟩⟩
                  · rw [← HXK.out, ← HY.out]
                    exact fun h => by rw [HGB.out] at h; exact absurd h.2 (by simp)
                  · rw [← HXK.out, ← HY.out, ← HYS.out, ← HCU.out]
                    exact HCC.out
              | false =>
                have b2 := pw_cell_below (blA (Below.refl _ _) (.cells #[.int .i64 xk.f0, .int .i64 xk.f1, .int .i64 xk.f2, .int .i64 xk.f3, .int .i64 xk.f4, .int .i64 xk.f5, .string xk.f6] 57)) b1
                go_wp2_with fail
                go_at_call 46
                obtain ⟨gc, eAc, hml, P, hR, hpost⟩ := (HC.out.below (blA (Below.refl _ _) (.cells #[.int .i64 xk.f0, .int .i64 xk.f1, .int .i64 xk.f2, .int .i64 xk.f3, .int .i64 xk.f4, .int .i64 xk.f5, .string xk.f6] 57))).del i HII.out.2.1 (pw_cell_below (blA (Below.refl _ _) _) HB0.out) (by have := HX8.out; omega)
                injection eAc with eAc
                subst eAc
                rw [HGS.out] at hR hpost
                dsimp only at hR hpost
                have HPO := Zs0.mk hpost
                have HR1 := Zs0.mk hR
                clear hml hR hpost
                refine (delete_walk P gc cc cur.length x8 (wrap64 (x8 + 1)) cur w _ (HC.out.below (blA (Below.refl _ _) _)).bel HR1.out HX8.out.1 HX8.out.2.1 (by have := HX8.out; rw [wrap_ok (by omega) (by omega)])).mono ?_
                rintro e w1 ⟨rfl, hR1, hB1, hK1⟩
                obtain ⟨g0, g1, hCC, hLL⟩ := HPO.out w1 _ hR1 hB1 hK1
                have HCC := Zs0.mk hCC
                have HLL := Zs0.mk (hLL _ (pw_cell_below (blA (Below.refl _ _) _) HL.out))
                have he := HII.out.2.2.2
                rw [← he] at g0 g1
                clear hR1 hB1 hK1 hCC hLL HPO HR1 he
                go_wp2
                go_roundg kq
                case measure => exact HK.out.2.2
                case rel =>
                  refine ⟨_, rfl, ⟨invB_del HK.out HOK.out.2.1 (by rw [cleanTo_len]; exact HII.out.2.1) (by rw [← HXK.out]; exact HPL.out) (by rw [← HXK.out, ← HY.out]; exact HGB.out) (by rw [HII.out.2.2.2]; exact HLL.out) ?_⟩⟩
                  rw [← HY.out, ← HYS.out, ← HCU.out, HII.out.2.2.2]
                  exact HCC.out
            have c1 : (xk.f0 == 1) = false := beq_eq_false_iff_ne.mpr hop
            clear hop
            by_cases hop : xk.f0 = 2
            · have c2 : (xk.f0 == 2) = true := beq_iff_eq.mpr hop
              have HPL := Zs0.mk (show plainB xk = true by unfold plainB; rw [c0, c1, c2]; rfl)
              obtain ⟨D0, D1⟩ := HST.out.2 (by rw [hop]; decide) (by rw [hop]; decide)
              have hDl : xk.f1 < (Y.length : Int) := by rw [HYL.out, HXL.out]; have := HSS.out; omega
              obtain ⟨al, eal, hv⟩ := Kd.at_bool HLC.out xk.f1 D0 hDl
              subst eal
              have hDl2 : xk.f1 < (X0.length : Int) := by rw [← HYL.out]; exact hDl
              have hrg : rdOf false Y xk.f1 = gb Y xk.f1.toNat := rfl
              rw [hrg] at hv
              have pD := eq_true D0
              have qD := eq_true hDl2
              obtain ⟨gbv, hgb⟩ : ∃ b, b = gb Y xk.f1.toNat := ⟨_, rfl⟩
              rw [← hgb] at hv
              have hv2 := pw_cell_below (blA (Below.refl _ _) (.cells #[.int .i64 xk.f0, .int .i64 xk.f1, .int .i64 xk.f2, .int .i64 xk.f3, .int .i64 xk.f4, .int .i64 xk.f5, .string xk.f6] 57)) hv
              have HGB := Zs0.mk hgb.symm
              clear D0 D1 hDl hDl2 hrg hgb hop
              cases gbv with
              | true =>
                obtain ⟨hmr, P, hR, hpost⟩ := (HC.out.below (blA (Below.refl _ _) (.cells #[.int .i64 xk.f0, .int .i64 xk.f1, .int .i64 xk.f2, .int .i64 xk.f3, .int .i64 xk.f4, .int .i64 xk.f5, .string xk.f6] 57))).back i HII.out.2.1 (pw_cell_below (blA (Below.refl _ _) _) HL.out)
                rw [HROW.out] at hR
                obtain ⟨k2, hk2⟩ := (back_ev HST.out Y (by rw [HYL.out, HXL.out]; have := HSS.out; omega)).rounds
                have HPO := Zs0.mk hpost
                have HR1 := Zs0.mk hR
                have HK2 := Zs0.mk hk2
                clear hmr hR hpost hk2
                go_wp2_with fail
                go_at_call 47
                refine (impl_back.calls k2 P _ _ _ _ _ _ _ _ _ _ w _ (HC.out.below (blA (Below.refl _ _) _)).bel HR1.out HK2.out).mono ?_
                rintro e w1 ⟨rfl, hR1, hB1, hK1⟩
                obtain ⟨hCC, hLL⟩ := HPO.out w1 _ hR1 hB1 hK1
                have HCC := Zs0.mk hCC
                have HLL := Zs0.mk hLL
                clear hR1 hB1 hK1 hCC hLL HPO HR1 HK2
                go_wp2
                go_roundg kq
                case measure => exact HK.out.2.2
                case rel =>
                  refine ⟨_, rfl, ⟨invB_back HK.out HOK.out.2.1 ?_ HLL.out ?_⟩⟩
                  · rw [← HXK.out, ← HY.out]
                    exact fun h => by rw [HGB.out] at h; exact absurd h.2 (by simp)
                  · rw [← HXK.out, ← HY.out, ← HYS.out, ← HCU.out]
                    exact HCC.out
              | false =>
                have b2 := pw_cell_below (blA (Below.refl _ _) (.cells #[.int .i64 xk.f0, .int .i64 xk.f1, .int .i64 xk.f2, .int .i64 xk.f3, .int .i64 xk.f4, .int .i64 xk.f5, .string xk.f6] 57)) b1
                go_wp2_with fail
                go_at_call 46
                obtain ⟨gc, eAc, hml, P, hR, hpost⟩ := (HC.out.below (blA (Below.refl _ _) (.cells #[.int .i64 xk.f0, .int .i64 xk.f1, .int .i64 xk.f2, .int .i64 xk.f3, .int .i64 xk.f4, .int .i64 xk.f5, .string xk.f6] 57))).del i HII.out.2.1 (pw_cell_below (blA (Below.refl _ _) _) HB0.out) (by have := HX8.out; omega)
                injection eAc with eAc
                subst eAc
                rw [HGS.out] at hR hpost
                dsimp only at hR hpost
                have HPO := Zs0.mk hpost
                have HR1 := Zs0.mk hR
                clear hml hR hpost
                refine (delete_walk P gc cc cur.length x8 (wrap64 (x8 + 1)) cur w _ (HC.out.below (blA (Below.refl _ _) _)).bel HR1.out HX8.out.1 HX8.out.2.1 (by have := HX8.out; rw [wrap_ok (by omega) (by omega)])).mono ?_
                rintro e w1 ⟨rfl, hR1, hB1, hK1⟩
                obtain ⟨g0, g1, hCC, hLL⟩ := HPO.out w1 _ hR1 hB1 hK1
                have HCC := Zs0.mk hCC
                have HLL := Zs0.mk (hLL _ (pw_cell_below (blA (Below.refl _ _) _) HL.out))
                have he := HII.out.2.2.2
                rw [← he] at g0 g1
                clear hR1 hB1 hK1 hCC hLL HPO HR1 he
                go_wp2
                go_roundg kq
                case measure => exact HK.out.2.2
                case rel =>
                  refine ⟨_, rfl, ⟨invB_del HK.out HOK.out.2.1 (by rw [cleanTo_len]; exact HII.out.2.1) (by rw [← HXK.out]; exact HPL.out) (by rw [← HXK.out, ← HY.out]; exact HGB.out) (by rw [HII.out.2.2.2]; exact HLL.out) ?_⟩⟩
                  rw [← HY.out, ← HYS.out, ← HCU.out, HII.out.2.2.2]
                  exact HCC.out
            have c2 : (xk.f0 == 2) = false := beq_eq_false_iff_ne.mpr hop
            clear hop
            have HPN := Zs0.mk (show plainB xk = false by unfold plainB; rw [c0, c1, c2]; rfl)
            obtain ⟨hmr, P, hR, hpost⟩ := (HC.out.below (blA (Below.refl _ _) (.cells #[.int .i64 xk.f0, .int .i64 xk.f1, .int .i64 xk.f2, .int .i64 xk.f3, .int .i64 xk.f4, .int .i64 xk.f5, .string xk.f6] 57))).back i HII.out.2.1 (pw_cell_below (blA (Below.refl _ _) _) HL.out)
            rw [HROW.out] at hR
            obtain ⟨k2, hk2⟩ := (back_ev HST.out Y (by rw [HYL.out, HXL.out]; have := HSS.out; omega)).rounds
            have HPO := Zs0.mk hpost
            have HR1 := Zs0.mk hR
            have HK2 := Zs0.mk hk2
            clear hmr hR hpost hk2
            go_wp2_with fail
            go_at_call 47
            refine (impl_back.calls k2 P _ _ _ _ _ _ _ _ _ _ w _ (HC.out.below (blA (Below.refl _ _) _)).bel HR1.out HK2.out).mono ?_
            rintro e w1 ⟨rfl, hR1, hB1, hK1⟩
            obtain ⟨hCC, hLL⟩ := HPO.out w1 _ hR1 hB1 hK1
            have HCC := Zs0.mk hCC
            have HLL := Zs0.mk hLL
            clear hR1 hB1 hK1 hCC hLL HPO HR1 HK2
            go_wp2
            go_roundg kq
            case measure => exact HK.out.2.2
            case rel =>
              refine ⟨_, rfl, ⟨invB_back HK.out HOK.out.2.1 ?_ HLL.out ?_⟩⟩
              · rw [← HXK.out, ← HY.out]
                exact fun h => by rw [HPN.out] at h; exact absurd h.1 (by simp)
              · rw [← HXK.out, ← HY.out, ← HYS.out, ← HCU.out]
                exact HCC.out
          · have c8b0 : decide (0 ≤ x8) = false := decide_eq_false hlt
            obtain ⟨m, hm, hm1, hm2, hL, hC⟩ := HI.out
            obtain rfl : m = 0 := by omega
            rw [List.drop_zero, List.take_zero, List.nil_append] at hC
            have HC := Zs0.mk hC
            clear HI hm hm1 hm2 hL hC hlt
            go_wp2
            go_roundg (r5.length - (i + 1))
            case measure => have := HII.out; omega
            case rel =>
              refine ⟨_, rfl, ⟨⟨i + 1, LV.set i (cleanC bk.f0 (jumpL bk X0)).2, ?_, HII.out.2.1, Nat.le_refl _, HLV.out.set (by rw [cleanC_len, jumpL_len]; exact HXL.out), fun j hj => ?_, ?_⟩⟩⟩
              · have := HII.out
                have := HN.out
                rw [wrap_ok (by omega) (by omega)]
                omega
              · rw [row_set, if_neg (by omega)]
                exact HRW.out j (by omega)
              · have h1 := HC.out
                rw [cleanTo, ← HBB.out, ← HRW.out i (Nat.le_refl _), ← HX0.out]
                exact h1
    · have c22b0 : decide (x22 < (r5.length : Int)) = false := decide_eq_false hlt
      obtain ⟨i, LV, hi, hi1, hi2, hLV, hrw, hC⟩ := HI.out
      obtain rfl : i = r5.length := by omega
      have HC := Zs0.mk hC
      obtain ⟨x0, x1, x2, x3, x4, y0, y1, y2, y3, y4⟩ := bx5 hC.o
      obtain ⟨u0, u1, u2, u3, u4, z0, z1, z2, z3, z4⟩ := bx5 hC.r
      clear HI hi hi1 hi2 hLV hrw hC hlt
      go_wp2
      refine bodyPost_ret (results_cell_row rfl _ _ (w.heap.size + 1) 29 #[.slice Az r1.length cz, .int .i64 r2, .int .i64 r3, .int .i64 r4, .slice (some ⟨gA, 0, none⟩) r5.length cs] (0, 0) _ rfl (put5c HC.out.r _ _ _ _ _) Try.underlying29 rfl (by kernel_rfl)) rfl ?_
      have hk := ((((((Kept.refl wr (fun q => q = w.heap.size + 1)).setCell (p := ⟨w.heap.size + 1, 0, none⟩) (.inl rfl) (.slice Az r1.length cz)).setCell (p := ⟨w.heap.size + 1, 1, none⟩) (.inl rfl) (.int .i64 r2)).setCell (p := ⟨w.heap.size + 1, 2, none⟩) (.inl rfl) (.int .i64 r3)).setCell (p := ⟨w.heap.size + 1, 3, none⟩) (.inl rfl) (.int .i64 r4)).setCell (p := ⟨w.heap.size + 1, 4, none⟩) (.inl rfl) (.slice (some ⟨gA, 0, none⟩) r5.length cs))
      have hT : ∀ q, q = w.heap.size + 1 → isT wr q 29 := fun q hq => by rw [hq]; exact ⟨_, HC.out.r⟩
      refine ⟨.slice Az r1.length cz, .slice (some ⟨gA, 0, none⟩) r5.length cs, rfl, R_kty HC.out.z hk hT (by decide), S_kty HC.out.b hk hT (by decide), ?_⟩
      exact blS (blS (blS (blS (blS HC.out.bel (Nat.le_succ _)) (Nat.le_succ _)) (Nat.le_succ _)) (Nat.le_succ _)) (Nat.le_succ _)
theorem impl_Clean.calls (k : Nat) (A0_0 : Option Addr) (c0_0 : Nat) (l0_0 : List Int) (a0_1 : Int) (a0_2 : Int) (a0_3 : Int) (A0_4 : Option Addr) (c0_4 : Nat) (l0_4 : List S47) (r1 : List Int) (r2 : Int) (r3 : Int) (r4 : Int) (r5 : List S47) (w : World) (hr0_0 : Kd.C (Kd.int .i64) w A0_0 l0_0.length l0_0) (hc0_0 : l0_0.length ≤ c0_0) (hr0_4 : Kd.C k47 w A0_4 l0_4.length l0_4) (hc0_4 : l0_4.length ≤ c0_4) (h : impl_Clean.f k l0_0 a0_1 a0_2 a0_3 l0_4 = some (r1, r2, r3, r4, r5)) :
    Calls Try.prog 20 #[.agg #[.slice A0_0 l0_0.length c0_0, .int .i64 a0_1, .int .i64 a0_2, .int .i64 a0_3, .slice A0_4 l0_4.length c0_4]] w fun e w' => ∃ v0_ v4_ : Value, e = .returned (.agg #[v0_, .int .i64 r2, .int .i64 r3, .int .i64 r4, v4_]) ∧ Kd.R (Kd.int .i64) 3 w' w.heap.size (fun _ => True) v0_ r1 ∧ Kd.S k47 47 w' w.heap.size (fun _ => True) v4_ r5 ∧ Below w.heap.size w w' := by
  unfold impl_Clean.f at h
  obtain ⟨⟨g1, g2, g3, g4, g5⟩, e2, h⟩ := Option.bind_eq_some_iff.mp h
  obtain ⟨t, e1, h⟩ := Option.bind_eq_some_iff.mp h
  split at h
  · rename_i ht
    subst ht
    obtain ⟨RR, e3, h⟩ := Option.bind_eq_some_iff.mp h
    split at h
    · rename_i hc
      obtain ⟨hG, hS⟩ := hc
      obtain ⟨hs, hn, hb⟩ := okG_blk hG
      have h6 := Option.some.inj h
      injection h6 with h1 h6
      injection h6 with h2 h6
      injection h6 with h3 h6
      injection h6 with h4 h5
      subst h1 h2 h3 h4 h5
      exact clean_yes k A0_0 c0_0 l0_0 a0_1 a0_2 a0_3 A0_4 c0_4 l0_4 g1 g2 g3 g4 g5 RR w hr0_0 hc0_0 hr0_4 hc0_4 e1 e2 e3 hs hn hb (okR_shp hS)
    · cases h
  · rename_i ht
    have ht2 : t = false := by simpa using ht
    subst ht2
    have h6 := Option.some.inj h
    injection h6 with h1 h6
    injection h6 with h2 h6
    injection h6 with h3 h6
    injection h6 with h4 h5
    subst h1 h2 h3 h4 h5
    exact clean_no k A0_0 c0_0 l0_0 a0_1 a0_2 a0_3 A0_4 c0_4 l0_4 g1 g2 g3 g4 g5 w hr0_0 hc0_0 hr0_4 hc0_4 e1 e2
end Go.Proofs.Ytcbpbnkoolpibaa.P
