/- spec.Clean: its contract. Condition: as_ the plain function says. -/
import Derived.Test.YtcbpbnkoolpibaaMClean2pa
import Derived.Test.YtcbpbnkoolpibaaMCleanxGcl
import Derived.Test.YtcbpbnkoolpibaaMClean1a
import Derived.Test.YtcbpbnkoolpibaaMClean0c
import Derived.Test.YtcbpbnkoolpibaaMCleanxF41
import Derived.Deep.RegionWith
set_option maxHeartbeats 8000000
set_option maxRecDepth 100000
set_option linter.unusedVariables false
set_option linter.unusedSimpArgs false
namespace Go.Proofs.Ytcbpbnkoolpibaa.P
open RowKit YtcbpbnkoolpibaaW.wA YtcbpbnkoolpibaaW.wB YtcbpbnkoolpibaaW.wC Gr Aux
def cleanS (bs r5 : List S47) (R : List (List Bool)) : Nat → List S47
  | 0 => r5
  | i + 1 => (cleanS bs r5 R i).set i ⟨(cleanC (bs.getD i z47).f0 (jumpL (bs.getD i z47) (row R i))).1, ((cleanS bs r5 R i).getD i z47).f1, ((cleanS bs r5 R i).getD i z47).f2, ((cleanS bs r5 R i).getD i z47).f3, ((cleanS bs r5 R i).getD i z47).f4⟩
theorem in_plain (x : S57) : spec_l01In.f x.f0 0 2 = some (plainB x) := by
  unfold spec_l01In.f plainB
  by_cases h0 : x.f0 = 0
  · simp [h0]
  by_cases h1 : x.f0 = 1
  · simp [h1]
  by_cases h2 : x.f0 = 2
  · simp [h2]
  have e : ((x.f0 == 0 || x.f0 == 1) || x.f0 == 2) = false := by simp [h0, h1, h2]
  rw [e]
  by_cases h : x.f0 ≥ 0
  · rw [if_pos h]
    exact congrArg some (decide_eq_false (by omega))
  · rw [if_neg h]
def spec_Clean.f (k : Nat) (zs : List Int) (p v s : Int) (bs : List S47) : Option (List Int × Int × Int × Int × List S47) :=
  (spec_l04Copy.f k zs p v s bs).bind fun g => (spec_GraphOk.f k zs p v s bs).bind fun t => if t = true then (spec_l08Live.f k zs p v s bs).bind fun R => if Ok.okG zs p v s bs = true ∧ g.2.2.2.2.length = bs.length ∧ okR R bs.length s.toNat = true then some (g.1, g.2.1, g.2.2.1, g.2.2.2.1, cleanS bs g.2.2.2.2 R bs.length) else none
    else some g
theorem cleanS_no (k : Nat) (A0_0 : Option Addr) (c0_0 : Nat) (l0_0 : List Int) (a0_1 : Int) (a0_2 : Int) (a0_3 : Int) (A0_4 : Option Addr) (c0_4 : Nat) (l0_4 : List S47) (r1 : List Int) (r2 : Int) (r3 : Int) (r4 : Int) (r5 : List S47) (w : World) (hr0_0 : Kd.C (Kd.int .i64) w A0_0 l0_0.length l0_0) (hc0_0 : l0_0.length ≤ c0_0) (hr0_4 : Kd.C k47 w A0_4 l0_4.length l0_4) (hc0_4 : l0_4.length ≤ c0_4)
    (e1 : spec_GraphOk.f k l0_0 a0_1 a0_2 a0_3 l0_4 = some false) (e2 : spec_l04Copy.f k l0_0 a0_1 a0_2 a0_3 l0_4 = some (r1, r2, r3, r4, r5)) :
    Calls Try.prog 19 #[.agg #[.slice A0_0 l0_0.length c0_0, .int .i64 a0_1, .int .i64 a0_2, .int .i64 a0_3, .slice A0_4 l0_4.length c0_4]] w fun e w' => ∃ v0_ v4_ : Value, e = .returned (.agg #[v0_, .int .i64 r2, .int .i64 r3, .int .i64 r4, v4_]) ∧ Kd.R (Kd.int .i64) 3 w' w.heap.size (fun _ => True) v0_ r1 ∧ Kd.S k47 47 w' w.heap.size (fun _ => True) v4_ r5 ∧ Below w.heap.size w w' := by
  have huIG := Try.underlying29
  have HR0 := Zs0.mk hr0_0
  have HR4 := Zs0.mk hr0_4
  have HE1 := Zs0.mk e1
  have HE2 := Zs0.mk e2
  clear hr0_0 hr0_4 e1 e2
  go_enter Try.func19, Try.ntmps19
  go_wp2_with fail
  go_at_call 28
  refine (spec_l04Copy.calls k _ _ l0_0 a0_1 a0_2 a0_3 _ _ l0_4 _ _ _ _ _ _ (Kd.cA1 (Kd.cA1 HR0.out _) _) hc0_0 (Kd.cA1 (Kd.cA1 HR4.out _) _) hc0_4 HE2.out).mono ?_
  rintro e w1 ⟨v0, v4, rfl, hz, hs, hb1⟩
  obtain ⟨Az, cz, rfl⟩ := Kd.R_slice hz
  obtain ⟨As, cs, rfl⟩ := Kd.S_slice hs
  have hb1g := bkB (g := w.heap.size) (bkA (heap_alloc_new w _) _) hb1
  have hb2g := bkB (g := w.heap.size + 1) (show _ = some (.cells #[.slice none 0 0, .int .i64 0, .int .i64 0, .int .i64 0, .slice none 0 0] 29 (0, 0)) from by have h := heap_alloc_new (w.alloc (.cells #[.slice A0_0 l0_0.length c0_0, .int .i64 a0_1, .int .i64 a0_2, .int .i64 a0_3, .slice A0_4 l0_4.length c0_4] 29)) (.cells #[.slice none 0 0, .int .i64 0, .int .i64 0, .int .i64 0, .slice none 0 0] 29); simpa using h) hb1
  have HB1 := Zs0.mk (show Below w.heap.size w w1 from blT (blA (blA (Below.refl _ _) _) _) hb1)
  have hbs := (blA (blA (Below.refl w.heap.size w) (.cells #[.slice A0_0 l0_0.length c0_0, .int .i64 a0_1, .int .i64 a0_2, .int .i64 a0_3, .slice A0_4 l0_4.length c0_4] 29)) (.cells #[.slice none 0 0, .int .i64 0, .int .i64 0, .int .i64 0, .slice none 0 0] 29)).size
  have HZ := Zs0.mk (Kd.R_types (Kd.R_lower hz hbs) hb2g (by decide))
  have HS := Zs0.mk (Kd.S_types (Kd.S_lower hs hbs) hb2g (by decide))
  have HG1 := Zs0.mk hb1g
  have HG2 := Zs0.mk hb2g
  have nk := blk_lt hb1g
  have nk2 := blk_lt hb2g
  obtain ⟨x0, x1, x2, x3, x4, y0, y1, y2, y3, y4⟩ := bx5 hb1g
  obtain ⟨u0, u1, u2, u3, u4, z0, z1, z2, z3, z4⟩ := bx5 hb2g
  clear hb1 hb1g hb2g hz hs hbs
  go_wp2_with fail
  go_at_call 29
  refine (spec_GraphOk.calls k _ _ l0_0 a0_1 a0_2 a0_3 _ _ l0_4 _ _ (Kd.cA1 (Kd.cB1 HR0.out HB1.out) _) hc0_0 (Kd.cA1 (Kd.cB1 HR4.out HB1.out) _) hc0_4 HE1.out).mono ?_
  rintro e w2 ⟨rfl, hb2⟩
  have hb3g := bkB (heap_alloc_new w1 (.cells #[.slice Az r1.length cz, .int .i64 r2, .int .i64 r3, .int .i64 r4, .slice As r5.length cs] 29)) hb2
  have hb2g := bkB (bkA HG2.out _) hb2
  have HB2 := Zs0.mk (blT (blA HB1.out _) hb2)
  have HZ := Zs0.mk (Kd.R_below (Kd.rA1 HZ.out _) hb2)
  have HS := Zs0.mk (Kd.S_below (Kd.S_alloc HS.out _) hb2)
  clear x0 x1 x2 x3 x4 y0 y1 y2 y3 y4 u0 u1 u2 u3 u4 z0 z1 z2 z3 z4
  obtain ⟨x0, x1, x2, x3, x4, y0, y1, y2, y3, y4⟩ := bx5 hb3g
  obtain ⟨u0, u1, u2, u3, u4, z0, z1, z2, z3, z4⟩ := bx5 hb2g
  have HG3 := Zs0.mk hb2g
  clear hb2 hb3g hb2g nk nk2
  go_wp2
  refine bodyPost_ret (results_cell_row rfl _ _ (w.heap.size + 1) 29 #[.slice Az r1.length cz, .int .i64 r2, .int .i64 r3, .int .i64 r4, .slice As r5.length cs] (0, 0) _ rfl (put5c HG3.out _ _ _ _ _) Try.underlying29 rfl (by kernel_rfl)) rfl ?_
  have hk := ((((((Kept.refl w2 (fun q => q = w.heap.size + 1)).setCell (p := ⟨w.heap.size + 1, 0, none⟩) (.inl rfl) (.slice Az r1.length cz)).setCell (p := ⟨w.heap.size + 1, 1, none⟩) (.inl rfl) (.int .i64 r2)).setCell (p := ⟨w.heap.size + 1, 2, none⟩) (.inl rfl) (.int .i64 r3)).setCell (p := ⟨w.heap.size + 1, 3, none⟩) (.inl rfl) (.int .i64 r4)).setCell (p := ⟨w.heap.size + 1, 4, none⟩) (.inl rfl) (.slice As r5.length cs))
  refine ⟨.slice Az r1.length cz, .slice As r5.length cs, rfl, Kd.R_mono (Kd.R_kept HZ.out hk fun q h1 h2 => h1.2 h2) fun _ _ => trivial, Kd.S_mono (Kd.S_kept HS.out hk fun q h1 h2 => h1.2 h2) fun _ _ => trivial, ?_⟩
  exact blS (blS (blS (blS (blS HB2.out (Nat.le_succ _)) (Nat.le_succ _)) (Nat.le_succ _)) (Nat.le_succ _)) (Nat.le_succ _)
def MidC (w : World) (N g1 gr go gA cA n gL cL : Nat) (c1 c2 co : Array Value) (vz : Value) (zs : List Int) (ycs : Array Value) (BS : List S47) (LV : List (List Bool)) (X : List Bool) (v7 : Value) (wr : World) : Prop :=
  CS w N g1 gr go gA cA n gL cL c1 c2 co vz zs BS LV wr ∧ Kd.R Kd.bool 4 wr w.heap.size (fun q => N ≤ q) v7 X ∧ wr.heap[N]? = some (.cells ycs 47 (0, 0))
def InvT (w : World) (N g1 gr go gA cA n gL cL : Nat) (c1 c2 co : Array Value) (vz : Value) (zs : List Int) (ycs : Array Value) (BS : List S47) (LV : List (List Bool)) (code : List S57) (X : List Bool) (v7 s8 : Value) (x : Int) (gg : Nat) (wr : World) : Prop :=
  ∃ m : Nat, (m : Int) - 1 = x ∧ m ≤ code.length ∧ m ≤ gg ∧ MidC w N g1 gr go gA cA n gL cL c1 c2 co vz zs ycs BS LV (cleanC (code.drop m) X).2 v7 wr ∧ Kd.R k57 57 wr w.heap.size (fun q => N ≤ q) s8 (cleanC (code.drop m) X).1
theorem invT_next {w w1 : World} {N g1 gr go gA cA n gL cL kq gg : Nat} {c1 c2 co ycs : Array Value} {vz v7 s8 : Value} {zs : List Int} {BS : List S47} {LV : List (List Bool)} {code ys : List S57} {X Y : List Bool} {x : Int} (hk : (kq : Int) = x ∧ kq < code.length ∧ kq + 1 ≤ gg) (hl : code.length ≤ 1000) (hc : cleanC (code.drop kq) X = (ys, Y)) (hM : MidC w N g1 gr go gA cA n gL cL c1 c2 co vz zs ycs BS LV Y v7 w1) (hR : Kd.R k57 57 w1 w.heap.size (fun q => N ≤ q) s8 ys) :
    InvT w N g1 gr go gA cA n gL cL c1 c2 co vz zs ycs BS LV code X v7 s8 (wrap64 (x - 1)) kq w1 := by
  refine ⟨kq, ?_, Nat.le_of_lt hk.2.1, Nat.le_refl _, by rw [hc]; exact hM, by rw [hc]; exact hR⟩
  rw [wrap_ok (by omega) (by omega)]
  omega
theorem clean_skip {code : List S57} {X : List Bool} {kq : Nat} (h : kq < code.length) (h1 : plainB code[kq] = true) (h2 : gb (cleanC (code.drop (kq + 1)) X).2 code[kq].f1.toNat = false) : cleanC (code.drop kq) X = ((cleanC (code.drop (kq + 1)) X).1, (cleanC (code.drop (kq + 1)) X).2) := by
  rw [List.drop_eq_getElem_cons h, cleanC, if_pos ⟨h1, h2⟩]
theorem clean_keep {code : List S57} {X : List Bool} {kq : Nat} (h : kq < code.length) (h1 : ¬ (plainB code[kq] = true ∧ gb (cleanC (code.drop (kq + 1)) X).2 code[kq].f1.toNat = false)) : cleanC (code.drop kq) X = (code[kq] :: (cleanC (code.drop (kq + 1)) X).1, backL code[kq] (cleanC (code.drop (kq + 1)) X).2) := by
  rw [List.drop_eq_getElem_cons h, cleanC, if_neg h1]
theorem cleanC_le : ∀ (code : List S57) (X : List Bool), (cleanC code X).1.length ≤ code.length
  | [], X => Nat.le_refl _
  | x :: xs, X => by
    have := cleanC_le xs X
    rw [cleanC]
    split
    · rw [List.length_cons]
      omega
    · rw [List.length_cons, List.length_cons]
      omega
theorem plain_ne {x : S57} (h : plainB x = true) : ¬ x.f0 = 4 ∧ ¬ x.f0 = 6 := by
  unfold plainB at h
  rw [Bool.or_eq_true, Bool.or_eq_true, beq_iff_eq, beq_iff_eq, beq_iff_eq] at h
  omega
def InvS (w : World) (g1 gr go gA cA gL cL : Nat) (c1 c2 co : Array Value) (vz : Value) (zs : List Int) (bs r5 : List S47) (R : List (List Bool)) (x : Int) (gg : Nat) (wr : World) : Prop :=
  ∃ i : Nat, (i : Int) = x ∧ i ≤ bs.length ∧ bs.length - i ≤ gg ∧ CS w wr.heap.size g1 gr go gA cA r5.length gL cL c1 c2 co vz zs (cleanS bs r5 R i) R wr
theorem cleanS_yes (k : Nat) (A0_0 : Option Addr) (c0_0 : Nat) (l0_0 : List Int) (a0_1 : Int) (a0_2 : Int) (a0_3 : Int) (A0_4 : Option Addr) (c0_4 : Nat) (l0_4 : List S47) (r1 : List Int) (r2 : Int) (r3 : Int) (r4 : Int) (r5 : List S47) (RR : List (List Bool)) (w : World) (hr0_0 : Kd.C (Kd.int .i64) w A0_0 l0_0.length l0_0) (hc0_0 : l0_0.length ≤ c0_0) (hr0_4 : Kd.C k47 w A0_4 l0_4.length l0_4) (hc0_4 : l0_4.length ≤ c0_4)
    (e1 : spec_GraphOk.f k l0_0 a0_1 a0_2 a0_3 l0_4 = some true) (e2 : spec_l04Copy.f k l0_0 a0_1 a0_2 a0_3 l0_4 = some (r1, r2, r3, r4, r5)) (e3 : spec_l08Live.f k l0_0 a0_1 a0_2 a0_3 l0_4 = some RR) (hs : 0 ≤ a0_3 ∧ a0_3 ≤ 1000) (hn : 0 < l0_4.length ∧ l0_4.length ≤ 300) (hle : r5.length = l0_4.length) (hblk : ∀ b ∈ l0_4, BlkOk a0_3 l0_4.length b) (hSh : Shp l0_4.length a0_3.toNat RR) :
    Calls Try.prog 19 #[.agg #[.slice A0_0 l0_0.length c0_0, .int .i64 a0_1, .int .i64 a0_2, .int .i64 a0_3, .slice A0_4 l0_4.length c0_4]] w fun e w' => ∃ v0_ v4_ : Value, e = .returned (.agg #[v0_, .int .i64 r2, .int .i64 r3, .int .i64 r4, v4_]) ∧ Kd.R (Kd.int .i64) 3 w' w.heap.size (fun _ => True) v0_ r1 ∧ Kd.S k47 47 w' w.heap.size (fun _ => True) v4_ (cleanS l0_4 r5 RR l0_4.length) ∧ Below w.heap.size w w' := by
  have huIG := Try.underlying29
  have huIB := Try.underlying47
  have huII := Try.underlying57
  have HR0 := Zs0.mk hr0_0
  have HR4 := Zs0.mk hr0_4
  have HE1 := Zs0.mk e1
  have HE2 := Zs0.mk e2
  have HE3 := Zs0.mk e3
  have HSS := Zs0.mk hs
  have HLE := Zs0.mk hle
  have HN := Zs0.mk hn
  have HBK := Zs0.mk hblk
  have HSH := Zs0.mk hSh
  clear hr0_0 hr0_4 e1 e2 e3 hs hn hle hblk hSh
  go_enter Try.func19, Try.ntmps19
  go_wp2_with fail
  go_at_call 28
  refine (spec_l04Copy.calls k _ _ l0_0 a0_1 a0_2 a0_3 _ _ l0_4 _ _ _ _ _ _ (Kd.cA1 (Kd.cA1 HR0.out _) _) hc0_0 (Kd.cA1 (Kd.cA1 HR4.out _) _) hc0_4 HE2.out).mono ?_
  rintro e w1 ⟨v0, v4, rfl, hz, hs, hb1⟩
  obtain ⟨Az, cz, rfl⟩ := Kd.R_slice hz
  obtain ⟨As, cs, rfl⟩ := Kd.S_slice hs
  obtain ⟨gA, eA⟩ : ∃ gA, As = some ⟨gA, 0, none⟩ := by
    obtain ⟨gA, cA, e, _⟩ := Kd.R_form (Kd.S_R hs) (by rw [HLE.out]; exact HN.out.1)
    injection e with e
    exact ⟨gA, e⟩
  subst eA
  have hb1g := bkB (g := w.heap.size) (bkA (heap_alloc_new w _) _) hb1
  have hb2g := bkB (g := w.heap.size + 1) (show _ = some (.cells #[.slice none 0 0, .int .i64 0, .int .i64 0, .int .i64 0, .slice none 0 0] 29 (0, 0)) from by have h := heap_alloc_new (w.alloc (.cells #[.slice A0_0 l0_0.length c0_0, .int .i64 a0_1, .int .i64 a0_2, .int .i64 a0_3, .slice A0_4 l0_4.length c0_4] 29)) (.cells #[.slice none 0 0, .int .i64 0, .int .i64 0, .int .i64 0, .slice none 0 0] 29); simpa using h) hb1
  have HB1 := Zs0.mk (show Below w.heap.size w w1 from blT (blA (blA (Below.refl _ _) _) _) hb1)
  have hbs := (blA (blA (Below.refl w.heap.size w) (.cells #[.slice A0_0 l0_0.length c0_0, .int .i64 a0_1, .int .i64 a0_2, .int .i64 a0_3, .slice A0_4 l0_4.length c0_4] 29)) (.cells #[.slice none 0 0, .int .i64 0, .int .i64 0, .int .i64 0, .slice none 0 0] 29)).size
  have HZ := Zs0.mk (Kd.R_lower hz hbs)
  have HS := Zs0.mk (Kd.S_lower hs hbs)
  have HG1 := Zs0.mk hb1g
  have HG2 := Zs0.mk hb2g
  have nk := blk_lt hb1g
  have nk2 := blk_lt hb2g
  obtain ⟨x0, x1, x2, x3, x4, y0, y1, y2, y3, y4⟩ := bx5 hb1g
  obtain ⟨u0, u1, u2, u3, u4, z0, z1, z2, z3, z4⟩ := bx5 hb2g
  clear hb1 hb1g hb2g hz hs hbs
  go_wp2_with fail
  go_at_call 29
  refine (spec_GraphOk.calls k _ _ l0_0 a0_1 a0_2 a0_3 _ _ l0_4 _ _ (Kd.cA1 (Kd.cB1 HR0.out HB1.out) _) hc0_0 (Kd.cA1 (Kd.cB1 HR4.out HB1.out) _) hc0_4 HE1.out).mono ?_
  rintro e w2 ⟨rfl, hb2⟩
  have hb3g := bkB (heap_alloc_new w1 (.cells #[.slice Az r1.length cz, .int .i64 r2, .int .i64 r3, .int .i64 r4, .slice (some ⟨gA, 0, none⟩) r5.length cs] 29)) hb2
  have hb2g := bkB (bkA HG2.out _) hb2
  have HB2 := Zs0.mk (blT (blA HB1.out _) hb2)
  have HZ := Zs0.mk (Kd.R_below (Kd.rA1 HZ.out _) hb2)
  have HS := Zs0.mk (Kd.S_below (Kd.S_alloc HS.out _) hb2)
  clear x0 x1 x2 x3 x4 y0 y1 y2 y3 y4 u0 u1 u2 u3 u4 z0 z1 z2 z3 z4
  obtain ⟨x0, x1, x2, x3, x4, y0, y1, y2, y3, y4⟩ := bx5 hb3g
  obtain ⟨u0, u1, u2, u3, u4, z0, z1, z2, z3, z4⟩ := bx5 hb2g
  have hb1g := bkB (bkA HG1.out _) hb2
  have HG1 := Zs0.mk hb1g
  have HG2 := Zs0.mk hb2g
  have HG3 := Zs0.mk hb3g
  obtain ⟨s0, s1, s2, s3, s4, t0, t1, t2, t3, t4⟩ := bx5 hb1g
  clear hb2 hb3g hb2g hb1g nk nk2
  go_wp2_with fail
  go_at_call 41
  refine (spec_l08Live.calls k _ _ l0_0 a0_1 a0_2 a0_3 _ _ l0_4 _ _ (Kd.cB1 HR0.out HB2.out) hc0_0 (Kd.cB1 HR4.out HB2.out) hc0_4 HE3.out).mono ?_
  rintro e w3 ⟨vL, rfl, hl, hb3⟩
  obtain ⟨AL, cL, rfl⟩ := Kd.S_slice hl
  obtain ⟨gL, eL⟩ : ∃ gL, AL = some ⟨gL, 0, none⟩ := by
    obtain ⟨gA, cA, e, _⟩ := Kd.R_form (Kd.S_R hl) (by rw [HSH.out.1]; exact HN.out.1)
    injection e with e
    exact ⟨gA, e⟩
  subst eL
  rw [HSH.out.1, ← HLE.out]
  have HCS := Zs0.mk (show CS w w3.heap.size w.heap.size (w.heap.size + 1) w1.heap.size gA cs r5.length gL cL _ _ _ _ r1 r5 RR w3 from ⟨Kd.R_mono (Kd.R_bound (Kd.R_below HZ.out hb3)) fun q hq => hq.2.2.1, Kd.S_mono (Kd.S_bound (Kd.S_below HS.out hb3)) fun q hq => hq.2.2.1, by have h5 := Kd.S_mono (ok' := fun q => q < w3.heap.size) (Kd.S_bound (Kd.S_lower hl HB2.out.size)) fun q hq => hq.2.2.1; rw [HSH.out.1, ← HLE.out] at h5; exact h5, bkB HG1.out hb3, bkB HG2.out hb3, bkB HG3.out hb3, ⟨blk_lt (bkB HG1.out hb3), blk_lt (bkB HG2.out hb3), blk_lt (bkB HG3.out hb3)⟩, blT HB2.out hb3, Nat.le_refl _⟩)
  have HGO := Zs0.mk (show w.heap.size ≤ w1.heap.size from HB1.out.size)
  clear x0 x1 x2 x3 x4 y0 y1 y2 y3 y4 u0 u1 u2 u3 u4 z0 z1 z2 z3 z4 s0 s1 s2 s3 s4 t0 t1 t2 t3 t4 hl hb3 HG1 HG2 HG3 HZ HS HB1 HB2
  generalize w1.heap.size = go at HCS HGO ⊢
  go_wp2
  go_loopg [5] l0_4.length (fun gg s5 wr => ∃ x : Int, s5 = .int .i64 x ∧ Zs0 (InvS w w.heap.size (w.heap.size + 1) go gA cs gL cL #[.slice A0_0 l0_0.length c0_0, .int .i64 a0_1, .int .i64 a0_2, .int .i64 a0_3, .slice A0_4 l0_4.length c0_4] #[.slice none 0 0, .int .i64 0, .int .i64 0, .int .i64 0, .slice none 0 0] #[.slice Az r1.length cz, .int .i64 r2, .int .i64 r3, .int .i64 r4, .slice (some ⟨gA, 0, none⟩) r5.length cs] (.slice Az r1.length cz) r1 l0_4 r5 RR x gg wr))
  case atStart => exact ⟨0, rfl, ⟨⟨0, rfl, Nat.zero_le _, by omega, HCS.out⟩⟩⟩
  case round =>
    clear HCS
    obtain ⟨x5, rfl, HI⟩ := hrel
    obtain ⟨i, hi, hi1, hi2, hC⟩ := HI.out
    have HC := Zs0.mk hC
    obtain ⟨x0, x1, x2, x3, x4, y0, y1, y2, y3, y4⟩ := bx5 hC.g
    by_cases hlt : x5 < (l0_4.length : Int)
    · have c5b0 : decide (x5 < (l0_4.length : Int)) = true := decide_eq_true hlt
      have hin : i < l0_4.length := by omega
      have hp : 0 ≤ x5 := by omega
      obtain ⟨ad, Ac, cc, ea, e0, e1, e2, e3, e4, elc, eC⟩ := at_T47 HR4.out x5 hp hlt
      subst ea
      replace e0 := pw_cell_below hC.bel e0
      replace e1 := pw_cell_below hC.bel e1
      replace e2 := pw_cell_below hC.bel e2
      replace e3 := pw_cell_below hC.bel e3
      replace e4 := pw_cell_below hC.bel e4
      have hbk0 : r47 l0_4 x5 = l0_4.getD i z47 := by
        unfold r47
        rw [show x5.toNat = i by omega]
      have hok : BlkOk a0_3 l0_4.length (r47 l0_4 x5) := by
        rw [hbk0, List.getD_eq_getElem?_getD, List.getElem?_eq_getElem hin]
        exact HBK.out _ (List.getElem_mem hin)
      have HOK := Zs0.mk hok
      have HBB := Zs0.mk hbk0
      have HEC := Zs0.mk eC
      have HEL := Zs0.mk elc
      clear hok hbk0 eC elc
      generalize r47 l0_4 x5 = bk at *
      obtain ⟨Al, cl, l0, lf, ll, lC⟩ := rr_get hC.l i (by rw [HLE.out]; exact hin)
      obtain ⟨X0, hX0⟩ : ∃ X0, X0 = row RR i := ⟨_, rfl⟩
      rw [← hX0] at l0 ll lC
      have HLC := Zs0.mk lC
      have HLL := Zs0.mk ll
      have HXL := Zs0.mk (show X0.length = a0_3.toNat by rw [hX0]; exact HSH.out.2 i hin)
      have HX0 := Zs0.mk hX0
      have HII := Zs0.mk (show (i : Int) = x5 ∧ i < l0_4.length ∧ l0_4.length - i ≤ gk ∧ x5.toNat = i from ⟨hi, hin, hi2, by omega⟩)
      rw [← (show x5.toNat = i by omega)] at l0
      have p5 := eq_true hp
      have q5 := eq_true hlt
      have r5q := eq_true (show x5 < (r5.length : Int) by rw [HLE.out]; exact hlt)
      clear HI hi hi1 hi2 hC hin hp hlt lC ll lf hX0
      go_wp2_with fail
      have l1 := pw_cell_below (blA (Below.refl wr.heap.size wr) (.cells #[.slice Ac bk.f0.length cc, .int .i64 bk.f1, .int .i64 bk.f2, .int .i64 bk.f3, .int .i64 bk.f4] 47)) l0
      have T1 := Zs0.mk (show Below wr.heap.size wr (wr.alloc (.cells #[.slice Ac bk.f0.length cc, .int .i64 bk.f1, .int .i64 bk.f2, .int .i64 bk.f3, .int .i64 bk.f4] 47)) from blA (Below.refl _ _) _)
      go_cut [7] (fun s7 wc => Zs0 (MidC w wr.heap.size w.heap.size (w.heap.size + 1) go gA cs r5.length gL cL #[.slice A0_0 l0_0.length c0_0, .int .i64 a0_1, .int .i64 a0_2, .int .i64 a0_3, .slice (some ad) l0_4.length c0_4] #[.slice none 0 0, .int .i64 0, .int .i64 0, .int .i64 0, .slice none 0 0] #[.slice Az r1.length cz, .int .i64 r2, .int .i64 r3, .int .i64 r4, .slice (some ⟨gA, 0, none⟩) r5.length cs] (.slice Az r1.length cz) r1 #[.slice Ac bk.f0.length cc, .int .i64 bk.f1, .int .i64 bk.f2, .int .i64 bk.f3, .int .i64 bk.f4] (cleanS l0_4 r5 RR i) RR (jumpL bk X0) s7 wc))
      case first =>
        go_region_with (go_at_call 43; refine (spec_l08Behind.calls _ _ bk.f0 bk.f1 bk.f2 bk.f3 bk.f4 _ _ X0 (jumpL bk X0) _ (Kd.cD2 (Kd.cA1 (Kd.cB1 HEC.out HC.out.bel) _)) HEL.out (Kd.cD2 (Kd.cA1 HLC.out _)) HLL.out (behind_s HOK.out X0 (by rw [HXL.out]; have := HSS.out; omega) HSS.out.2)).mono ?_; rintro e w7 ⟨v7, rfl, ho7, hb7⟩)
        all_goals go_wp2
        all_goals go_meet
        all_goals (exact ⟨HC.out.below (blT (below_drew T1.out) hb7), Kd.R_lower (Kd.R_mono (Kd.R_bound ho7) fun q hq => Nat.le_trans (below_drew T1.out).size hq.2.1) (below_drew (blA HC.out.bel _)).size, bkB (bk1 (heap_alloc_new wr (.cells #[.slice Ac bk.f0.length cc, .int .i64 bk.f1, .int .i64 bk.f2, .int .i64 bk.f3, .int .i64 bk.f4] 47))) hb7⟩)
      case rest =>
        obtain ⟨A7, c7, e7⟩ := Kd.R_slice hcut.out.2.1
        subst e7
        have M0 := Zs0.mk hcut.out
        have HNZ := Zs0.mk (show w.heap.size ≤ wr.heap.size from HC.out.bel.size)
        have HNB := Zs0.mk (show gA < wr.heap.size from (Kd.S_R HC.out.b).1 gA rfl)
        clear hcut T1 e0 e1 e2 e3 e4 l0 l1 x0 x1 x2 x3 x4 y0 y1 y2 y3 y4 HC HLC
        generalize wr.heap.size = N at M0 HNZ HNB ⊢
        obtain ⟨x0, x1, x2, x3, x4, y0, y1, y2, y3, y4⟩ := bx5 M0.out.2.2
        go_wp2_with (first
          | ((with_reducible refine gtD (N := 37) rfl ?_); refine Kd.R_lit k57 _ 57 ?hg (N := 37) ?hd (xs := ([] : List S57)) (inner := []) (ok := fun _ => True) (okp := fun _ => True) ?hr ?hp (fun _ hk => hk) trivial (Below.refl _ _) (Nat.le_refl _) (by simp) ?_; (case hd => rfl); (case hg => rfl); (case hr => first | (go_simp; done) | (go_simp; rfl)); (case hp => exact (Reps.none _ _)); intro v37 w37 ho hb hg_ hnew_; clear hg_ hnew_; have R37 := Zs0.mk (Kd.R_lower (Kd.R_mono (ok' := fun q => N ≤ q) (Kd.R_bound ho) fun q hq => Nat.le_trans M0.out.1.sz hq.2.1) M0.out.1.bel.size); have M37 := Zs0.mk (show MidC w N w.heap.size (w.heap.size + 1) go gA cs r5.length gL cL #[.slice A0_0 l0_0.length c0_0, .int .i64 a0_1, .int .i64 a0_2, .int .i64 a0_3, .slice (some ad) l0_4.length c0_4] #[.slice none 0 0, .int .i64 0, .int .i64 0, .int .i64 0, .slice none 0 0] #[.slice Az r1.length cz, .int .i64 r2, .int .i64 r3, .int .i64 r4, .slice (some ⟨gA, 0, none⟩) r5.length cs] (.slice Az r1.length cz) r1 #[.slice Ac bk.f0.length cc, .int .i64 bk.f1, .int .i64 bk.f2, .int .i64 bk.f3, .int .i64 bk.f4] (cleanS l0_4 r5 RR i) RR (jumpL bk X0) (.slice A7 (jumpL bk X0).length c7) w37 from ⟨M0.out.1.below hb, Kd.R_below M0.out.2.1 hb, bkB M0.out.2.2 hb⟩); clear ho hb M0; clear x0 x1 x2 x3 x4 y0 y1 y2 y3 y4; obtain ⟨x0, x1, x2, x3, x4, y0, y1, y2, y3, y4⟩ := bx5 M37.out.2.2))
        go_loopg [8, 9] bk.f0.length (fun gg s8 s9 wr => ∃ x : Int, s9 = .int .i64 x ∧ Zs0 (InvT w N w.heap.size (w.heap.size + 1) go gA cs r5.length gL cL #[.slice A0_0 l0_0.length c0_0, .int .i64 a0_1, .int .i64 a0_2, .int .i64 a0_3, .slice (some ad) l0_4.length c0_4] #[.slice none 0 0, .int .i64 0, .int .i64 0, .int .i64 0, .slice none 0 0] #[.slice Az r1.length cz, .int .i64 r2, .int .i64 r3, .int .i64 r4, .slice (some ⟨gA, 0, none⟩) r5.length cs] (.slice Az r1.length cz) r1 #[.slice Ac bk.f0.length cc, .int .i64 bk.f1, .int .i64 bk.f2, .int .i64 bk.f3, .int .i64 bk.f4] (cleanS l0_4 r5 RR i) RR bk.f0 (jumpL bk X0) (.slice A7 (jumpL bk X0).length c7) s8 x gg wr))
        case atStart => exact ⟨_, rfl, ⟨⟨bk.f0.length, (by have := HOK.out.2.1; rw [wrap_ok (by omega) (by omega)]), Nat.le_refl _, Nat.le_refl _, by rw [List.drop_length]; exact M37.out, by rw [List.drop_length]; exact R37.out⟩⟩⟩
        case round =>
          clear M37 R37 x0 x1 x2 x3 x4 y0 y1 y2 y3 y4
          obtain ⟨x9, rfl, HI⟩ := hrel
          by_cases hlt : 0 ≤ x9
          · have c9b0 : decide (0 ≤ x9) = true := decide_eq_true hlt
            obtain ⟨m, hm, hm1, hm2, hM, hR⟩ := HI.out
            obtain ⟨kq, rfl⟩ : ∃ kq, m = kq + 1 := ⟨m - 1, by omega⟩
            have hkl : kq < bk.f0.length := by omega
            have hkx : x9 = (kq : Int) := by omega
            have hx9 : x9 < (bk.f0.length : Int) := by omega
            obtain ⟨ys, hys⟩ : ∃ ys, ys = (cleanC (bk.f0.drop (kq + 1)) (jumpL bk X0)).1 := ⟨_, rfl⟩
            obtain ⟨Y, hY⟩ : ∃ Y, Y = (cleanC (bk.f0.drop (kq + 1)) (jumpL bk X0)).2 := ⟨_, rfl⟩
            rw [← hys] at hR
            rw [← hY] at hM
            obtain ⟨A8, c8, e8⟩ := Kd.R_slice hR
            subst e8
            obtain ⟨adc, ea, e0, e1, e2, e3, e4, e5, e6⟩ := at_T57 (Kd.cB1 HEC.out hM.1.bel) x9 hlt hx9
            subst ea
            have hxk : r57 bk.f0 x9 = bk.f0[kq] := by rw [hkx]; exact rdIIt _ _ hkl
            rw [hxk] at e0 e1 e2 e3 e4 e5 e6
            obtain ⟨xk, hxk2⟩ : ∃ xk, xk = bk.f0[kq] := ⟨_, rfl⟩
            rw [← hxk2] at e0 e1 e2 e3 e4 e5 e6
            have HST := Zs0.mk (show StepOk a0_3 xk by rw [hxk2]; exact HOK.out.1 _ (List.getElem_mem _))
            have HYL := Zs0.mk (show Y.length = X0.length by rw [hY, cleanC_len, jumpL_len])
            have HYS2 := Zs0.mk (show ys.length ≤ 1000 by rw [hys]; have := cleanC_le (bk.f0.drop (kq + 1)) (jumpL bk X0); have h5 := HOK.out.2.1; rw [List.length_drop] at this; omega)
            have HM := Zs0.mk hM
            have HR := Zs0.mk hR
            have HK := Zs0.mk (show (kq : Int) = x9 ∧ kq < bk.f0.length ∧ kq + 1 ≤ gk from ⟨hkx.symm, hkl, hm2⟩)
            have HYS := Zs0.mk hys
            have HY := Zs0.mk hY
            have HXK := Zs0.mk hxk2
            obtain ⟨x0, x1, x2, x3, x4, y0, y1, y2, y3, y4⟩ := bx5 hM.2.2
            have p9 := eq_true hlt
            have q9 := eq_true hx9
            clear HI hm hm1 hm2 hM hR hkx hx9 hys hY hxk hxk2 hlt
            go_wp2_with fail
            go_at_call 44
            refine (spec_l01In.calls _ _ _ _ _ (in_plain xk)).mono ?_
            rintro e w1 ⟨rfl, hd⟩
            have hb := hd.below
            have T1 := Zs0.mk (blT (blA (Below.refl wr.heap.size wr) (.cells #[.int .i64 xk.f0, .int .i64 xk.f1, .int .i64 xk.f2, .int .i64 xk.f3, .int .i64 xk.f4, .int .i64 xk.f5, .string xk.f6] 57)) hb)
            have HX1 := Zs0.mk (bkB (heap_alloc_new wr (.cells #[.int .i64 xk.f0, .int .i64 xk.f1, .int .i64 xk.f2, .int .i64 xk.f3, .int .i64 xk.f4, .int .i64 xk.f5, .string xk.f6] 57)) hb)
            have HM1 := Zs0.mk (show MidC w N w.heap.size (w.heap.size + 1) go gA cs r5.length gL cL #[.slice A0_0 l0_0.length c0_0, .int .i64 a0_1, .int .i64 a0_2, .int .i64 a0_3, .slice (some ad) l0_4.length c0_4] #[.slice none 0 0, .int .i64 0, .int .i64 0, .int .i64 0, .slice none 0 0] #[.slice Az r1.length cz, .int .i64 r2, .int .i64 r3, .int .i64 r4, .slice (some ⟨gA, 0, none⟩) r5.length cs] (.slice Az r1.length cz) r1 #[.slice (some adc) bk.f0.length cc, .int .i64 bk.f1, .int .i64 bk.f2, .int .i64 bk.f3, .int .i64 bk.f4] (cleanS l0_4 r5 RR i) RR Y (.slice A7 (jumpL bk X0).length c7) w1 from ⟨HM.out.1.below T1.out, Kd.R_below HM.out.2.1 T1.out, bkB HM.out.2.2 T1.out⟩)
            have HR1 := Zs0.mk (Kd.R_below HR.out T1.out)
            clear hd hb T1 HM HR e0 e1 e2 e3 e4 e5 e6 x0 x1 x2 x3 x4 y0 y1 y2 y3 y4
            generalize wr.heap.size = gx at HX1 ⊢
            obtain ⟨g0, g1, g2, g3, g4, g5, g6, j0, j1, j2, j3, j4, j5, j6⟩ := bx7 HX1.out
            obtain ⟨pl, hpl⟩ : ∃ pl, pl = plainB xk := ⟨_, rfl⟩
            rw [← hpl]
            have HPL := Zs0.mk hpl.symm
            clear hpl
            cases pl with
            | false =>
              obtain ⟨k2, hk2⟩ := (ahead_ev HST.out Y (by rw [HYL.out, HXL.out]; have := HSS.out; omega)).rounds
              have HK2 := Zs0.mk hk2
              clear hk2
              go_wp2_with fail
              go_at_call 45
              refine (spec_l08Ahead.calls k2 _ _ _ _ _ _ _ (fun q => some q = (Value.slice A7 (jumpL bk X0).length c7).ownBlock) _ _ _ w w1 HM1.out.1.bel (Kd.R_tight rfl HM1.out.2.1) HK2.out).mono ?_
              rintro e w2 ⟨rfl, hR2, hB2, hK2⟩
              have hT : ∀ q, some q = (Value.slice A7 (jumpL bk X0).length c7).ownBlock → isT w1 q 4 := fun q hq => Kd.R_typed HM1.out.2.1 q hq.symm
              have hNo : ∀ q, some q = (Value.slice A7 (jumpL bk X0).length c7).ownBlock → N ≤ q := fun q hq => HM1.out.2.1.1 q hq.symm
              have HM2 := Zs0.mk (show MidC w N w.heap.size (w.heap.size + 1) go gA cs r5.length gL cL #[.slice A0_0 l0_0.length c0_0, .int .i64 a0_1, .int .i64 a0_2, .int .i64 a0_3, .slice (some ad) l0_4.length c0_4] #[.slice none 0 0, .int .i64 0, .int .i64 0, .int .i64 0, .slice none 0 0] #[.slice Az r1.length cz, .int .i64 r2, .int .i64 r3, .int .i64 r4, .slice (some ⟨gA, 0, none⟩) r5.length cs] (.slice Az r1.length cz) r1 #[.slice (some adc) bk.f0.length cc, .int .i64 bk.f1, .int .i64 bk.f2, .int .i64 bk.f3, .int .i64 bk.f4] (cleanS l0_4 r5 RR i) RR (backL xk Y) (.slice A7 (jumpL bk X0).length c7) w2 from ⟨HM1.out.1.step (fun q hq hl => hK2.2 q hl fun e => Nat.lt_irrefl _ (Nat.lt_of_lt_of_le hq (hNo q e))) hB2 hK2.1, Kd.R_mono hR2 fun q hq => hq.elim (hNo q) (Nat.le_trans HM1.out.1.sz), B_kty HM1.out.2.2 hK2 hT (by decide)⟩)
              have HR2 := Zs0.mk (R_kty HR1.out hK2 hT (by decide))
              have hx2 := B_kty HX1.out hK2 hT (by decide)
              obtain ⟨f0, f1, f2, f3, f4, f5, f6, h0, h1, h2, h3, h4, h5, h6⟩ := bx7 hx2
              clear hR2 hB2 hK2 hT hNo hx2 HM1 HR1 HX1 HK2 g0 g1 g2 g3 g4 g5 g6 j0 j1 j2 j3 j4 j5 j6
              go_wp2_with (first
                | ((with_reducible refine gtD (N := 66) rfl ?_); refine Kd.R_lit k57 _ 57 ?hg (N := 66) ?hd (xs := [xk]) (inner := [.int .i64 xk.f0, .int .i64 xk.f1, .int .i64 xk.f2, .int .i64 xk.f3, .int .i64 xk.f4, .int .i64 xk.f5, .string xk.f6]) (ok := fun _ => True) (okp := fun _ => True) ?hr ?hp (fun _ hk => hk) trivial (Below.refl _ _) (Nat.le_refl _) (by simp) ?_; (case hd => rfl); (case hg => rfl); (case hr => first | (go_simp; done) | (go_simp; rfl)); (case hp => exact Reps.snoc (Reps.none _ _) (k57_mkM _ _ _ xk) rfl); intro v66 w66 ho hb hg_ hnew_; clear hg_; have R66 := Zs0.mk (Kd.R_lower (Kd.R_mono (ok' := fun q => N ≤ q) (Kd.R_bound ho) fun q hq => Nat.le_trans HM2.out.1.sz hq.2.1) HM2.out.1.bel.size); have M66 := Zs0.mk (show MidC w N w.heap.size (w.heap.size + 1) go gA cs r5.length gL cL #[.slice A0_0 l0_0.length c0_0, .int .i64 a0_1, .int .i64 a0_2, .int .i64 a0_3, .slice (some ad) l0_4.length c0_4] #[.slice none 0 0, .int .i64 0, .int .i64 0, .int .i64 0, .slice none 0 0] #[.slice Az r1.length cz, .int .i64 r2, .int .i64 r3, .int .i64 r4, .slice (some ⟨gA, 0, none⟩) r5.length cs] (.slice Az r1.length cz) r1 #[.slice (some adc) bk.f0.length cc, .int .i64 bk.f1, .int .i64 bk.f2, .int .i64 bk.f3, .int .i64 bk.f4] (cleanS l0_4 r5 RR i) RR (backL xk Y) (.slice A7 (jumpL bk X0).length c7) w66 from ⟨HM2.out.1.below hb, Kd.R_below HM2.out.2.1 hb, bkB HM2.out.2.2 hb⟩); have N66 := Zs0.mk (show ∃ b, v66.ownBlock = some b ∧ N ≤ b from by obtain ⟨b, h1, h2⟩ := hnew_; exact ⟨b, h1, Nat.le_trans HM2.out.1.sz h2⟩); have C66 := Zs0.mk (Kd.R_below HR2.out hb); clear ho hb hnew_ HM2 HR2)
                | ((with_reducible refine gate_builtin (b := .append) (xs := #[.tmp 66, .tmp 67]) rfl ?_); at_builtin; refine Kd.R_append_rows k57 (w0 := w) w.heap.size rfl (.tmp 66) (.tmp 67) 45 57 (.agg #[(.int .i64 0), (.int .i64 0), (.int .i64 0), (.int .i64 0), (.int .i64 0), (.int .i64 0), (.string ⟨#[]⟩)]) 64 rfl Try.underlying45 info57 rfl (by decide) (by omega) v66 [xk] ys _ _ _ (fun q => N ≤ q) (fun _ => False) rfl rfl R66.out (Kd.R_reads' C66.out).2.2 (fun _ _ h => h) (fun _ h => h.elim) (fun q hq => Nat.le_trans M66.out.1.sz hq) M66.out.1.bel M66.out.1.bel.size (by have := HYS2.out; rw [List.length_singleton]; omega) ?_; intro v68 w68 ho hb hg hat; have R68 := Zs0.mk ho; have M68 := Zs0.mk (show MidC w N w.heap.size (w.heap.size + 1) go gA cs r5.length gL cL #[.slice A0_0 l0_0.length c0_0, .int .i64 a0_1, .int .i64 a0_2, .int .i64 a0_3, .slice (some ad) l0_4.length c0_4] #[.slice none 0 0, .int .i64 0, .int .i64 0, .int .i64 0, .slice none 0 0] #[.slice Az r1.length cz, .int .i64 r2, .int .i64 r3, .int .i64 r4, .slice (some ⟨gA, 0, none⟩) r5.length cs] (.slice Az r1.length cz) r1 #[.slice (some adc) bk.f0.length cc, .int .i64 bk.f1, .int .i64 bk.f2, .int .i64 bk.f3, .int .i64 bk.f4] (cleanS l0_4 r5 RR i) RR (backL xk Y) (.slice A7 (jumpL bk X0).length c7) w68 from ⟨M66.out.1.step (fun q hq hl => hg.block q hl fun e => by obtain ⟨b, h1, h2⟩ := N66.out; rw [h1] at e; injection e with e; omega) hb hg.size, Kd.R_over' M66.out.2.1 (Kd.R_typed R66.out) (by decide) hg, blk_grown M66.out.2.2 hg (Kd.R_ne R66.out M66.out.2.2 (by decide))⟩); clear ho hb hg hat R66 M66 N66 C66))
              go_roundg kq
              case measure => exact HK.out.2.2
              case rel =>
                refine ⟨_, rfl, ⟨invT_next HK.out HOK.out.2.1 ((clean_keep HK.out.2.1 ?_).trans ?_) M68.out R68.out⟩⟩
                · rw [← HXK.out, ← HY.out]
                  exact fun h => by rw [HPL.out] at h; exact absurd h.1 (by simp)
                · rw [← HXK.out, ← HY.out, ← HYS.out]
                  rfl
            | true =>
              obtain ⟨hn4, hn6⟩ := plain_ne HPL.out
              obtain ⟨D0, D1⟩ := HST.out.2 hn4 hn6
              have hDl : xk.f1 < (Y.length : Int) := by rw [HYL.out, HXL.out]; have := HSS.out; omega
              obtain ⟨al, eal, hv⟩ := Kd.at_bool (by have h9 := (Kd.R_reads' HM1.out.2.1).2.2; exact h9) xk.f1 D0 hDl
              subst eal
              have hDl2 : xk.f1 < ((jumpL bk X0).length : Int) := by rw [jumpL_len, ← HYL.out]; exact hDl
              have hrg : rdOf false Y xk.f1 = gb Y xk.f1.toNat := rfl
              rw [hrg] at hv
              have pD := eq_true D0
              have qD := eq_true hDl2
              obtain ⟨gbv, hgb⟩ : ∃ b, b = gb Y xk.f1.toNat := ⟨_, rfl⟩
              rw [← hgb] at hv
              have HGB := Zs0.mk hgb.symm
              clear D0 D1 hDl hDl2 hrg hgb hn4 hn6
              cases gbv with
              | true =>
                obtain ⟨k2, hk2⟩ := (ahead_ev HST.out Y (by rw [HYL.out, HXL.out]; have := HSS.out; omega)).rounds
                have HK2 := Zs0.mk hk2
                clear hk2
                go_wp2_with fail
                go_at_call 45
                refine (spec_l08Ahead.calls k2 _ _ _ _ _ _ _ (fun q => some q = (Value.slice (some al) (jumpL bk X0).length c7).ownBlock) _ _ _ w w1 HM1.out.1.bel (Kd.R_tight rfl HM1.out.2.1) HK2.out).mono ?_
                rintro e w2 ⟨rfl, hR2, hB2, hK2⟩
                have hT : ∀ q, some q = (Value.slice (some al) (jumpL bk X0).length c7).ownBlock → isT w1 q 4 := fun q hq => Kd.R_typed HM1.out.2.1 q hq.symm
                have hNo : ∀ q, some q = (Value.slice (some al) (jumpL bk X0).length c7).ownBlock → N ≤ q := fun q hq => HM1.out.2.1.1 q hq.symm
                have HM2 := Zs0.mk (show MidC w N w.heap.size (w.heap.size + 1) go gA cs r5.length gL cL #[.slice A0_0 l0_0.length c0_0, .int .i64 a0_1, .int .i64 a0_2, .int .i64 a0_3, .slice (some ad) l0_4.length c0_4] #[.slice none 0 0, .int .i64 0, .int .i64 0, .int .i64 0, .slice none 0 0] #[.slice Az r1.length cz, .int .i64 r2, .int .i64 r3, .int .i64 r4, .slice (some ⟨gA, 0, none⟩) r5.length cs] (.slice Az r1.length cz) r1 #[.slice (some adc) bk.f0.length cc, .int .i64 bk.f1, .int .i64 bk.f2, .int .i64 bk.f3, .int .i64 bk.f4] (cleanS l0_4 r5 RR i) RR (backL xk Y) (.slice (some al) (jumpL bk X0).length c7) w2 from ⟨HM1.out.1.step (fun q hq hl => hK2.2 q hl fun e => Nat.lt_irrefl _ (Nat.lt_of_lt_of_le hq (hNo q e))) hB2 hK2.1, Kd.R_mono hR2 fun q hq => hq.elim (hNo q) (Nat.le_trans HM1.out.1.sz), B_kty HM1.out.2.2 hK2 hT (by decide)⟩)
                have HR2 := Zs0.mk (R_kty HR1.out hK2 hT (by decide))
                have hx2 := B_kty HX1.out hK2 hT (by decide)
                obtain ⟨f0, f1, f2, f3, f4, f5, f6, h0, h1, h2, h3, h4, h5, h6⟩ := bx7 hx2
                clear hR2 hB2 hK2 hT hNo hx2 HM1 HR1 HX1 HK2 g0 g1 g2 g3 g4 g5 g6 j0 j1 j2 j3 j4 j5 j6
                go_wp2_with (first
                  | ((with_reducible refine gtD (N := 66) rfl ?_); refine Kd.R_lit k57 _ 57 ?hg (N := 66) ?hd (xs := [xk]) (inner := [.int .i64 xk.f0, .int .i64 xk.f1, .int .i64 xk.f2, .int .i64 xk.f3, .int .i64 xk.f4, .int .i64 xk.f5, .string xk.f6]) (ok := fun _ => True) (okp := fun _ => True) ?hr ?hp (fun _ hk => hk) trivial (Below.refl _ _) (Nat.le_refl _) (by simp) ?_; (case hd => rfl); (case hg => rfl); (case hr => first | (go_simp; done) | (go_simp; rfl)); (case hp => exact Reps.snoc (Reps.none _ _) (k57_mkM _ _ _ xk) rfl); intro v66 w66 ho hb hg_ hnew_; clear hg_; have R66 := Zs0.mk (Kd.R_lower (Kd.R_mono (ok' := fun q => N ≤ q) (Kd.R_bound ho) fun q hq => Nat.le_trans HM2.out.1.sz hq.2.1) HM2.out.1.bel.size); have M66 := Zs0.mk (show MidC w N w.heap.size (w.heap.size + 1) go gA cs r5.length gL cL #[.slice A0_0 l0_0.length c0_0, .int .i64 a0_1, .int .i64 a0_2, .int .i64 a0_3, .slice (some ad) l0_4.length c0_4] #[.slice none 0 0, .int .i64 0, .int .i64 0, .int .i64 0, .slice none 0 0] #[.slice Az r1.length cz, .int .i64 r2, .int .i64 r3, .int .i64 r4, .slice (some ⟨gA, 0, none⟩) r5.length cs] (.slice Az r1.length cz) r1 #[.slice (some adc) bk.f0.length cc, .int .i64 bk.f1, .int .i64 bk.f2, .int .i64 bk.f3, .int .i64 bk.f4] (cleanS l0_4 r5 RR i) RR (backL xk Y) (.slice (some al) (jumpL bk X0).length c7) w66 from ⟨HM2.out.1.below hb, Kd.R_below HM2.out.2.1 hb, bkB HM2.out.2.2 hb⟩); have N66 := Zs0.mk (show ∃ b, v66.ownBlock = some b ∧ N ≤ b from by obtain ⟨b, h1, h2⟩ := hnew_; exact ⟨b, h1, Nat.le_trans HM2.out.1.sz h2⟩); have C66 := Zs0.mk (Kd.R_below HR2.out hb); clear ho hb hnew_ HM2 HR2)
                  | ((with_reducible refine gate_builtin (b := .append) (xs := #[.tmp 66, .tmp 67]) rfl ?_); at_builtin; refine Kd.R_append_rows k57 (w0 := w) w.heap.size rfl (.tmp 66) (.tmp 67) 45 57 (.agg #[(.int .i64 0), (.int .i64 0), (.int .i64 0), (.int .i64 0), (.int .i64 0), (.int .i64 0), (.string ⟨#[]⟩)]) 64 rfl Try.underlying45 info57 rfl (by decide) (by omega) v66 [xk] ys _ _ _ (fun q => N ≤ q) (fun _ => False) rfl rfl R66.out (Kd.R_reads' C66.out).2.2 (fun _ _ h => h) (fun _ h => h.elim) (fun q hq => Nat.le_trans M66.out.1.sz hq) M66.out.1.bel M66.out.1.bel.size (by have := HYS2.out; rw [List.length_singleton]; omega) ?_; intro v68 w68 ho hb hg hat; have R68 := Zs0.mk ho; have M68 := Zs0.mk (show MidC w N w.heap.size (w.heap.size + 1) go gA cs r5.length gL cL #[.slice A0_0 l0_0.length c0_0, .int .i64 a0_1, .int .i64 a0_2, .int .i64 a0_3, .slice (some ad) l0_4.length c0_4] #[.slice none 0 0, .int .i64 0, .int .i64 0, .int .i64 0, .slice none 0 0] #[.slice Az r1.length cz, .int .i64 r2, .int .i64 r3, .int .i64 r4, .slice (some ⟨gA, 0, none⟩) r5.length cs] (.slice Az r1.length cz) r1 #[.slice (some adc) bk.f0.length cc, .int .i64 bk.f1, .int .i64 bk.f2, .int .i64 bk.f3, .int .i64 bk.f4] (cleanS l0_4 r5 RR i) RR (backL xk Y) (.slice (some al) (jumpL bk X0).length c7) w68 from ⟨M66.out.1.step (fun q hq hl => hg.block q hl fun e => by obtain ⟨b, h1, h2⟩ := N66.out; rw [h1] at e; injection e with e; omega) hb hg.size, Kd.R_over' M66.out.2.1 (Kd.R_typed R66.out) (by decide) hg, blk_grown M66.out.2.2 hg (Kd.R_ne R66.out M66.out.2.2 (by decide))⟩); clear ho hb hg hat R66 M66 N66 C66))
                go_roundg kq
                case measure => exact HK.out.2.2
                case rel =>
                  refine ⟨_, rfl, ⟨invT_next HK.out HOK.out.2.1 ((clean_keep HK.out.2.1 ?_).trans ?_) M68.out R68.out⟩⟩
                  · rw [← HXK.out, ← HY.out]
                    exact fun h => by rw [HGB.out] at h; exact absurd h.2 (by simp)
                  · rw [← HXK.out, ← HY.out, ← HYS.out]
                    rfl
              | false =>
                go_wp2
                go_roundg kq
                case measure => exact HK.out.2.2
                case rel =>
                  refine ⟨_, rfl, ⟨invT_next HK.out HOK.out.2.1 ((clean_skip HK.out.2.1 (by rw [← HXK.out]; exact HPL.out) (by rw [← HXK.out, ← HY.out]; exact HGB.out)).trans ?_) HM1.out HR1.out⟩⟩
                  rw [← HY.out, ← HYS.out]
          · have c9b0 : decide (0 ≤ x9) = false := decide_eq_false hlt
            obtain ⟨m, hm, hm1, hm2, hM, hR⟩ := HI.out
            obtain rfl : m = 0 := by omega
            rw [List.drop_zero] at hM hR
            obtain ⟨⟨uv, huv⟩, hfz, hS⟩ := hM.1.store i (by rw [HLE.out]; exact HII.out.2.1) hR
            have HS := Zs0.mk hS
            obtain ⟨x0, x1, x2, x3, x4, y0, y1, y2, y3, y4⟩ := bx5 hM.1.o
            have he := HII.out.2.2.2
            rw [← he] at huv hfz
            obtain ⟨A8, c8, e8⟩ := Kd.R_slice hR
            subst e8
            have r5q : (x5 < (r5.length : Int)) = True := eq_true (by rw [HLE.out]; have := HII.out; omega)
            have p5 : (0 ≤ x5) = True := eq_true (by have := HII.out; omega)
            clear HI hm hm1 hm2 hM hR hS hlt he
            go_wp2
            go_roundg (l0_4.length - (i + 1))
            case measure => have := HII.out; omega
            case rel =>
              refine ⟨_, rfl, ⟨⟨i + 1, ?_, HII.out.2.1, Nat.le_refl _, ?_⟩⟩⟩
              · have := HII.out
                have := HN.out
                rw [wrap_ok (by omega) (by omega)]
                omega
              · have h1 := HS.out.raise
                rw [cleanS, ← HBB.out, ← HX0.out, HII.out.2.2.2]
                exact h1
    · have c5b0 : decide (x5 < (l0_4.length : Int)) = false := decide_eq_false hlt
      obtain rfl : i = l0_4.length := by omega
      obtain ⟨s0, s1, s2, s3, s4, t0, t1, t2, t3, t4⟩ := bx5 hC.o
      obtain ⟨u0, u1, u2, u3, u4, z0, z1, z2, z3, z4⟩ := bx5 hC.r
      clear HI hi hi1 hi2 hC hlt
      go_wp2
      refine bodyPost_ret (results_cell_row rfl _ _ (w.heap.size + 1) 29 #[.slice Az r1.length cz, .int .i64 r2, .int .i64 r3, .int .i64 r4, .slice (some ⟨gA, 0, none⟩) r5.length cs] (0, 0) _ rfl (put5c HC.out.r _ _ _ _ _) Try.underlying29 rfl (by kernel_rfl)) rfl ?_
      have hk := ((((((Kept.refl wr (fun q => q = w.heap.size + 1)).setCell (p := ⟨w.heap.size + 1, 0, none⟩) (.inl rfl) (.slice Az r1.length cz)).setCell (p := ⟨w.heap.size + 1, 1, none⟩) (.inl rfl) (.int .i64 r2)).setCell (p := ⟨w.heap.size + 1, 2, none⟩) (.inl rfl) (.int .i64 r3)).setCell (p := ⟨w.heap.size + 1, 3, none⟩) (.inl rfl) (.int .i64 r4)).setCell (p := ⟨w.heap.size + 1, 4, none⟩) (.inl rfl) (.slice (some ⟨gA, 0, none⟩) r5.length cs))
      have hT : ∀ q, q = w.heap.size + 1 → isT wr q 29 := fun q hq => by rw [hq]; exact ⟨_, HC.out.r⟩
      refine ⟨.slice Az r1.length cz, .slice (some ⟨gA, 0, none⟩) r5.length cs, rfl, Kd.R_mono (R_kty HC.out.z hk hT (by decide)) fun _ _ => trivial, Kd.S_mono (S_kty HC.out.b hk hT (by decide)) fun _ _ => trivial, ?_⟩
      exact blS (blS (blS (blS (blS HC.out.bel (Nat.le_succ _)) (Nat.le_succ _)) (Nat.le_succ _)) (Nat.le_succ _)) (Nat.le_succ _)
theorem spec_Clean.calls (k : Nat) (A0_0 : Option Addr) (c0_0 : Nat) (l0_0 : List Int) (a0_1 : Int) (a0_2 : Int) (a0_3 : Int) (A0_4 : Option Addr) (c0_4 : Nat) (l0_4 : List S47) (r1 : List Int) (r2 : Int) (r3 : Int) (r4 : Int) (r5 : List S47) (w : World) (hr0_0 : Kd.C (Kd.int .i64) w A0_0 l0_0.length l0_0) (hc0_0 : l0_0.length ≤ c0_0) (hr0_4 : Kd.C k47 w A0_4 l0_4.length l0_4) (hc0_4 : l0_4.length ≤ c0_4) (h : spec_Clean.f k l0_0 a0_1 a0_2 a0_3 l0_4 = some (r1, r2, r3, r4, r5)) :
    Calls Try.prog 19 #[.agg #[.slice A0_0 l0_0.length c0_0, .int .i64 a0_1, .int .i64 a0_2, .int .i64 a0_3, .slice A0_4 l0_4.length c0_4]] w fun e w' => ∃ v0_ v4_ : Value, e = .returned (.agg #[v0_, .int .i64 r2, .int .i64 r3, .int .i64 r4, v4_]) ∧ Kd.R (Kd.int .i64) 3 w' w.heap.size (fun _ => True) v0_ r1 ∧ Kd.S k47 47 w' w.heap.size (fun _ => True) v4_ r5 ∧ Below w.heap.size w w' := by
  unfold spec_Clean.f at h
  obtain ⟨⟨g1, g2, g3, g4, g5⟩, e2, h⟩ := Option.bind_eq_some_iff.mp h
  obtain ⟨t, e1, h⟩ := Option.bind_eq_some_iff.mp h
  split at h
  · rename_i ht
    subst ht
    obtain ⟨RR, e3, h⟩ := Option.bind_eq_some_iff.mp h
    split at h
    · rename_i hc
      obtain ⟨hG, hle, hS⟩ := hc
      obtain ⟨hs, hn, hb⟩ := okG_blk hG
      have h6 := Option.some.inj h
      injection h6 with h1 h6
      injection h6 with h2 h6
      injection h6 with h3 h6
      injection h6 with h4 h5
      subst h1 h2 h3 h4 h5
      exact cleanS_yes k A0_0 c0_0 l0_0 a0_1 a0_2 a0_3 A0_4 c0_4 l0_4 g1 g2 g3 g4 g5 RR w hr0_0 hc0_0 hr0_4 hc0_4 e1 e2 e3 hs hn hle hb (okR_shp hS)
    · cases h
  · rename_i ht
    have ht2 : t = false := by simpa using ht
    subst ht2
    have h6 := Option.some.inj h
    injection h6 with h1 h6
    injection h6 with h2 h6
    injection h6 with h3 h6
    injection h6 with h4 h5
    subst h1 h2 h3 h4 h5
    exact cleanS_no k A0_0 c0_0 l0_0 a0_1 a0_2 a0_3 A0_4 c0_4 l0_4 g1 g2 g3 g4 g5 w hr0_0 hc0_0 hr0_4 hc0_4 e1 e2
end Go.Proofs.Ytcbpbnkoolpibaa.P
