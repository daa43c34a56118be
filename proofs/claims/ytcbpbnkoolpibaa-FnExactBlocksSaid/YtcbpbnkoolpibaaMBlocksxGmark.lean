/- Marking the blocks of a graph that is the call's own: the number that comes back, and that nothing is written but the graph's own rows. Conditions: the row is the call's own. -/
import Derived.Test.YtcbpbnkoolpibaaMBlocks0c
namespace Go.Proofs.Ytcbpbnkoolpibaa.Gr
open Go.RowKit Go.Proofs.Ytcbpbnkoolpibaa.P Go.Proofs.YtcbpbnkoolpibaaW.PrintWords Go.Proofs.YtcbpbnkoolpibaaW.PrintLast Go.Proofs.YtcbpbnkoolpibaaW.PrintMore Go.Proofs.Ytcbpbnkoolpibaa.Aux
set_option linter.unusedVariables false
set_option linter.unusedSimpArgs false
/-- The number behind the marks of blocks. -/
def markB (k : Nat) : List S47 → Int → Option Int
  | [], a => some a
  | b :: bs, a => (laws_markInstrS.f k b.f0 a).bind fun p => markB k bs (wrap64 (wrap64 (wrap64 (wrap64 (p.1 + 1) + 1) + 1) + 1))
/-- What is known of the rows from block j on. -/
def Bun (xs : List S47) (P : Nat → Prop) (oki : Nat → Nat → Prop) (g : Nat) (w0 w : World) (j : Nat) (wr : World) : Prop :=
  Below w0.heap.size w0 wr ∧ Kept w wr P ∧ (∃ cs, wr.heap[g]? = some (.cells cs 47 (0, 0))) ∧
    ∀ i, j ≤ i → i < xs.length → ∃ vc u1 u2 u3 u4, Kd.R k57 57 wr w0.heap.size (oki i) vc (rd_T47 xs (i : Int)).f0 ∧ wr.cell? ⟨g, i * 5, none⟩ = some vc ∧ wr.cell? ⟨g, i * 5 + 1, none⟩ = some (.int .i64 u1) ∧ wr.cell? ⟨g, i * 5 + 2, none⟩ = some (.int .i64 u2) ∧ wr.cell? ⟨g, i * 5 + 3, none⟩ = some (.int .i64 u3) ∧ wr.cell? ⟨g, i * 5 + 4, none⟩ = some (.int .i64 u4)
theorem cell_set_ne {w : World} {g i o : Nat} {t : TypeId} {cs : Array Value} {u v : Value} (hb : w.heap[g]? = some (.cells cs t (0, 0))) (h : w.cell? ⟨g, o, none⟩ = some v) (hne : o ≠ i) : (w.setCell ⟨g, i, none⟩ u).cell? ⟨g, o, none⟩ = some v := by
  rw [bkC (blk_set hb i u), Array.getElem?_setIfInBounds_ne (by omega)]
  rw [bkC hb] at h
  exact h
theorem Bun.set {xs : List S47} {P : Nat → Prop} {oki : Nat → Nat → Prop} {g : Nat} {w0 w : World} {j : Nat} {wr : World} (h : Bun xs P oki g w0 w j wr) (hPg : P g) (hg : w0.heap.size ≤ g) (hd : ∀ j q, oki j q → P q ∧ q ≠ g) {o : Nat} (ho : o < j * 5) (u : Value) : Bun xs P oki g w0 w j (wr.setCell ⟨g, o, none⟩ u) := by
  obtain ⟨h1, h2, ⟨cs, h3⟩, h4⟩ := h
  refine ⟨blS h1 hg, h2.setCell (.inl hPg) u, ⟨_, blk_set h3 o u⟩, fun i hi hl => ?_⟩
  obtain ⟨vc, u1, u2, u3, u4, c, d0, d1, d2, d3, d4⟩ := h4 i hi hl
  have : j * 5 ≤ i * 5 := Nat.mul_le_mul_right _ hi
  exact ⟨vc, u1, u2, u3, u4, Kd.R_far c (fun k hk => (hd i k hk).2) u, cell_set_ne h3 d0 (by omega), cell_set_ne h3 d1 (by omega), cell_set_ne h3 d2 (by omega), cell_set_ne h3 d3 (by omega), cell_set_ne h3 d4 (by omega)⟩
/-- Behind the marks of the steps of block j. -/
theorem Bun.call {xs : List S47} {P : Nat → Prop} {oki : Nat → Nat → Prop} {g : Nat} {w0 w : World} {j : Nat} {wr w1 : World} (h : Bun xs P oki g w0 w j wr) (hd : ∀ j q, oki j q → P q ∧ q ≠ g) (hj : ∀ j j' q, oki j q → oki j' q → j = j') (hB : Below w0.heap.size w0 w1) (hk : Kept wr w1 (oki j)) : Bun xs P oki g w0 w (j + 1) w1 := by
  obtain ⟨h1, h2, ⟨cs, h3⟩, h4⟩ := h
  have hne : ¬ oki j g := fun h => (hd j g h).2 rfl
  refine ⟨hB, h2.then_ hk (fun k hk => .inl (hd j k hk).1), ⟨cs, blk_kept h3 hk hne⟩, fun i hi hl => ?_⟩
  obtain ⟨vc, u1, u2, u3, u4, c, d0, d1, d2, d3, d4⟩ := h4 i (by omega) hl
  exact ⟨vc, u1, u2, u3, u4, Kd.R_kept c hk (fun k h1 h2 => by have := hj i j k h1 h2; omega), cell_kept d0 hk hne, cell_kept d1 hk hne, cell_kept d2 hk hne, cell_kept d3 hk hne, cell_kept d4 hk hne⟩
/-- What is known at the start of a round. -/
def InvB (k : Nat) (xs : List S47) (r : Int) (P : Nat → Prop) (oki : Nat → Nat → Prop) (g : Nat) (w0 w : World) (x1 x5 : Int) (gg : Nat) (wr : World) : Prop :=
  ∃ j : Nat, (j : Int) = x5 ∧ j ≤ xs.length ∧ xs.length - j ≤ gg ∧ markB k (xs.drop j) x1 = some r ∧ Bun xs P oki g w0 w j wr
set_option maxRecDepth 100000 in
set_option maxHeartbeats 4000000 in
theorem markB_nil (v : Value) (a : Int) (w0 w : World) (P : Nat → Prop) (A : Option Addr) (c : Nat) (hB : Below w0.heap.size w0 w) :
    Calls Try.prog 39 #[.slice A 0 c, .int .i64 a] w fun e w' => e = .returned (.int .i64 a) ∧ Below w0.heap.size w0 w' ∧ Kept w w' P := by
  have HB := Zs0.mk hB
  clear hB
  go_enter Try.func39, Try.ntmps39
  go_wp2
  go_loopg [1, 5] 1 (fun gg s1 s5 wr => s1 = .int .i64 a ∧ s5 = .int .i64 0 ∧ Zs0 (wr = w))
  case atStart => exact ⟨rfl, rfl, ⟨rfl⟩⟩
  case round =>
    obtain ⟨rfl, rfl, HW⟩ := hrel
    go_wp2
    go_ret
    obtain rfl := HW.out
    exact ⟨rfl, HB.out, Kept.refl _ _⟩
theorem facts5 {wr w1 : World} {g j : Nat} {ad : Addr} {m : Nat} {S : Nat → Prop} (e5 : ad.add m = ⟨g, j * 5, none⟩) (hk : Kept wr w1 S) (hne : ¬ S g) (hcs : ∃ cs, wr.heap[g]? = some (.cells cs 47 (0, 0)))
    {u1 u2 u3 u4 : Int} (h1 : wr.cell? ⟨g, j * 5 + 1, none⟩ = some (.int .i64 u1)) (h2 : wr.cell? ⟨g, j * 5 + 2, none⟩ = some (.int .i64 u2)) (h3 : wr.cell? ⟨g, j * 5 + 3, none⟩ = some (.int .i64 u3)) (h4 : wr.cell? ⟨g, j * 5 + 4, none⟩ = some (.int .i64 u4)) :
    w1.cell? ⟨(ad.add m).block, (ad.add m).off + 1, none⟩ = some (.int .i64 u1) ∧ w1.cell? ⟨(ad.add m).block, (ad.add m).off + 2, none⟩ = some (.int .i64 u2) ∧ w1.cell? ⟨(ad.add m).block, (ad.add m).off + 3, none⟩ = some (.int .i64 u3) ∧ w1.cell? ⟨(ad.add m).block, (ad.add m).off + 4, none⟩ = some (.int .i64 u4) ∧
      w1.frozen? ⟨(ad.add m).block, (ad.add m).off + 1, none⟩ = false ∧ w1.frozen? ⟨(ad.add m).block, (ad.add m).off + 2, none⟩ = false ∧ w1.frozen? ⟨(ad.add m).block, (ad.add m).off + 3, none⟩ = false ∧ w1.frozen? ⟨(ad.add m).block, (ad.add m).off + 4, none⟩ = false := by
  obtain ⟨cs, hcs⟩ := hcs
  have hb := blk_kept hcs hk hne
  have e1 : (ad.add m).block = g := by rw [e5]
  have e2 : (ad.add m).off = j * 5 := by rw [e5]
  rw [e1, e2]
  exact ⟨cell_kept h1 hk hne, cell_kept h2 hk hne, cell_kept h3 hk hne, cell_kept h4 hk hne, blk_frozen hb _, blk_frozen hb _, blk_frozen hb _, blk_frozen hb _⟩
set_option maxRecDepth 100000 in
set_option maxHeartbeats 4000000 in
theorem markB_some (k : Nat) (xs : List S47) (a r : Int) (P : Nat → Prop) (oki : Nat → Nat → Prop) (g c : Nat) (w0 w : World) (hPg : P g) (hg : w0.heap.size ≤ g) (hd : ∀ j q, oki j q → P q ∧ q ≠ g) (hj : ∀ j j' q, oki j q → oki j' q → j = j') (hmax : xs.length ≤ 9223372036854775807)
    (h : InvB k xs r P oki g w0 w a 0 xs.length w) :
    Calls Try.prog 39 #[.slice (some ⟨g, 0, none⟩) xs.length c, .int .i64 a] w fun e w' => e = .returned (.int .i64 r) ∧ Below w0.heap.size w0 w' ∧ Kept w w' P := by
  have hu49 := Try.underlying47
  have HH := Zs0.mk h
  have HD := Zs0.mk hd
  have HJ := Zs0.mk hj
  have HM := Zs0.mk hmax
  have HG := Zs0.mk hg
  have HP := Zs0.mk hPg
  clear h hd hj hmax hg hPg
  obtain ⟨ad, had⟩ : ∃ ad : Addr, ad = ⟨g, 0, none⟩ := ⟨_, rfl⟩
  rw [← had]
  have HA := Zs0.mk had
  clear had
  go_enter Try.func39, Try.ntmps39
  go_wp2
  go_loopg [1, 5] xs.length (fun gg s1 s5 wr => ∃ x1 x5 : Int, s1 = .int .i64 x1 ∧ s5 = .int .i64 x5 ∧ Zs0 (InvB k xs r P oki g w0 w x1 x5 gg wr))
  case atStart => exact ⟨a, 0, rfl, rfl, HH⟩
  case round =>
    obtain ⟨x1, x5, rfl, rfl, HI⟩ := hrel
    by_cases hlt : x5 < (xs.length : Int)
    · have c4b0 : decide (x5 < (xs.length : Int)) = true := decide_eq_true hlt
      have p101 : 0 ≤ x5 := by obtain ⟨kk, h1, _⟩ := HI.out; omega
      obtain ⟨j, hjx, hj1, hj2, hm, hbun⟩ := HI.out
      have HBU := Zs0.mk hbun
      obtain ⟨hB, hK, hcs, hrow⟩ := hbun
      have hjl : j < xs.length := by omega
      have hd' := HD.out
      obtain ⟨vc, u1, u2, u3, u4, hR, h0, h1, h2, h3, h4⟩ := hrow j (Nat.le_refl _) hjl
      obtain ⟨Ac, cc, rfl⟩ := Kd.R_slice hR
      have e5 : ad.add (x5.toNat * 5) = ⟨g, j * 5, none⟩ := by rw [HA.out, add_plain, ← hjx]; simp
      have hx0 : wr.cell? (ad.add (x5.toNat * 5)) = some (.slice Ac (rd_T47 xs (j : Int)).f0.length cc) := by rw [e5]; exact h0
      rw [List.drop_eq_getElem_cons hjl] at hm
      obtain ⟨⟨r1, r2⟩, hmi, hm2⟩ := Option.bind_eq_some_iff.mp hm
      have hrd : rd_T47 xs (j : Int) = xs[j] := by simp [rd_T47, List.getD_eq_getElem?_getD, List.getElem?_eq_getElem hjl]
      have HM2 := Zs0.mk hm2
      have hcall := Zs0.mk (laws_markInstrS.calls k (oki j) (.slice Ac (rd_T47 xs (j : Int)).f0.length cc) (rd_T47 xs (j : Int)).f0 x1 r1 r2 w0 wr hB hR (by rw [hrd]; exact hmi))
      have HF := Zs0.mk (fun (w1 : World) (hk1 : Kept wr w1 (oki j)) => facts5 e5 hk1 (fun h => (hd' j g h).2 rfl) hcs h1 h2 h3 h4)
      have HE := Zs0.mk e5
      have HJX := Zs0.mk hjx
      have HJL := Zs0.mk hjl
      have HJ2 := Zs0.mk hj2
      clear hd' hrow hK hcs hB hR hm hm2 hmi h0 h1 h2 h3 h4 hrd e5 hjx hjl hj1 hj2
      replace p101 := eq_true p101
      replace hlt := eq_true hlt
      go_wp2_with (go_at_call 60; refine hcall.out.mono ?_; rintro e w1 ⟨rfl, _, hb1, hk1⟩; obtain ⟨g1, g2, g3, g4, f1, f2, f3, f4⟩ := HF.out w1 hk1; have HB1 := Zs0.mk hb1; have HK1 := Zs0.mk hk1; clear hb1 hk1)
      go_roundg (gk - 1)
      case measure => have h1 := HJ2.out; have h2 := HJL.out; omega
      case rel =>
        refine ⟨_, _, rfl, rfl, ⟨?_⟩⟩
        have h1 := HJ2.out
        have h2 := HJL.out
        have h3 := HM.out
        refine ⟨j + 1, ?_, by omega, by omega, HM2.out, ?_⟩
        · rw [wrap_ok (by have := HJX.out; omega) (by have := HJX.out; omega)]
          have := HJX.out
          omega
        · have hb := HBU.out.call HD.out HJ.out HB1.out HK1.out
          rw [HE.out]
          dsimp only
          exact (((hb.set HP.out HG.out HD.out (by omega) _).set HP.out HG.out HD.out (by omega) _).set HP.out HG.out HD.out (by omega) _).set HP.out HG.out HD.out (by omega) _
    · have c4b0 : decide (x5 < (xs.length : Int)) = false := decide_eq_false hlt
      have HL := Zs0.mk hlt
      clear hlt
      go_wp2
      go_ret
      obtain ⟨j, hjx, hj1, hj2, hm, hB, hK, _⟩ := HI.out
      have h4 := HL.out
      rw [List.drop_eq_nil_of_le (by omega)] at hm
      obtain rfl := Option.some.inj hm
      exact ⟨rfl, hB, hK⟩
theorem markBlocks_calls (k : Nat) (P : Nat → Prop) (v : Value) (xs : List S47) (a r : Int) (w0 w : World) (hB : Below w0.heap.size w0 w) (ho : Kd.S k47 47 w w0.heap.size P v xs) (h : markB k xs a = some r) :
    Calls Try.prog 39 #[v, .int .i64 a] w fun e w' => e = .returned (.int .i64 r) ∧ Below w0.heap.size w0 w' ∧ Kept w w' P := by
  by_cases hne : 0 < xs.length
  · obtain ⟨g, c, rfl, h1, h2, h3, oki, h4, h5, h6⟩ := parts ho hne
    refine markB_some k xs a r P oki g c w0 w h1 h2 h4 h5 (Kd.C_max (Kd.S_reads' ho).2.2) ⟨0, rfl, Nat.zero_le _, by omega, by rw [List.drop_zero]; exact h, hB, Kept.refl _ _, h3, fun i _ hl => ?_⟩
    obtain ⟨vc, d, d0, d1, d2, d3, d4⟩ := h6 i hl
    exact ⟨vc, _, _, _, _, d, d0, d1, d2, d3, d4⟩
  · have hx : xs = [] := List.length_eq_zero_iff.1 (by omega)
    subst hx
    obtain rfl := Option.some.inj h
    obtain ⟨A, c, rfl⟩ := Kd.S_slice ho
    exact markB_nil (.slice A 0 c) a w0 w P A c hB
set_option maxRecDepth 100000 in
set_option maxHeartbeats 4000000 in
/-- Marking a graph that is the call's own: nothing but its own rows is written. -/
theorem markGraph_calls (k : Nat) (P0 P4 : Nat → Prop) (A0 : Option Addr) (c0 : Nat) (zs : List Int) (p v s : Int) (A4 : Option Addr) (c4 : Nat) (bs : List S47) (a r1 r : Int) (zs2 : List Int) (w0 w : World) (hB : Below w0.heap.size w0 w)
    (h0 : Kd.R (Kd.int .i64) 3 w w0.heap.size P0 (.slice A0 zs.length c0) zs) (h4 : Kd.S k47 47 w w0.heap.size P4 (.slice A4 bs.length c4) bs) (hd : ∀ q, P4 q → ¬ P0 q) (e1 : laws_markIntS.f k zs a = some (r1, zs2)) (e2 : markB k bs r1 = some r) :
    Calls Try.prog 12 #[.agg #[.slice A0 zs.length c0, .int .i64 p, .int .i64 v, .int .i64 s, .slice A4 bs.length c4], .int .i64 a] w fun e w' => e = .returned (.int .i64 r) ∧ Below w0.heap.size w0 w' ∧ Kept w w' (fun q => P0 q ∨ P4 q) := by
  have hu30 := Try.underlying29
  have H0 := Zs0.mk (show Kd.R (Kd.int .i64) 3 w w0.heap.size (fun q => P0 q ∧ q < w.heap.size) (.slice A0 zs.length c0) zs from Kd.R_mono (Kd.R_bound h0) fun q hq => ⟨hq.1, hq.2.2.1⟩)
  have H4 := Zs0.mk h4
  have HD := Zs0.mk hd
  have HE1 := Zs0.mk e1
  have HE2 := Zs0.mk e2
  have HB := Zs0.mk hB
  clear h0 h4 hd e1 e2 hB
  go_enter Try.func12, Try.ntmps12
  go_wp2_with (first | (go_at_call 24; refine (laws_markIntS.calls k (fun q => P0 q ∧ q < w.heap.size) _ zs a r1 zs2 w0 _ (blA HB.out _) (Kd.rA1 H0.out _) HE1.out).mono ?_; rintro e w1 ⟨rfl, _, hb1, hk1⟩; have hl1 := hk1.1; have g4 := cell_kept (a := ⟨w.heap.size, 4, none⟩) (show _ = some (.slice A4 bs.length c4) by simp) hk1 (fun h => Nat.lt_irrefl _ h.2); have HB1 := Zs0.mk hb1; have HK1 := Zs0.mk hk1; clear hb1 hk1) | (go_at_call 39; refine (markBlocks_calls k P4 _ bs r1 r w0 _ HB1.out (Kd.S_kept (Kd.S_alloc H4.out _) HK1.out (fun q h1 h2 => HD.out q h1 h2.1)) HE2.out).mono ?_; rintro e w2 ⟨rfl, hb2, hk2⟩))
  go_ret
  refine ⟨rfl, hb2, ?_⟩
  exact (((Kept.refl w _).alloc _).then_ (HK1.out.mono (S' := fun q => P0 q ∨ P4 q) fun q h => Or.inl h.1) fun q h => .inl h).then_ hk2 fun q h => .inl (.inr h)
end Go.Proofs.Ytcbpbnkoolpibaa.Gr
