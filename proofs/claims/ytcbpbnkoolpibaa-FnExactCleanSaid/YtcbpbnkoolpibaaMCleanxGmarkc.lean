/- Marking the blocks of a graph that is the call's own: what the rows hold behind it, too. Conditions: the row is the call's own. -/
import Derived.Test.YtcbpbnkoolpibaaMClean0b
set_option maxHeartbeats 4000000
set_option maxRecDepth 100000
set_option linter.unusedVariables false
set_option linter.unusedSimpArgs false
namespace Go.Proofs.Ytcbpbnkoolpibaa.Gr
open RowKit P YtcbpbnkoolpibaaW.wA YtcbpbnkoolpibaaW.wB YtcbpbnkoolpibaaW.wC Aux
def mkB (l : List S57) (p : Int) : S47 := ⟨l, p, wrap64 (p + 1), wrap64 (wrap64 (p + 1) + 1), wrap64 (wrap64 (wrap64 (p + 1) + 1) + 1)⟩
def markBc (k : Nat) : List S47 → Int → Option (Int × List S47)
  | [], a => some (a, [])
  | b :: bs, a => (laws_markInstrS.f k b.f0 a).bind fun p => (markBc k bs (wrap64 (wrap64 (wrap64 (wrap64 (p.1 + 1) + 1) + 1) + 1))).bind fun q => some (q.1, mkB p.2 p.1 :: q.2)
def InvC (k : Nat) (n : Nat) (r : Int) (xs' : List S47) (P : Nat → Prop) (g c : Nat) (w0 w : World) (x1 x5 : Int) (gg : Nat) (wr : World) : Prop :=
  ∃ (j : Nat) (ys rs : List S47), (j : Int) = x5 ∧ j ≤ n ∧ n - j ≤ gg ∧ ys.length = n ∧ markBc k (ys.drop j) x1 = some (r, rs) ∧ xs' = ys.take j ++ rs ∧ Kd.S k47 47 wr w0.heap.size P (.slice (some ⟨g, 0, none⟩) n c) ys ∧ Below w0.heap.size w0 wr ∧ Kept w wr P
theorem markC_some (k : Nat) (n : Nat) (a r : Int) (xs' : List S47) (P : Nat → Prop) (g c : Nat) (w0 w : World) (hg : w0.heap.size ≤ g) (hPg : P g) (hmax : n ≤ 9223372036854775807) (h : InvC k n r xs' P g c w0 w a 0 n w) :
    Calls Try.prog 39 #[.slice (some ⟨g, 0, none⟩) n c, .int .i64 a] w fun e w' => e = .returned (.int .i64 r) ∧ Kd.S k47 47 w' w0.heap.size P (.slice (some ⟨g, 0, none⟩) n c) xs' ∧ Below w0.heap.size w0 w' ∧ Kept w w' P := by
  have huIB := Try.underlying47
  have HH := Zs0.mk h
  have HM := Zs0.mk hmax
  have HG := Zs0.mk hg
  have HP := Zs0.mk hPg
  clear h hmax hg hPg
  go_enter Try.func39, Try.ntmps39
  go_wp2
  go_loopg [1, 5] n (fun gg s1 s5 wr => ∃ x1 x5 : Int, s1 = .int .i64 x1 ∧ s5 = .int .i64 x5 ∧ Zs0 (InvC k n r xs' P g c w0 w x1 x5 gg wr))
  case atStart => exact ⟨a, 0, rfl, rfl, HH⟩
  case round =>
    obtain ⟨x1, x5, rfl, rfl, HI⟩ := hrel
    by_cases hlt : x5 < (n : Int)
    · have c4b0 : decide (x5 < (n : Int)) = true := decide_eq_true hlt
      have p101 : 0 ≤ x5 := by obtain ⟨kk, _, _, h1, _⟩ := HI.out; omega
      obtain ⟨j, ys, rs, hjx, hj1, hj2, hyl, hm, hxs, hS, hB, hK⟩ := HI.out
      have hjl : j < ys.length := by omega
      have hjn : (j : Int) < (n : Int) := by omega
      obtain ⟨oki, cs, hcl, hMM, hcc, hfr, hoki, hH⟩ := Kd.S_elem hS z47 (j : Int) (by omega) hjn
      have hgd : ys.getD (j : Int).toNat z47 = ys[j] := by rw [Int.toNat_natCast, List.getD_eq_getElem?_getD, List.getElem?_eq_getElem hjl]; rfl
      obtain ⟨yj, hyj⟩ : ∃ y, y = ys[j] := ⟨_, rfl⟩
      rw [hgd, ← hyj] at hMM
      obtain ⟨v0, rfl, hR⟩ := k47_openM hMM
      obtain ⟨Ac, cc, rfl⟩ := Kd.R_slice hR
      rw [List.drop_eq_getElem_cons hjl, ← hyj] at hm
      obtain ⟨⟨r1, r2⟩, hmi, hm2⟩ := Option.bind_eq_some_iff.mp hm
      obtain ⟨⟨q1, q2⟩, hm3, hm4⟩ := Option.bind_eq_some_iff.mp hm2
      have hm5 : q1 = r ∧ mkB r2 r1 :: q2 = rs := by
        have := Option.some.inj hm4
        exact ⟨congrArg Prod.fst this, congrArg Prod.snd this⟩
      obtain ⟨rfl, rfl⟩ := hm5
      have hne : ¬ oki g := fun h => (hoki g h).2 rfl
      have e5 : (j : Int).toNat * k47.sz = x5.toNat * 5 := by rw [hjx]; rfl
      rw [e5] at hcc
      have hb0 : ∃ bcs, wr.heap[g]? = some (.cells bcs 47 (0, 0)) := by
        obtain ⟨g', c', eg, _, _, hb, _⟩ := parts hS (by omega)
        injection eg with eg _ _
        injection eg with eg
        injection eg with eg _ _
        subst eg
        exact hb
      obtain ⟨bcs, hbcs⟩ := hb0
      have c0 := hcc 0 _ rfl
      have c1 := hcc 1 _ rfl
      have c2 := hcc 2 _ rfl
      have c3 := hcc 3 _ rfl
      have c4 := hcc 4 _ rfl
      rw [Nat.add_zero] at c0
      have hcall := Zs0.mk (laws_markInstrS.calls k oki (.slice Ac yj.f0.length cc) yj.f0 x1 r1 r2 w0 wr hB hR hmi)
      have HF := Zs0.mk (fun (w1 : World) (hk1 : Kept wr w1 oki) => (show w1.cell? ⟨g, x5.toNat * 5 + 1, none⟩ = some (.int .i64 yj.f1) ∧ w1.cell? ⟨g, x5.toNat * 5 + 2, none⟩ = some (.int .i64 yj.f2) ∧ w1.cell? ⟨g, x5.toNat * 5 + 3, none⟩ = some (.int .i64 yj.f3) ∧ w1.cell? ⟨g, x5.toNat * 5 + 4, none⟩ = some (.int .i64 yj.f4) ∧
          w1.frozen? ⟨g, x5.toNat * 5 + 1, none⟩ = false ∧ w1.frozen? ⟨g, x5.toNat * 5 + 2, none⟩ = false ∧ w1.frozen? ⟨g, x5.toNat * 5 + 3, none⟩ = false ∧ w1.frozen? ⟨g, x5.toNat * 5 + 4, none⟩ = false from
        ⟨cell_kept c1 hk1 hne, cell_kept c2 hk1 hne, cell_kept c3 hk1 hne, cell_kept c4 hk1 hne, blk_frozen (blk_kept hbcs hk1 hne) _, blk_frozen (blk_kept hbcs hk1 hne) _, blk_frozen (blk_kept hbcs hk1 hne) _, blk_frozen (blk_kept hbcs hk1 hne) _⟩))
      have HS2 := Zs0.mk (fun (w1 : World) (hk1 : Kept wr w1 oki) (hr1 : Kd.R k57 57 w1 w0.heap.size (fun k_ => oki k_ ∨ wr.heap.size ≤ k_) (.slice Ac yj.f0.length cc) r2) =>
        (Kd.S_seg0 (Kd.H_kept hH hk1 (fun q _ hn hs => hn hs)) (i := (j : Int)) (by omega) hjn (seg := [.int .i64 r1, .int .i64 (wrap64 (r1 + 1)), .int .i64 (wrap64 (wrap64 (r1 + 1) + 1)), .int .i64 (wrap64 (wrap64 (wrap64 (r1 + 1) + 1) + 1))]) (j := 1) (by show 1 + 4 ≤ 5; omega) (x' := mkB r2 r1) (okp := fun q => some q = (Value.slice Ac yj.f0.length cc).ownBlock)
          (k47_mkM w1 w0.heap.size _ (mkB r2 r1) (Kd.R_tight rfl hr1)) (fun q hq => hR.1 q hq.symm)).1)
      rw [e5] at HS2
      have HJX := Zs0.mk hjx
      have HJL := Zs0.mk hjl
      have HJ2 := Zs0.mk hj2
      have HYL := Zs0.mk hyl
      have HM3 := Zs0.mk hm3
      have HXS := Zs0.mk hxs
      have HK := Zs0.mk hK
      have HOKI := Zs0.mk hoki
      have hx0 := c0
      clear hcc hMM hH hS hB hR hmi hm hm2 hm4 hfr hgd hcl hbcs c0 c1 c2 c3 c4 e5 hoki hjx hjn hj1 hj2 hyl hm3 hxs hK hne hjl hyj
      replace p101 := eq_true p101
      replace hlt := eq_true hlt
      go_wp2_with (go_at_call 60; refine hcall.out.mono ?_; rintro e w1 ⟨rfl, hr1, hb1, hk1⟩; obtain ⟨g1, g2, g3, g4, f1, f2, f3, f4⟩ := HF.out w1 hk1; have HSS := Zs0.mk (HS2.out w1 hk1 hr1); have HB1 := Zs0.mk hb1; have HK1 := Zs0.mk hk1; clear hb1 hk1 hr1)
      go_roundg (gk - 1)
      case measure => have h1 := HJ2.out; have h2 := HJL.out; have h3 := HYL.out; omega
      case rel =>
        refine ⟨_, _, rfl, rfl, ⟨?_⟩⟩
        have h1 := HJ2.out
        have h2 := HJL.out
        have h3 := HM.out
        have h4 := HYL.out
        have h5 := HJX.out
        refine ⟨j + 1, ys.set j (mkB r2 r1), q2, ?_, by omega, by omega, by rw [List.length_set]; exact h4, ?_, ?_, ?_, ?_, ?_⟩
        · rw [wrap_ok (by omega) (by omega)]
          omega
        · rw [List.drop_set_of_lt (by omega)]
          exact HM3.out
        · rw [List.take_set, List.take_succ_eq_append_getElem h2]
          have : ((ys.take j ++ [ys[j]]).set j (mkB r2 r1)) = ys.take j ++ [mkB r2 r1] := by
            rw [List.set_append_right _ _ (by rw [List.length_take]; omega)]
            rw [List.length_take, Nat.min_eq_left (by omega), Nat.sub_self]
            rfl
          rw [this, List.append_assoc, List.singleton_append]
          exact HXS.out
        · have h6 := HSS.out
          rw [Int.toNat_natCast] at h6
          exact h6
        · exact blS (blS (blS (blS HB1.out HG.out) HG.out) HG.out) HG.out
        · exact ((((HK.out.then_ HK1.out fun q hq => .inl (HOKI.out q hq).1).setCell (.inl HP.out) _).setCell (.inl HP.out) _).setCell (.inl HP.out) _).setCell (.inl HP.out) _
    · have c4b0 : decide (x5 < (n : Int)) = false := decide_eq_false hlt
      have HL := Zs0.mk hlt
      clear hlt
      go_wp2
      go_ret
      obtain ⟨j, ys, rs, hjx, hj1, hj2, hyl, hm, hxs, hS, hB, hK⟩ := HI.out
      have h4 := HL.out
      rw [List.drop_eq_nil_of_le (by omega)] at hm
      have hm5 : x1 = r ∧ [] = rs := by
        have := Option.some.inj hm
        exact ⟨congrArg Prod.fst this, congrArg Prod.snd this⟩
      obtain ⟨rfl, rfl⟩ := hm5
      rw [List.append_nil, List.take_of_length_le (by omega)] at hxs
      subst hxs
      exact ⟨rfl, hS, hB, hK⟩
theorem markBlocksC_calls (k : Nat) (P : Nat → Prop) (v : Value) (xs xs' : List S47) (a r : Int) (w0 w : World) (hB : Below w0.heap.size w0 w) (ho : Kd.S k47 47 w w0.heap.size P v xs) (h : markBc k xs a = some (r, xs')) :
    Calls Try.prog 39 #[v, .int .i64 a] w fun e w' => e = .returned (.int .i64 r) ∧ Kd.S k47 47 w' w0.heap.size P v xs' ∧ Below w0.heap.size w0 w' ∧ Kept w w' P := by
  by_cases hne : 0 < xs.length
  · obtain ⟨g, c, rfl, h1, h2, h3, _⟩ := parts ho hne
    exact markC_some k xs.length a r xs' P g c w0 w h2 h1 (Kd.C_max (Kd.S_reads' ho).2.2) ⟨0, xs, xs', rfl, Nat.zero_le _, by omega, rfl, by rw [List.drop_zero]; exact h, by rw [List.take_zero, List.nil_append], ho, hB, Kept.refl _ _⟩
  · have hx : xs = [] := List.length_eq_zero_iff.1 (by omega)
    subst hx
    have h5 : a = r ∧ [] = xs' := by
      have := Option.some.inj h
      exact ⟨congrArg Prod.fst this, congrArg Prod.snd this⟩
    obtain ⟨rfl, rfl⟩ := h5
    obtain ⟨A, c, rfl⟩ := Kd.S_slice ho
    refine (markB_nil (.slice A 0 c) a w0 w (fun _ => False) A c hB).mono ?_
    rintro e w' ⟨rfl, hb, hk⟩
    exact ⟨rfl, Kd.S_kept ho hk (fun _ _ h => h), hb, hk.mono fun _ h => h.elim⟩
def markGc (k : Nat) (zs : List Int) (bs : List S47) (a : Int) : Option (Int × List Int × List S47) := (laws_markIntS.f k zs a).bind fun p => (markBc k bs p.1).bind fun q => some (q.1, p.2, q.2)
theorem markGraphC_calls (k : Nat) (P0 P4 : Nat → Prop) (A0 : Option Addr) (c0 : Nat) (zs zs' : List Int) (p v s : Int) (A4 : Option Addr) (c4 : Nat) (bs bs' : List S47) (a r : Int) (w0 w : World) (hB : Below w0.heap.size w0 w)
    (h0 : Kd.R (Kd.int .i64) 3 w w0.heap.size P0 (.slice A0 zs.length c0) zs) (h4 : Kd.S k47 47 w w0.heap.size P4 (.slice A4 bs.length c4) bs) (hd : ∀ q, P4 q → ¬ P0 q) (h : markGc k zs bs a = some (r, zs', bs')) :
    Calls Try.prog 12 #[.agg #[.slice A0 zs.length c0, .int .i64 p, .int .i64 v, .int .i64 s, .slice A4 bs.length c4], .int .i64 a] w fun e w' => e = .returned (.int .i64 r) ∧ Kd.C (Kd.int .i64) w' A0 zs'.length zs' ∧ zs'.length = zs.length ∧ Kd.C k47 w' A4 bs'.length bs' ∧ bs'.length = bs.length ∧ Below w0.heap.size w0 w' ∧ Kept w w' (fun q => P0 q ∨ P4 q) := by
  obtain ⟨⟨r1, z1⟩, e1, h⟩ := Option.bind_eq_some_iff.mp h
  obtain ⟨⟨r2, b1⟩, e2, h⟩ := Option.bind_eq_some_iff.mp h
  have h5 : r2 = r ∧ z1 = zs' ∧ b1 = bs' := by
    have := Option.some.inj h
    exact ⟨congrArg Prod.fst this, congrArg (fun x => x.2.1) this, congrArg (fun x => x.2.2) this⟩
  obtain ⟨rfl, rfl, rfl⟩ := h5
  have hu30 := Try.underlying29
  have H0 := Zs0.mk (show Kd.R (Kd.int .i64) 3 w w0.heap.size (fun q => P0 q ∧ q < w.heap.size) (.slice A0 zs.length c0) zs from Kd.R_mono (Kd.R_bound h0) fun q hq => ⟨hq.1, hq.2.2.1⟩)
  have H4 := Zs0.mk (show Kd.S k47 47 w w0.heap.size (fun q => P4 q ∧ q < w.heap.size) (.slice A4 bs.length c4) bs from Kd.S_mono (Kd.S_bound h4) fun q hq => ⟨hq.1, hq.2.2.1⟩)
  have HD := Zs0.mk hd
  have HE1 := Zs0.mk e1
  have HE2 := Zs0.mk e2
  have HB := Zs0.mk hB
  clear h0 h4 hd e1 e2 hB h
  go_enter Try.func12, Try.ntmps12
  go_wp2_with fail
  go_at_call 24
  refine (laws_markIntS.calls k (fun q => P0 q ∧ q < w.heap.size) _ zs a r1 _ w0 _ (blA HB.out _) (Kd.rA1 H0.out _) HE1.out).mono ?_
  rintro e w1 ⟨rfl, hr1, hb1, hk1⟩
  have hl1 := hk1.1
  have g4 := cell_kept (a := ⟨w.heap.size, 4, none⟩) (show _ = some (.slice A4 bs.length c4) by simp) hk1 (fun h => Nat.lt_irrefl _ h.2)
  have HB1 := Zs0.mk hb1
  have HK1 := Zs0.mk hk1
  have HR1 := Zs0.mk (Kd.R_mono (Kd.R_tight rfl hr1) fun q hq => (show P0 q ∧ q < w.heap.size from H0.out.1 q hq.symm))
  clear hb1 hk1 hr1
  go_wp2_with fail
  go_at_call 39
  refine (markBlocksC_calls k (fun q => P4 q ∧ q < w.heap.size) _ bs _ r1 _ w0 _ HB1.out (Kd.S_kept (Kd.S_alloc H4.out _) HK1.out (fun q h1 h2 => HD.out q h1.1 h2.1)) HE2.out).mono ?_
  rintro e w2 ⟨rfl, hs2, hb2, hk2⟩
  have HS2 := Zs0.mk hs2
  have HB2 := Zs0.mk hb2
  have HK2 := Zs0.mk hk2
  clear hs2 hb2 hk2
  go_wp2
  go_ret
  have hz := Kd.R_kept HR1.out HK2.out fun q h1 h2 => HD.out q h2.1 h1.1
  have z1 := Kd.R_reads' hz
  have z2 := Kd.S_reads' HS2.out
  refine ⟨rfl, z1.2.2, z1.1.symm, z2.2.2, z2.1.symm, HB2.out, ?_⟩
  exact (((Kept.refl w _).alloc _).then_ (HK1.out.mono (S' := fun q => P0 q ∨ P4 q) fun q h => Or.inl h.1) fun q h => .inl h).then_ HK2.out fun q h => .inl (.inr h.1)
end Go.Proofs.Ytcbpbnkoolpibaa.Gr
