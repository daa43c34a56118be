/- The law of Clean, walked by hand: the graph that came out is marked and held with its content. -/
import Derived.Test.YtcbpbnkoolpibaaMCleanxGcl
import Derived.Test.YtcbpbnkoolpibaaMCleanxGcs
import Derived.Test.YtcbpbnkoolpibaaMCleanxGmarkc
import Derived.Test.YtcbpbnkoolpibaaMClean0b
import Derived.Test.YtcbpbnkoolpibaaMClean0c
import Derived.Test.YtcbpbnkoolpibaaMClean0d
set_option maxHeartbeats 8000000
set_option maxRecDepth 100000
set_option linter.unusedVariables false
set_option linter.unusedSimpArgs false
namespace Go.Proofs.Ytcbpbnkoolpibaa.P
open RowKit YtcbpbnkoolpibaaW.wA YtcbpbnkoolpibaaW.wB YtcbpbnkoolpibaaW.wC Gr Aux
def lawClean (k : Nat) (zs : List Int) (p v s : Int) (bs : List S67) : Prop :=
  ∃ t, laws_szGraph.f k zs p v s bs 1048576 = some t ∧ (t < 0 ∨ ∃ x0 x1 x2 x3 x4 y0 y1 y2 y3 y4 g0 g1 g2 g3 g4 m1 z1 b1 m2 z2 b2, laws_toGraph.f k zs p v s bs = some (x0, x1, x2, x3, x4) ∧ spec_Clean.f k x0 x1 x2 x3 x4 = some (y0, y1, y2, y3, y4) ∧ impl_Clean.f k x0 x1 x2 x3 x4 = some (g0, g1, g2, g3, g4) ∧
    laws_eqGraph.f k g0 g1 g2 g3 g4 y0 y1 y2 y3 y4 = some true ∧ laws_eqGraph.f k x0 x1 x2 x3 x4 x0 x1 x2 x3 x4 = some true ∧ markGc k x0 x4 1 = some (m1, z1, b1) ∧ ¬ m1 < 0 ∧ markGc k g0 g4 1 = some (m2, z2, b2) ∧ laws_heldGraph.f k z2 g1 g2 g3 b2 1 = some m2 ∧ ¬ m2 < 0)
def PXc (w : World) (lo hi q : Nat) : Prop := (lo ≤ q ∧ q < hi) ∧ (isT w q 3 ∨ isT w q 47 ∨ isT w q 57)
theorem markXc (k : Nat) {A0 A4 : Option Addr} {c0 c4 : Nat} {zs zs' : List Int} {p v s r : Int} {bs bs' : List S47} {w0 w : World} {lo hi : Nat} (hlo : w0.heap.size ≤ lo) (hB : Below w0.heap.size w0 w) (h0 : Kd.R (Kd.int .i64) 3 w lo (fun q => q < hi) (.slice A0 zs.length c0) zs) (h4 : Kd.S k47 47 w lo (fun q => q < hi) (.slice A4 bs.length c4) bs) (h : markGc k zs bs 1 = some (r, zs', bs')) :
    Calls Try.prog 12 #[.agg #[.slice A0 zs.length c0, .int .i64 p, .int .i64 v, .int .i64 s, .slice A4 bs.length c4], .int .i64 1] w fun e w' => e = .returned (.int .i64 r) ∧ Kd.C (Kd.int .i64) w' A0 zs'.length zs' ∧ zs'.length = zs.length ∧ Kd.C k47 w' A4 bs'.length bs' ∧ bs'.length = bs.length ∧ Below w0.heap.size w0 w' ∧ Kept w w' (PXc w lo hi) := by
  have h0' : Kd.R (Kd.int .i64) 3 w lo (fun q => (lo ≤ q ∧ q < hi) ∧ isT w q 3) (.slice A0 zs.length c0) zs := Kd.R_mono (Kd.R_bound h0) fun q hq => by
    obtain ⟨h1, h2, _, e, he, hc⟩ := hq
    rcases List.mem_cons.1 he with rfl | he
    · exact ⟨⟨h2, h1⟩, hc⟩
    · exact absurd he (by simp [Kd.int, Kd.scalar])
  have h4' : Kd.S k47 47 w lo (fun q => (lo ≤ q ∧ q < hi) ∧ (isT w q 47 ∨ isT w q 57)) (.slice A4 bs.length c4) bs := Kd.S_mono (Kd.S_bound h4) fun q hq => by
    obtain ⟨h1, h2, _, e, he, hc⟩ := hq
    rcases List.mem_cons.1 he with rfl | he
    · exact ⟨⟨h2, h1⟩, .inl hc⟩
    · have : e = 57 := by simpa [k47, k57, Kd.iso, Kd.pair, Kd.slice, Kd.int, Kd.scalar, Kd.string] using he
      subst this
      exact ⟨⟨h2, h1⟩, .inr hc⟩
  refine (markGraphC_calls k _ _ A0 c0 zs zs' p v s A4 c4 bs bs' 1 r w0 w hB (Kd.R_lower h0' hlo) (Kd.S_lower h4' hlo) (fun q h4 h0 => ?_) h).mono ?_
  · rcases h4.2 with h4 | h4
    · exact absurd (isT_one h0.2 h4) (by decide)
    · exact absurd (isT_one h0.2 h4) (by decide)
  · rintro e w' ⟨rfl, a1, a2, a3, a4, hb, hk⟩
    exact ⟨rfl, a1, a2, a3, a4, hb, hk.1, fun q h1 h2 => hk.2 q h1 fun h => h2 (h.elim (fun h => ⟨h.1, .inl h.2⟩) (fun h => ⟨h.1, .inr h.2⟩))⟩
theorem boxXc {w w' : World} {lo hi g t : Nat} {cs : Array Value} (hk : Kept w w' (PXc w lo hi)) (h : w.heap[g]? = some (.cells cs t (0, 0))) (ht : t ≠ 3 ∧ t ≠ 47 ∧ t ≠ 57) : w'.heap[g]? = some (.cells cs t (0, 0)) := by
  refine (hk.2 g (blk_lt h) fun hp => ?_).trans h
  have h' : isT w g t := ⟨cs, h⟩
  rcases hp.2 with h2 | h2 | h2
  · exact ht.1 (isT_one h' h2)
  · exact ht.2.1 (isT_one h' h2)
  · exact ht.2.2 (isT_one h' h2)
theorem heldXc (k : Nat) {A0 A4 : Option Addr} {n c0 m c4 : Nat} {zs : List Int} {p v s a r : Int} {bs : List S47} {w : World} (h0 : Kd.C (Kd.int .i64) w A0 zs.length zs) (hn : zs.length = n) (hc0 : n ≤ c0) (h4 : Kd.C k47 w A4 bs.length bs) (hm : bs.length = m) (hc4 : m ≤ c4) (h : laws_heldGraph.f k zs p v s bs a = some r) :
    Calls Try.prog 13 #[.agg #[.slice A0 n c0, .int .i64 p, .int .i64 v, .int .i64 s, .slice A4 m c4], .int .i64 a] w fun e w' => e = .returned (.int .i64 r) ∧ Below w.heap.size w w' := by
  subst hn hm
  exact laws_heldGraph.calls k _ _ zs p v s _ _ bs a r w h0 hc0 h4 hc4 h
theorem lawClean_neg (k : Nat) (A0_0 : Option Addr) (c0_0 : Nat) (l0_0 : List Int) (a0_1 : Int) (a0_2 : Int) (a0_3 : Int) (A0_4 : Option Addr) (c0_4 : Nat) (l0_4 : List S67) (w : World) (hr0_0 : Kd.C (Kd.int .i64) w A0_0 l0_0.length l0_0) (hc0_0 : l0_0.length ≤ c0_0) (hr0_4 : Kd.C k67 w A0_4 l0_4.length l0_4) (hc0_4 : l0_4.length ≤ c0_4) (t : Int) (e1 : laws_szGraph.f k l0_0 a0_1 a0_2 a0_3 l0_4 1048576 = some t) (ht : t < 0) :
    Calls Try.prog 5 #[.agg #[.slice A0_0 l0_0.length c0_0, .int .i64 a0_1, .int .i64 a0_2, .int .i64 a0_3, .slice A0_4 l0_4.length c0_4]] w fun e w' => e = .returned (.bool true) ∧ Below w.heap.size w w' := by
  have huLG := Try.underlying25
  have huIG := Try.underlying29
  have HR0 := Zs0.mk hr0_0
  have HR4 := Zs0.mk hr0_4
  have HC0 := Zs0.mk hc0_0
  have HC4 := Zs0.mk hc0_4
  clear hr0_0 hr0_4 hc0_0 hc0_4
  have E1 := Zs0.mk e1
  clear e1
  have c0 : decide (t < 0) = true := decide_eq_true ht
  clear ht
  go_enter Try.func5, Try.ntmps5
  go_wp2_with fail
  go_at_call 7
  refine (laws_szGraph.calls k _ _ l0_0 a0_1 a0_2 a0_3 _ _ l0_4 _ _ _ (Kd.cA1 HR0.out _) HC0.out (Kd.cA1 HR4.out _) HC4.out E1.out).mono ?_
  rintro e w1 ⟨rfl, hb⟩
  have HB := Zs0.mk (show Below w.heap.size w w1 from blT (blA (Below.refl _ _) _) hb)
  clear hb
  go_wp2
  go_ret
  exact ⟨rfl, HB.out⟩
theorem lawClean_pos (k : Nat) (A0_0 : Option Addr) (c0_0 : Nat) (l0_0 : List Int) (a0_1 : Int) (a0_2 : Int) (a0_3 : Int) (A0_4 : Option Addr) (c0_4 : Nat) (l0_4 : List S67) (w : World) (hr0_0 : Kd.C (Kd.int .i64) w A0_0 l0_0.length l0_0) (hc0_0 : l0_0.length ≤ c0_0) (hr0_4 : Kd.C k67 w A0_4 l0_4.length l0_4) (hc0_4 : l0_4.length ≤ c0_4) (t : Int) (e1 : laws_szGraph.f k l0_0 a0_1 a0_2 a0_3 l0_4 1048576 = some t) (ht : ¬ t < 0) (x0 : List Int) (x1 x2 x3 : Int) (x4 : List S47) (y0 : List Int) (y1 y2 y3 : Int) (y4 : List S47) (g0 : List Int) (g1 g2 g3 : Int) (g4 : List S47) (m1 : Int) (z1 : List Int) (b1 : List S47) (m2 : Int) (z2 : List Int) (b2 : List S47)
    (e2 : laws_toGraph.f k l0_0 a0_1 a0_2 a0_3 l0_4 = some (x0, x1, x2, x3, x4)) (e3 : spec_Clean.f k x0 x1 x2 x3 x4 = some (y0, y1, y2, y3, y4)) (e4 : impl_Clean.f k x0 x1 x2 x3 x4 = some (g0, g1, g2, g3, g4)) (e5 : laws_eqGraph.f k g0 g1 g2 g3 g4 y0 y1 y2 y3 y4 = some true) (e6 : laws_eqGraph.f k x0 x1 x2 x3 x4 x0 x1 x2 x3 x4 = some true) (e7 : markGc k x0 x4 1 = some (m1, z1, b1)) (ht7 : ¬ m1 < 0) (e8 : markGc k g0 g4 1 = some (m2, z2, b2)) (e9 : laws_heldGraph.f k z2 g1 g2 g3 b2 1 = some m2) (ht8 : ¬ m2 < 0) :
    Calls Try.prog 5 #[.agg #[.slice A0_0 l0_0.length c0_0, .int .i64 a0_1, .int .i64 a0_2, .int .i64 a0_3, .slice A0_4 l0_4.length c0_4]] w fun e w' => e = .returned (.bool true) ∧ Below w.heap.size w w' := by
  have huLG := Try.underlying25
  have huIG := Try.underlying29
  have HR0 := Zs0.mk hr0_0
  have HR4 := Zs0.mk hr0_4
  have HC0 := Zs0.mk hc0_0
  have HC4 := Zs0.mk hc0_4
  clear hr0_0 hr0_4 hc0_0 hc0_4
  have E1 := Zs0.mk e1
  have E2 := Zs0.mk e2
  have E3 := Zs0.mk e3
  have E4 := Zs0.mk e4
  have E5 := Zs0.mk e5
  have E6 := Zs0.mk e6
  have E7 := Zs0.mk e7
  have E8 := Zs0.mk e8
  have E9 := Zs0.mk e9
  have c0 : decide (t < 0) = false := decide_eq_false ht
  have c1 : decide (m1 < 0) = false := decide_eq_false ht7
  have c2 : decide (m2 < 0) = false := decide_eq_false ht8
  clear e1 e2 e3 e4 e5 e6 e7 e8 e9 ht ht7 ht8
  go_enter Try.func5, Try.ntmps5
  go_wp2_with fail
  go_at_call 7
  refine (laws_szGraph.calls k _ _ l0_0 a0_1 a0_2 a0_3 _ _ l0_4 _ _ _ (Kd.cA1 HR0.out _) HC0.out (Kd.cA1 HR4.out _) HC4.out E1.out).mono ?_
  rintro e w1 ⟨rfl, hb⟩
  have HB := Zs0.mk (show Below w.heap.size w w1 from blT (blA (Below.refl _ _) _) hb)
  have K1 := Zs0.mk (bkB (heap_alloc_new w _) hb)
  clear hb
  obtain ⟨u0, u1, u2, u3, u4, v0, v1, v2, v3, v4⟩ := bx5 K1.out
  go_wp2_with fail
  go_at_call 9
  refine (laws_toGraph.calls k _ _ l0_0 a0_1 a0_2 a0_3 _ _ l0_4 _ _ _ _ _ _ (Kd.cB1 HR0.out HB.out) HC0.out (Kd.cB1 HR4.out HB.out) HC4.out E2.out).mono ?_
  rintro e w2 ⟨q0, q4, rfl, hz, hs, hb⟩
  obtain ⟨Az, cz, rfl⟩ := Kd.R_slice hz
  obtain ⟨As, cs, rfl⟩ := Kd.S_slice hs
  have HB2 := Zs0.mk (blT HB.out hb)
  have K12 := Zs0.mk (bkB K1.out hb)
  have T0 := Zs0.mk hz
  have T4 := Zs0.mk hs
  clear hb hz hs u0 u1 u2 u3 u4 v0 v1 v2 v3 v4 HB K1
  go_wp2_with fail
  go_at_call 19
  refine (spec_Clean.calls k _ _ x0 x1 x2 x3 _ _ x4 _ _ _ _ _ _ (Kd.R_reads' T0.out).2.2 (Kd.R_reads' T0.out).2.1 (Kd.S_reads' T4.out).2.2 (Kd.S_reads' T4.out).2.1 E3.out).mono ?_
  rintro e w3 ⟨q0, q4, rfl, hz, hs, hb⟩
  obtain ⟨Az, cz, rfl⟩ := Kd.R_slice hz
  obtain ⟨As, cs, rfl⟩ := Kd.S_slice hs
  have HB3 := Zs0.mk (blT HB2.out hb)
  have K13 := Zs0.mk (bkB K12.out hb)
  have W0 := Zs0.mk (Kd.R_bound (Kd.R_mono (ok' := fun _ => True) hz fun _ _ => trivial))
  have W4 := Zs0.mk (Kd.S_bound (Kd.S_mono (ok' := fun _ => True) hs fun _ _ => trivial))
  obtain ⟨u0, u1, u2, u3, u4, v0, v1, v2, v3, v4⟩ := bx5 K13.out
  have nk := blk_lt K13.out
  clear hb hz hs T0 T4 HB2 K12
  go_wp2_with fail
  go_at_call 9
  refine (laws_toGraph.calls k _ _ l0_0 a0_1 a0_2 a0_3 _ _ l0_4 _ _ _ _ _ _ (Kd.cA1 (Kd.cB1 HR0.out HB3.out) _) HC0.out (Kd.cA1 (Kd.cB1 HR4.out HB3.out) _) HC4.out E2.out).mono ?_
  rintro e w4 ⟨q0, q4, rfl, hz, hs, hb⟩
  obtain ⟨Ax, cx, rfl⟩ := Kd.R_slice hz
  obtain ⟨Bx, dx, rfl⟩ := Kd.S_slice hs
  have HX4 := Zs0.mk (show Below w3.heap.size w3 w4 from blT (blA (Below.refl _ _) _) hb)
  have K14 := Zs0.mk (bkB (bkA K13.out _) hb)
  have K44 := Zs0.mk (bkB (heap_alloc_new w3 _) hb)
  have W04 := Zs0.mk (Kd.R_mono (Kd.R_below (Kd.rA1 W0.out _) hb) (ok' := fun k => k < w3.heap.size) fun k hk => hk.2.2.1)
  have W44 := Zs0.mk (Kd.S_mono (Kd.S_below (Kd.S_alloc W4.out _) hb) (ok' := fun k => k < w3.heap.size) fun k hk => hk.2.2.1)
  have hsz : w3.heap.size ≤ (w3.alloc (.cells #[.slice Az y0.length cz, .int .i64 y1, .int .i64 y2, .int .i64 y3, .slice As y4.length cs] 29)).heap.size := by simp
  have X04 := Zs0.mk (Kd.R_bound (Kd.R_lower hz hsz))
  have X44 := Zs0.mk (Kd.S_bound (Kd.S_lower hs hsz))
  clear nk hb hz hs hsz K13 W0 W4 u0 u1 u2 u3 u4 v0 v1 v2 v3 v4
  go_wp2_with fail
  go_at_call 20
  refine (impl_Clean.calls k _ _ x0 x1 x2 x3 _ _ x4 _ _ _ _ _ _ (Kd.cA1 (Kd.R_reads' X04.out).2.2 _) (Kd.R_reads' X04.out).2.1 (Kd.cA1 (Kd.S_reads' X44.out).2.2 _) (Kd.S_reads' X44.out).2.1 E4.out).mono ?_
  rintro e w5 ⟨q0, q4, rfl, hz, hs, hb⟩
  obtain ⟨Ag, cg, rfl⟩ := Kd.R_slice hz
  obtain ⟨Bg, dg, rfl⟩ := Kd.S_slice hs
  have HX5 := Zs0.mk (show Below w3.heap.size w3 w5 from blT (blA HX4.out _) hb)
  have K15 := Zs0.mk (bkB (bkA K14.out _) hb)
  have K45 := Zs0.mk (bkB (bkA K44.out _) hb)
  have K55 := Zs0.mk (bkB (heap_alloc_new w4 _) hb)
  have W05 := Zs0.mk (Kd.R_below (Kd.rA1 W04.out _) hb)
  have W45 := Zs0.mk (Kd.S_below (Kd.S_alloc W44.out _) hb)
  have X05 := Zs0.mk (Kd.R_mono (Kd.R_below (Kd.rA1 X04.out _) hb) (ok' := fun k => k < w4.heap.size) fun k hk => hk.2.2.1)
  have X45 := Zs0.mk (Kd.S_mono (Kd.S_below (Kd.S_alloc X44.out _) hb) (ok' := fun k => k < w4.heap.size) fun k hk => hk.2.2.1)
  have hsz : w4.heap.size ≤ (w4.alloc (.cells #[.slice Ax x0.length cx, .int .i64 x1, .int .i64 x2, .int .i64 x3, .slice Bx x4.length dx] 29)).heap.size := by simp
  have G05 := Zs0.mk (Kd.R_lower hz hsz)
  have G45 := Zs0.mk (Kd.S_lower hs hsz)
  obtain ⟨u0, u1, u2, u3, u4, v0, v1, v2, v3, v4⟩ := bx5 K45.out
  have nk := blk_lt K45.out
  have HS := Zs0.mk HX4.out.size
  clear hb hz hs hsz HX4 K14 K44 W04 W44 X04 X44
  go_wp2_with fail
  go_at_call 11
  refine (laws_eqGraph.calls k _ _ g0 g1 g2 g3 _ _ g4 _ _ y0 y1 y2 y3 _ _ y4 true _ (Kd.cA1 (Kd.R_reads' G05.out).2.2 _) (Kd.R_reads' G05.out).2.1 (Kd.cA1 (Kd.S_reads' G45.out).2.2 _) (Kd.S_reads' G45.out).2.1 (Kd.cA1 (Kd.R_reads' W05.out).2.2 _) (Kd.R_reads' W05.out).2.1 (Kd.cA1 (Kd.S_reads' W45.out).2.2 _) (Kd.S_reads' W45.out).2.1 E5.out).mono ?_
  rintro e w6 ⟨rfl, hb⟩
  have HX6 := Zs0.mk (show Below w3.heap.size w3 w6 from blT (blA HX5.out _) hb)
  have K16 := Zs0.mk (bkB (bkA K15.out _) hb)
  have K46 := Zs0.mk (bkB (bkA K45.out _) hb)
  have K56 := Zs0.mk (bkB (bkA K55.out _) hb)
  have K66 := Zs0.mk (bkB (heap_alloc_new w5 _) hb)
  have W06 := Zs0.mk (Kd.R_below (Kd.rA1 W05.out _) hb)
  have W46 := Zs0.mk (Kd.S_below (Kd.S_alloc W45.out _) hb)
  have X06 := Zs0.mk (Kd.R_below (Kd.rA1 X05.out _) hb)
  have X46 := Zs0.mk (Kd.S_below (Kd.S_alloc X45.out _) hb)
  have G06 := Zs0.mk (Kd.R_below (Kd.rA1 G05.out _) hb)
  have G46 := Zs0.mk (Kd.S_below (Kd.S_alloc G45.out _) hb)
  clear nk hb HX5 K15 K45 K55 W05 W45 X05 X45 G05 G45 u0 u1 u2 u3 u4 v0 v1 v2 v3 v4
  go_wp2_with fail
  have HX7 := Zs0.mk (bl1 HX6.out)
  have K17 := Zs0.mk (bk1 K16.out)
  have K47 := Zs0.mk (bk1 K46.out)
  have K57 := Zs0.mk (bk1 K56.out)
  have K67 := Zs0.mk (bk1 K66.out)
  have W07 := Zs0.mk (Kd.rD2 W06.out)
  have W47 := Zs0.mk (Kd.S_drew W46.out)
  have X07 := Zs0.mk (Kd.rD2 X06.out)
  have X47 := Zs0.mk (Kd.S_drew X46.out)
  have G07 := Zs0.mk (Kd.rD2 G06.out)
  have G47 := Zs0.mk (Kd.S_drew G46.out)
  clear HX6 K16 K46 K56 K66 W06 W46 X06 X46 G06 G46
  refine start_ (n := 5) (S := fun w' => w'.cell? ⟨w4.heap.size, 0, none⟩ = some (.slice Ax x0.length cx) ∧ w'.cell? ⟨w4.heap.size, 1, none⟩ = some (.int .i64 x1) ∧ w'.cell? ⟨w4.heap.size, 2, none⟩ = some (.int .i64 x2) ∧ w'.cell? ⟨w4.heap.size, 3, none⟩ = some (.int .i64 x3) ∧ w'.cell? ⟨w4.heap.size, 4, none⟩ = some (.slice Bx x4.length dx) ∧ w'.cell? ⟨w.heap.size, 0, none⟩ = some (.slice A0_0 l0_0.length c0_0) ∧ w'.cell? ⟨w.heap.size, 1, none⟩ = some (.int .i64 a0_1) ∧ w'.cell? ⟨w.heap.size, 2, none⟩ = some (.int .i64 a0_2) ∧ w'.cell? ⟨w.heap.size, 3, none⟩ = some (.int .i64 a0_3) ∧ w'.cell? ⟨w.heap.size, 4, none⟩ = some (.slice A0_4 l0_4.length c0_4)) (ds := []) #[false, false, false, false, false] (by kernel_rfl) rfl rfl ⟨(bkC K57.out 0).trans rfl, (bkC K57.out 1).trans rfl, (bkC K57.out 2).trans rfl, (bkC K57.out 3).trans rfl, (bkC K57.out 4).trans rfl, (bkC K17.out 0).trans rfl, (bkC K17.out 1).trans rfl, (bkC K17.out 2).trans rfl, (bkC K17.out 3).trans rfl, (bkC K17.out 4).trans rfl⟩ (fun hHeld => ?_)
  generalize w6.drew = w7 at HX7 K17 K47 K57 K67 W07 W47 X07 X47 G07 G47 hHeld ⊢
  refine take_ (i := 0) (N := some 27) (v := ?_) (a' := ?_) #[true, false, false, false, false] rfl rfl (by kernel_rfl) (fun _ _ _ h => h) (Or.inl ⟨by rfl, ?_⟩) hHeld ?_ ?_
  rotate_left
  · rintro w' ⟨s0, s1, s2, s3, s4, s5, s6, s7, s8, s9⟩
    go_simp
    with_reducible rfl
  rotate_left
  · simp only [Act.put, List.setIfInBounds_toArray, List.set_cons_zero, List.set_cons_succ, i64_w, i32_w]
    rfl
  refine take_ (i := 1) (N := some 28) (v := ?_) (a' := ?_) #[true, true, false, false, false] rfl rfl (by kernel_rfl) (fun _ _ _ h => h) (Or.inl ⟨by rfl, ?_⟩) hHeld ?_ ?_
  rotate_left
  · rintro w' ⟨s0, s1, s2, s3, s4, s5, s6, s7, s8, s9⟩
    go_simp
    with_reducible rfl
  rotate_left
  · simp only [Act.put, List.setIfInBounds_toArray, List.set_cons_zero, List.set_cons_succ, i64_w, i32_w]
    rfl
  refine one_ (i := 2) (N := some 29) #[true, true, true, false, false] rfl rfl (by kernel_rfl) (by decide) (fun K hK => ?_)
  refine goes_ Try.func9 (by kernel_rfl) rfl #[.agg #[.slice A0_0 l0_0.length c0_0, .int .i64 a0_1, .int .i64 a0_2, .int .i64 a0_3, .slice A0_4 l0_4.length c0_4]] (by rfl) rfl rfl (by (try simp only [List.map_toArray, List.map_cons, List.map_nil]); first | done | rfl) ?_
  refine (laws_toGraph.calls k _ _ l0_0 a0_1 a0_2 a0_3 _ _ l0_4 _ _ _ _ _ _ (Kd.cB1 HR0.out (blT HB3.out HX7.out)) HC0.out (Kd.cB1 HR4.out (blT HB3.out HX7.out)) HC4.out E2.out).mono ?_
  rintro e w8 ⟨q0, q4, rfl, hz, hs, hb⟩
  obtain ⟨Az, cz, rfl⟩ := Kd.R_slice hz
  obtain ⟨As, cs, rfl⟩ := Kd.S_slice hs
  refine ⟨_, rfl, ?_⟩
  have HX8 := Zs0.mk (blT HX7.out hb)
  have K18 := Zs0.mk (bkB K17.out hb)
  have K48 := Zs0.mk (bkB K47.out hb)
  have K58 := Zs0.mk (bkB K57.out hb)
  have K68 := Zs0.mk (bkB K67.out hb)
  have W08 := Zs0.mk (Kd.R_below W07.out hb)
  have W48 := Zs0.mk (Kd.S_below W47.out hb)
  have X08 := Zs0.mk (Kd.R_below X07.out hb)
  have X48 := Zs0.mk (Kd.S_below X47.out hb)
  have G08 := Zs0.mk (Kd.R_below G07.out hb)
  have G48 := Zs0.mk (Kd.S_below G47.out hb)
  have C08 := Zs0.mk hz
  have C48 := Zs0.mk hs
  clear hb hz hs HX7 K17 K47 K57 K67 W07 W47 X07 X47 G07 G47
  refine hK.out _ _ ⟨(bkC K58.out 0).trans rfl, (bkC K58.out 1).trans rfl, (bkC K58.out 2).trans rfl, (bkC K58.out 3).trans rfl, (bkC K58.out 4).trans rfl, (bkC K18.out 0).trans rfl, (bkC K18.out 1).trans rfl, (bkC K18.out 2).trans rfl, (bkC K18.out 3).trans rfl, (bkC K18.out 4).trans rfl⟩ (fun hHeld => ?_)
  clear hK
  refine norm_ (a' := ?_) ?_ ?_
  rotate_left
  · show Act.put _ (some 29) _ = _
    simp only [Act.put, List.setIfInBounds_toArray, List.set_cons_zero, List.set_cons_succ, i64_w, i32_w]
    rfl
  refine one_ (i := 3) (N := some 30) #[true, true, true, true, false] rfl rfl (by kernel_rfl) (by decide) (fun K hK => ?_)
  refine goes_ Try.func11 (by kernel_rfl) rfl #[.agg #[.slice Ax x0.length cx, .int .i64 x1, .int .i64 x2, .int .i64 x3, .slice Bx x4.length dx], .agg #[.slice Az x0.length cz, .int .i64 x1, .int .i64 x2, .int .i64 x3, .slice As x4.length cs]] (by rfl) rfl rfl (by (try simp only [List.map_toArray, List.map_cons, List.map_nil]); first | done | rfl) ?_
  refine (laws_eqGraph.calls k _ _ x0 x1 x2 x3 _ _ x4 _ _ x0 x1 x2 x3 _ _ x4 true _ (Kd.R_reads' X08.out).2.2 (Kd.R_reads' X08.out).2.1 (Kd.S_reads' X48.out).2.2 (Kd.S_reads' X48.out).2.1 (Kd.R_reads' C08.out).2.2 (Kd.R_reads' C08.out).2.1 (Kd.S_reads' C48.out).2.2 (Kd.S_reads' C48.out).2.1 E6.out).mono ?_
  rintro e w9 ⟨rfl, hb⟩
  refine ⟨_, rfl, ?_⟩
  have HX9 := Zs0.mk (blT HX8.out hb)
  have K19 := Zs0.mk (bkB K18.out hb)
  have K49 := Zs0.mk (bkB K48.out hb)
  have K59 := Zs0.mk (bkB K58.out hb)
  have K69 := Zs0.mk (bkB K68.out hb)
  have W09 := Zs0.mk (Kd.R_below W08.out hb)
  have W49 := Zs0.mk (Kd.S_below W48.out hb)
  have X09 := Zs0.mk (Kd.R_below X08.out hb)
  have X49 := Zs0.mk (Kd.S_below X48.out hb)
  have G09 := Zs0.mk (Kd.R_below G08.out hb)
  have G49 := Zs0.mk (Kd.S_below G48.out hb)
  clear hb HX8 K18 K48 K58 K68 W08 W48 X08 X48 G08 G48 C08 C48
  refine hK.out _ _ ⟨(bkC K59.out 0).trans rfl, (bkC K59.out 1).trans rfl, (bkC K59.out 2).trans rfl, (bkC K59.out 3).trans rfl, (bkC K59.out 4).trans rfl, (bkC K19.out 0).trans rfl, (bkC K19.out 1).trans rfl, (bkC K19.out 2).trans rfl, (bkC K19.out 3).trans rfl, (bkC K19.out 4).trans rfl⟩ (fun hHeld => ?_)
  clear hK
  refine norm_ (a' := ?_) ?_ ?_
  rotate_left
  · show Act.put _ (some 30) _ = _
    simp only [Act.put, List.setIfInBounds_toArray, List.set_cons_zero, List.set_cons_succ, i64_w, i32_w]
    rfl
  refine pure_ (i := 4) (N := some 31) (v := ?_) (a' := ?_) #[true, true, true, true, true] rfl rfl (by kernel_rfl) (fun _ _ _ h => h) (Or.inl ⟨by rfl, ?_⟩) ?_ ?_
  rotate_left
  · intro w'
    go_simp
    with_reducible rfl
  rotate_left
  · simp only [Act.put, List.setIfInBounds_toArray, List.set_cons_zero, List.set_cons_succ, i64_w, i32_w]
    rfl
  refine done_ (by kernel_rfl) ?_
  obtain ⟨u0, u1, u2, u3, u4, v0, v1, v2, v3, v4⟩ := bx5 K59.out
  go_wp2_with fail
  go_at_call 12
  refine (markXc k (w0 := w3) (lo := w3.heap.size) (hi := w4.heap.size) (Nat.le_refl _) HX9.out X09.out X49.out E7.out).mono ?_
  rintro e w10 ⟨rfl, _, _, _, _, hb, hk⟩
  have HX10 := Zs0.mk hb
  have K110 := Zs0.mk (boxXc hk K19.out (by decide))
  have K410 := Zs0.mk (boxXc hk K49.out (by decide))
  have K610 := Zs0.mk (boxXc hk K69.out (by decide))
  have W010 := Zs0.mk (Kd.R_kept W09.out hk fun q h1 h2 => Nat.lt_irrefl _ (Nat.lt_of_lt_of_le h1 h2.1.1))
  have W410 := Zs0.mk (Kd.S_kept W49.out hk fun q h1 h2 => Nat.lt_irrefl _ (Nat.lt_of_lt_of_le h1 h2.1.1))
  have G010 := Zs0.mk (Kd.R_kept (Kd.R_bound G09.out) hk fun q h1 h2 => Nat.lt_irrefl _ (Nat.lt_of_lt_of_le h2.1.2 h1.2.1))
  have G410 := Zs0.mk (Kd.S_kept (Kd.S_bound G49.out) hk fun q h1 h2 => Nat.lt_irrefl _ (Nat.lt_of_lt_of_le h2.1.2 h1.2.1))
  clear hb hk HX9 K19 K49 K59 K69 W09 W49 X09 X49 G09 G49 u0 u1 u2 u3 u4 v0 v1 v2 v3 v4
  obtain ⟨u0, u1, u2, u3, u4, v0, v1, v2, v3, v4⟩ := bx5 K610.out
  obtain ⟨s0, s1, s2, s3, s4, t0, t1, t2, t3, t4⟩ := bx5 K410.out
  go_wp2_with fail
  go_at_call 11
  refine (laws_eqGraph.calls k _ _ g0 g1 g2 g3 _ _ g4 _ _ y0 y1 y2 y3 _ _ y4 true _ (Kd.R_reads' G010.out).2.2 (Kd.R_reads' G010.out).2.1 (Kd.S_reads' G410.out).2.2 (Kd.S_reads' G410.out).2.1 (Kd.R_reads' W010.out).2.2 (Kd.R_reads' W010.out).2.1 (Kd.S_reads' W410.out).2.2 (Kd.S_reads' W410.out).2.1 E5.out).mono ?_
  rintro e w11 ⟨rfl, hb⟩
  have HX11 := Zs0.mk (blT HX10.out hb)
  have K111 := Zs0.mk (bkB K110.out hb)
  have K411 := Zs0.mk (bkB K410.out hb)
  have K611 := Zs0.mk (bkB K610.out hb)
  have W011 := Zs0.mk (Kd.R_below W010.out hb)
  have W411 := Zs0.mk (Kd.S_below W410.out hb)
  have G011 := Zs0.mk (Kd.R_below G010.out hb)
  have G411 := Zs0.mk (Kd.S_below G410.out hb)
  clear hb HX10 K110 K410 K610 W010 W410 G010 G410 u0 u1 u2 u3 u4 v0 v1 v2 v3 v4 s0 s1 s2 s3 s4 t0 t1 t2 t3 t4
  obtain ⟨u0, u1, u2, u3, u4, v0, v1, v2, v3, v4⟩ := bx5 K611.out
  go_wp2_with fail
  go_at_call 12
  refine (markXc k (w0 := w3) (lo := w4.heap.size) (hi := w9.heap.size) HS.out HX11.out (Kd.R_mono G011.out fun q h => h.2.2.1) (Kd.S_mono G411.out fun q h => h.2.2.1) E8.out).mono ?_
  rintro e w12 ⟨rfl, a1, a2, a3, a4, hb, hk⟩
  have N0 := Zs0.mk (Kd.R_reads' G011.out).2.1
  have N4 := Zs0.mk (Kd.S_reads' G411.out).2.1
  have HX12 := Zs0.mk hb
  have K112 := Zs0.mk (boxXc hk K111.out (by decide))
  have K412 := Zs0.mk (boxXc hk K411.out (by decide))
  have K612 := Zs0.mk (boxXc hk K611.out (by decide))
  have W012 := Zs0.mk (Kd.R_kept W011.out hk fun q h1 h2 => Nat.lt_irrefl _ (Nat.lt_of_lt_of_le h1 (Nat.le_trans HS.out h2.1.1)))
  have W412 := Zs0.mk (Kd.S_kept W411.out hk fun q h1 h2 => Nat.lt_irrefl _ (Nat.lt_of_lt_of_le h1 (Nat.le_trans HS.out h2.1.1)))
  have Z0 := Zs0.mk a1
  have Z4 := Zs0.mk a3
  have L0 := Zs0.mk a2
  have L4 := Zs0.mk a4
  clear hb hk a1 a2 a3 a4 HX11 K111 K411 K611 W011 W411 G011 G411 u0 u1 u2 u3 u4 v0 v1 v2 v3 v4
  obtain ⟨u0, u1, u2, u3, u4, v0, v1, v2, v3, v4⟩ := bx5 K612.out
  go_wp2_with fail
  go_at_call 13
  refine (heldXc k Z0.out L0.out N0.out Z4.out L4.out N4.out E9.out).mono ?_
  rintro e w13 ⟨rfl, hb⟩
  have HX13 := Zs0.mk (blT HX12.out hb)
  have K113 := Zs0.mk (bkB K112.out hb)
  have K413 := Zs0.mk (bkB K412.out hb)
  have K613 := Zs0.mk (bkB K612.out hb)
  have W013 := Zs0.mk (Kd.R_below W012.out hb)
  have W413 := Zs0.mk (Kd.S_below W412.out hb)
  have Z03 := Zs0.mk (Kd.cB1 Z0.out hb)
  have Z43 := Zs0.mk (Kd.cB1 Z4.out hb)
  clear hb HX12 K112 K412 K612 W012 W412 Z0 Z4 u0 u1 u2 u3 u4 v0 v1 v2 v3 v4
  obtain ⟨u0, u1, u2, u3, u4, v0, v1, v2, v3, v4⟩ := bx5 K113.out
  go_wp2_with fail
  go_at_call 9
  refine (laws_toGraph.calls k _ _ l0_0 a0_1 a0_2 a0_3 _ _ l0_4 _ _ _ _ _ _ (Kd.cB1 HR0.out (blT HB3.out HX13.out)) HC0.out (Kd.cB1 HR4.out (blT HB3.out HX13.out)) HC4.out E2.out).mono ?_
  rintro e w14 ⟨q0, q4, rfl, hz, hs, hb⟩
  obtain ⟨Az, cz, rfl⟩ := Kd.R_slice hz
  obtain ⟨As, cs, rfl⟩ := Kd.S_slice hs
  have HX14 := Zs0.mk (blT HX13.out hb)
  have K414 := Zs0.mk (bkB K413.out hb)
  have K614 := Zs0.mk (bkB K613.out hb)
  have W014 := Zs0.mk (Kd.R_below W013.out hb)
  have W414 := Zs0.mk (Kd.S_below W413.out hb)
  have Z04 := Zs0.mk (Kd.cB1 Z03.out hb)
  have Z44 := Zs0.mk (Kd.cB1 Z43.out hb)
  have T0 := Zs0.mk hz
  have T4 := Zs0.mk hs
  clear hb hz hs HX13 K113 K413 K613 W013 W413 Z03 Z43 u0 u1 u2 u3 u4 v0 v1 v2 v3 v4
  go_wp2_with fail
  go_at_call 20
  refine (impl_Clean.calls k _ _ x0 x1 x2 x3 _ _ x4 _ _ _ _ _ _ (Kd.R_reads' T0.out).2.2 (Kd.R_reads' T0.out).2.1 (Kd.S_reads' T4.out).2.2 (Kd.S_reads' T4.out).2.1 E4.out).mono ?_
  rintro e w15 ⟨q0, q4, rfl, hz, hs, hb⟩
  obtain ⟨Ah, ch, rfl⟩ := Kd.R_slice hz
  obtain ⟨Bh, dh, rfl⟩ := Kd.S_slice hs
  have HX15 := Zs0.mk (blT HX14.out hb)
  have K415 := Zs0.mk (bkB K414.out hb)
  have K615 := Zs0.mk (bkB K614.out hb)
  have W015 := Zs0.mk (Kd.R_below W014.out hb)
  have W415 := Zs0.mk (Kd.S_below W414.out hb)
  have Z05 := Zs0.mk (Kd.cB1 Z04.out hb)
  have Z45 := Zs0.mk (Kd.cB1 Z44.out hb)
  have H0 := Zs0.mk hz
  have H4 := Zs0.mk hs
  clear hb hz hs HX14 K414 K614 W014 W414 Z04 Z44 T0 T4
  obtain ⟨u0, u1, u2, u3, u4, v0, v1, v2, v3, v4⟩ := bx5 K415.out
  have nk := blk_lt K415.out
  go_wp2_with fail
  go_at_call 11
  refine (laws_eqGraph.calls k _ _ g0 g1 g2 g3 _ _ g4 _ _ y0 y1 y2 y3 _ _ y4 true _ (Kd.cA1 (Kd.R_reads' H0.out).2.2 _) (Kd.R_reads' H0.out).2.1 (Kd.cA1 (Kd.S_reads' H4.out).2.2 _) (Kd.S_reads' H4.out).2.1 (Kd.cA1 (Kd.R_reads' W015.out).2.2 _) (Kd.R_reads' W015.out).2.1 (Kd.cA1 (Kd.S_reads' W415.out).2.2 _) (Kd.S_reads' W415.out).2.1 E5.out).mono ?_
  rintro e w16 ⟨rfl, hb⟩
  have HX16 := Zs0.mk (show Below w3.heap.size w3 w16 from blT (blA HX15.out _) hb)
  have K616 := Zs0.mk (bkB (bkA K615.out _) hb)
  have Z06 := Zs0.mk (Kd.cB1 (Kd.cA1 Z05.out _) hb)
  have Z46 := Zs0.mk (Kd.cB1 (Kd.cA1 Z45.out _) hb)
  clear hb HX15 K415 K615 W015 W415 Z05 Z45 H0 H4 nk u0 u1 u2 u3 u4 v0 v1 v2 v3 v4
  obtain ⟨u0, u1, u2, u3, u4, v0, v1, v2, v3, v4⟩ := bx5 K616.out
  go_wp2_with fail
  go_at_call 13
  refine (heldXc k Z06.out L0.out N0.out Z46.out L4.out N4.out E9.out).mono ?_
  rintro e w17 ⟨rfl, hb⟩
  have HX17 := Zs0.mk (blT HX16.out hb)
  clear hb HX16 K616 Z06 Z46 u0 u1 u2 u3 u4 v0 v1 v2 v3 v4
  go_wp2
  go_ret
  exact ⟨rfl, blT HB3.out HX17.out⟩
theorem lawClean_calls (k : Nat) (A0_0 : Option Addr) (c0_0 : Nat) (l0_0 : List Int) (a0_1 : Int) (a0_2 : Int) (a0_3 : Int) (A0_4 : Option Addr) (c0_4 : Nat) (l0_4 : List S67) (w : World) (hr0_0 : Kd.C (Kd.int .i64) w A0_0 l0_0.length l0_0) (hc0_0 : l0_0.length ≤ c0_0) (hr0_4 : Kd.C k67 w A0_4 l0_4.length l0_4) (hc0_4 : l0_4.length ≤ c0_4) (h : lawClean k l0_0 a0_1 a0_2 a0_3 l0_4) :
    Calls Try.prog 5 #[.agg #[.slice A0_0 l0_0.length c0_0, .int .i64 a0_1, .int .i64 a0_2, .int .i64 a0_3, .slice A0_4 l0_4.length c0_4]] w fun e w' => e = .returned (.bool true) ∧ Below w.heap.size w w' := by
  obtain ⟨t, e1, h⟩ := h
  by_cases ht : t < 0
  · exact lawClean_neg k A0_0 c0_0 l0_0 a0_1 a0_2 a0_3 A0_4 c0_4 l0_4 w hr0_0 hc0_0 hr0_4 hc0_4 t e1 ht
  · rcases h with h | h
    · exact absurd h ht
    · obtain ⟨x0, x1, x2, x3, x4, y0, y1, y2, y3, y4, g0, g1, g2, g3, g4, m1, z1, b1, m2, z2, b2, e2, e3, e4, e5, e6, e7, ht7, e8, e9, ht8⟩ := h
      exact lawClean_pos k A0_0 c0_0 l0_0 a0_1 a0_2 a0_3 A0_4 c0_4 l0_4 w hr0_0 hc0_0 hr0_4 hc0_4 t e1 ht x0 x1 x2 x3 x4 y0 y1 y2 y3 y4 g0 g1 g2 g3 g4 m1 z1 b1 m2 z2 b2 e2 e3 e4 e5 e6 e7 ht7 e8 e9 ht8
def laws_FnExactClean.f (k : Nat) (zs : List Int) (p v s : Int) (bs : List S67) : Option Bool :=
  (laws_szGraph.f k zs p v s bs 1048576).bind fun t => if t < 0 then some true else (laws_toGraph.f k zs p v s bs).bind fun x => (spec_Clean.f k x.1 x.2.1 x.2.2.1 x.2.2.2.1 x.2.2.2.2).bind fun y => (impl_Clean.f k x.1 x.2.1 x.2.2.1 x.2.2.2.1 x.2.2.2.2).bind fun g => (laws_eqGraph.f k g.1 g.2.1 g.2.2.1 g.2.2.2.1 g.2.2.2.2 y.1 y.2.1 y.2.2.1 y.2.2.2.1 y.2.2.2.2).bind fun b1 => (laws_eqGraph.f k x.1 x.2.1 x.2.2.1 x.2.2.2.1 x.2.2.2.2 x.1 x.2.1 x.2.2.1 x.2.2.2.1 x.2.2.2.2).bind fun b2 =>
    (markGc k x.1 x.2.2.2.2 1).bind fun m => (markGc k g.1 g.2.2.2.2 1).bind fun n => (laws_heldGraph.f k n.2.1 g.2.1 g.2.2.1 g.2.2.2.1 n.2.2 1).bind fun q => if b1 = true ∧ b2 = true ∧ ¬ m.1 < 0 ∧ ¬ n.1 < 0 ∧ q = n.1 then some true else none
theorem lawClean_of (k : Nat) (zs : List Int) (p v s : Int) (bs : List S67) (r : Bool) (h : laws_FnExactClean.f k zs p v s bs = some r) : r = true ∧ lawClean k zs p v s bs := by
  unfold laws_FnExactClean.f at h
  obtain ⟨t, e1, h⟩ := Option.bind_eq_some_iff.mp h
  split at h
  · rename_i ht
    exact ⟨(Option.some.inj h).symm, t, e1, .inl ht⟩
  · obtain ⟨⟨x0, x1, x2, x3, x4⟩, e2, h⟩ := Option.bind_eq_some_iff.mp h
    obtain ⟨⟨y0, y1, y2, y3, y4⟩, e3, h⟩ := Option.bind_eq_some_iff.mp h
    obtain ⟨⟨g0, g1, g2, g3, g4⟩, e4, h⟩ := Option.bind_eq_some_iff.mp h
    obtain ⟨b1, e5, h⟩ := Option.bind_eq_some_iff.mp h
    obtain ⟨b2, e6, h⟩ := Option.bind_eq_some_iff.mp h
    obtain ⟨⟨m1, z1, d1⟩, e7, h⟩ := Option.bind_eq_some_iff.mp h
    obtain ⟨⟨m2, z2, d2⟩, e8, h⟩ := Option.bind_eq_some_iff.mp h
    obtain ⟨q, e9, h⟩ := Option.bind_eq_some_iff.mp h
    split at h
    · rename_i hc
      have hr := (Option.some.inj h).symm
      obtain ⟨h1, h2, hm, hn, hq⟩ := hc
      rw [h1] at e5
      rw [h2] at e6
      rw [hq] at e9
      exact ⟨hr, t, e1, .inr ⟨x0, x1, x2, x3, x4, y0, y1, y2, y3, y4, g0, g1, g2, g3, g4, m1, z1, d1, m2, z2, d2, e2, e3, e4, e5, e6, e7, hm, e8, e9, hn⟩⟩
    · cases h
theorem laws_FnExactClean.calls (k : Nat) (A0_0 : Option Addr) (c0_0 : Nat) (l0_0 : List Int) (a0_1 : Int) (a0_2 : Int) (a0_3 : Int) (A0_4 : Option Addr) (c0_4 : Nat) (l0_4 : List S67) (r : Bool) (w : World) (hr0_0 : Kd.C (Kd.int .i64) w A0_0 l0_0.length l0_0) (hc0_0 : l0_0.length ≤ c0_0) (hr0_4 : Kd.C k67 w A0_4 l0_4.length l0_4) (hc0_4 : l0_4.length ≤ c0_4) (h : laws_FnExactClean.f k l0_0 a0_1 a0_2 a0_3 l0_4 = some r) :
    Calls Try.prog 5 #[.agg #[.slice A0_0 l0_0.length c0_0, .int .i64 a0_1, .int .i64 a0_2, .int .i64 a0_3, .slice A0_4 l0_4.length c0_4]] w fun e w' => e = .returned (.bool r) ∧ Below w.heap.size w w' := by
  obtain ⟨rfl, hl⟩ := lawClean_of k l0_0 a0_1 a0_2 a0_3 l0_4 r h
  exact lawClean_calls k A0_0 c0_0 l0_0 a0_1 a0_2 a0_3 A0_4 c0_4 l0_4 w hr0_0 hc0_0 hr0_4 hc0_4 hl
end Go.Proofs.Ytcbpbnkoolpibaa.P
