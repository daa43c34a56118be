/- Functions of the program and of the reference as plain functions, and that the Go code comes to their answers; several texts in one. No conditions beyond what each theorem says. -/
import Derived.Test.YtcbpbnkoolpibaaMClean0ya
import Derived.Test.YtcbpbnkoolpibaaMClean0b
import Derived.Test.YtcbpbnkoolpibaaMClean2qa
set_option linter.unusedVariables false
set_option linter.unusedSimpArgs false
namespace Go.Proofs.Ytcbpbnkoolpibaa.P
open RowKit YtcbpbnkoolpibaaW.wA YtcbpbnkoolpibaaW.wB YtcbpbnkoolpibaaW.wC Gr Aux
theorem S_kty {α : Type} {d : Kd α} {e base t : Nat} {ok S : Nat → Prop} {w w1 : World} {v : Value} {xs : List α} (h : Kd.S d e w base ok v xs) (hk : Kept w w1 S) (hS : ∀ q, S q → isT w q t) (ht : ∀ q, q ∈ e :: d.E → q ≠ t) : Kd.S d e w1 base ok v xs :=
  Kd.S_mono (Kd.S_kept (Kd.S_bound h) hk fun q hq hs => by
    obtain ⟨_, _, _, t', ht', hc⟩ := hq
    exact ht t' ht' (isT_one hc (hS q hs))) fun q hq => hq.1
theorem R_kty {α : Type} {d : Kd α} {e base t : Nat} {ok S : Nat → Prop} {w w1 : World} {v : Value} {xs : List α} (h : d.R e w base ok v xs) (hk : Kept w w1 S) (hS : ∀ q, S q → isT w q t) (ht : ∀ q, q ∈ e :: d.E → q ≠ t) : d.R e w1 base ok v xs :=
  Kd.R_mono (Kd.R_kept (Kd.R_bound h) hk fun q hq hs => by
    obtain ⟨_, _, _, t', ht', hc⟩ := hq
    exact ht t' ht' (isT_one hc (hS q hs))) fun q hq => hq.1
theorem B_kty {w w1 : World} {g t t' : Nat} {cs : Array Value} {S : Nat → Prop} (h : w.heap[g]? = some (.cells cs t' (0, 0))) (hk : Kept w w1 S) (hS : ∀ q, S q → isT w q t) (ht : t' ≠ t) : w1.heap[g]? = some (.cells cs t' (0, 0)) :=
  blk_kept h hk fun hs => ht (isT_one ⟨cs, h⟩ (hS g hs))
structure CL (w : World) (gr go gA cA n gL cL : Nat) (c2 co : Array Value) (vz : Value) (zs : List Int) (BS : List S47) (LV : List (List Bool)) (wr : World) : Prop where
  z : Kd.R (Kd.int .i64) 3 wr w.heap.size (fun _ => True) vz zs
  b : Kd.S k47 47 wr w.heap.size (fun _ => True) (.slice (some ⟨gA, 0, none⟩) n cA) BS
  l : Kd.S dd 54 wr w.heap.size (fun _ => True) (.slice (some ⟨gL, 0, none⟩) n cL) LV
  r : wr.heap[gr]? = some (.cells c2 29 (0, 0))
  o : wr.heap[go]? = some (.cells co 29 (0, 0))
  bel : Below w.heap.size w wr
theorem CL.below {w wr w1 : World} {gr go gA cA n gL cL : Nat} {c2 co : Array Value} {vz : Value} {zs : List Int} {BS : List S47} {LV : List (List Bool)} (h : CL w gr go gA cA n gL cL c2 co vz zs BS LV wr) (hb : Below wr.heap.size wr w1) : CL w gr go gA cA n gL cL c2 co vz zs BS LV w1 :=
  ⟨Kd.R_below h.z hb, Kd.S_below h.b hb, Kd.S_below h.l hb, bkB h.r hb, bkB h.o hb, blT h.bel hb⟩
theorem CL.blk {w wr : World} {gr go gA cA n gL cL : Nat} {c2 co : Array Value} {vz : Value} {zs : List Int} {BS : List S47} {LV : List (List Bool)} (h : CL w gr go gA cA n gL cL c2 co vz zs BS LV wr) (i : Nat) (hi : i < n) :
    ∃ Ac cc, wr.cell? ⟨gA, i * 5, none⟩ = some (.slice Ac (BS.getD i z47).f0.length cc) ∧ wr.cell? ⟨gA, i * 5 + 1, none⟩ = some (.int .i64 (BS.getD i z47).f1) ∧ wr.cell? ⟨gA, i * 5 + 2, none⟩ = some (.int .i64 (BS.getD i z47).f2) ∧ wr.frozen? ⟨gA, i * 5, none⟩ = false ∧ Kd.C k57 wr Ac (BS.getD i z47).f0.length (BS.getD i z47).f0 := by
  obtain ⟨oki, cs, hcl, hMM, hcc, hfr, hoki, hH⟩ := Kd.S_elem h.b z47 (i : Int) (by omega) (by omega)
  rw [Int.toNat_natCast] at hMM hcc hfr
  obtain ⟨v0, rfl, hR⟩ := k47_openM hMM
  obtain ⟨Ac, cc, rfl⟩ := Kd.R_slice hR
  have c0 := hcc 0 _ rfl
  have c1 := hcc 1 _ rfl
  have c2 := hcc 2 _ rfl
  have f0 := hfr 0
  rw [Nat.add_zero] at c0 f0
  exact ⟨Ac, cc, c0, c1, c2, f0, (Kd.R_reads' hR).2.2⟩
theorem CL.put {w wr : World} {gr go gA cA n gL cL : Nat} {c2 co : Array Value} {vz : Value} {zs : List Int} {BS : List S47} {LV : List (List Bool)} (h : CL w gr go gA cA n gL cL c2 co vz zs BS LV wr) (i : Nat) (hi : i < n) {Ai : Option Addr} {m ci : Nat} (hc : wr.cell? ⟨gL, i, none⟩ = some (.slice Ai m ci)) (s : Nat) (hs : s < (row LV i).length) (v : Bool) :
    ∃ q, Ai = some ⟨q, 0, none⟩ ∧ wr.cell? ⟨q, s, none⟩ = some (.bool (gb (row LV i) s)) ∧ wr.frozen? ⟨q, s, none⟩ = false ∧ q ≠ gL ∧
      CL w gr go gA cA n gL cL c2 co vz zs BS (LV.set i ((row LV i).set s v)) (wr.setCell ⟨q, s, none⟩ (.bool v)) := by
  obtain ⟨q, e, _, a2, a3, a4, a5, a6, a7⟩ := rr_put h.l i hi hc s hs v
  have hk : Kept wr (wr.setCell ⟨q, s, none⟩ (.bool v)) (fun k => k = q) := (Kept.refl wr (fun k => k = q)).setCell (p := ⟨q, s, none⟩) (.inl rfl) _
  have hT : ∀ k, k = q → isT wr k 4 := fun k hk => by rw [hk]; exact a4
  exact ⟨q, e, a5, a6, a2, R_kty h.z hk hT (by decide), S_kty h.b hk hT (by decide), a7, B_kty h.r hk hT (by decide), B_kty h.o hk hT (by decide), blS h.bel a3⟩
theorem CL.back {w wr : World} {gr go gA cA n gL cL : Nat} {c2 co : Array Value} {vz : Value} {zs : List Int} {BS : List S47} {LV : List (List Bool)} (h : CL w gr go gA cA n gL cL c2 co vz zs BS LV wr) (i : Nat) (hi : i < n) {Ai : Option Addr} {m ci : Nat} (hc : wr.cell? ⟨gL, i, none⟩ = some (.slice Ai m ci)) :
    m = (row LV i).length ∧ ∃ P : Nat → Prop, Kd.R Kd.bool 4 wr w.heap.size P (.slice Ai m ci) (row LV i) ∧ ∀ (w1 : World) (X : List Bool), Kd.R Kd.bool 4 w1 w.heap.size (fun k_ => (P k_ ∨ wr.heap.size ≤ k_)) (.slice Ai m ci) X → Below w.heap.size w w1 → Kept wr w1 (fun k_ => P k_) → CL w gr go gA cA n gL cL c2 co vz zs BS (LV.set i X) w1 ∧ w1.cell? ⟨gL, i, none⟩ = some (.slice Ai m ci) := by
  obtain ⟨oki, cs, hcl, hM, hcc, hfr, hoki, hH⟩ := Kd.S_elem h.l [] (i : Int) (by omega) (by omega)
  obtain ⟨v0, rfl, hR⟩ := hM
  rw [Int.toNat_natCast, getD_row] at hR
  have c0 := hcc 0 _ rfl
  rw [Int.toNat_natCast, Nat.add_zero, show dd.sz = 1 from rfl, Nat.mul_one, hc] at c0
  obtain rfl := Option.some.inj c0
  have hR2 := Kd.R_tight rfl hR
  have hT : ∀ q, some q = (Value.slice Ai m ci).ownBlock → isT wr q 4 := fun q hq => Kd.R_typed hR q hq.symm
  refine ⟨(Kd.R_reads' hR).1, fun q => some q = (Value.slice Ai m ci).ownBlock, hR2, fun w1 X hR1 hB1 hK1 => ?_⟩
  have hsub : ∀ q, some q = (Value.slice Ai m ci).ownBlock → oki q := fun q hq => hR.1 q hq.symm
  have h1 := (Kd.S_seg0 (Kd.H_kept hH hK1 (fun q _ hn hs => hn (hsub q hs))) (i := (i : Int)) (by omega) (by omega) (seg := []) (j := 0) (by show 0 + 0 ≤ 1; omega) (x' := X) (okp := fun q => some q = (Value.slice Ai m ci).ownBlock)
          (Kd.M_row (Kd.R_tight rfl hR1)) hsub).1
  rw [Int.toNat_natCast] at h1
  exact ⟨⟨R_kty h.z hK1 hT (by decide), S_kty h.b hK1 hT (by decide), h1, B_kty h.r hK1 hT (by decide), B_kty h.o hK1 hT (by decide), hB1⟩, cell_kept hc hK1 fun hq => (hoki gL (hsub gL hq)).2 rfl⟩
theorem CL.del {w wr : World} {gr go gA cA n gL cL : Nat} {c2 co : Array Value} {vz : Value} {zs : List Int} {BS : List S47} {LV : List (List Bool)} (h : CL w gr go gA cA n gL cL c2 co vz zs BS LV wr) (i : Nat) (hi : i < n) {Ac : Option Addr} {m cc : Nat} (hc : wr.cell? ⟨gA, i * 5, none⟩ = some (.slice Ac m cc)) (hm : 0 < m) :
    ∃ gc, Ac = some ⟨gc, 0, none⟩ ∧ m = (BS.getD i z47).f0.length ∧ ∃ P : Nat → Prop, Kd.R k57 57 wr w.heap.size P (.slice (some ⟨gc, 0, none⟩) m cc) (BS.getD i z47).f0 ∧ ∀ (w1 : World) (ys : List S57), Kd.R k57 57 w1 w.heap.size P (.slice (some ⟨gc, 0, none⟩) (m - 1) cc) ys → Below w.heap.size w w1 → Kept wr w1 (fun q => q = gc) →
      w1.cell? ⟨gA, i * 5, none⟩ = some (.slice Ac m cc) ∧ w1.frozen? ⟨gA, i * 5, none⟩ = false ∧ CL w gr go gA cA n gL cL c2 co vz zs (BS.set i ⟨ys, (BS.getD i z47).f1, (BS.getD i z47).f2, (BS.getD i z47).f3, (BS.getD i z47).f4⟩) LV (w1.setCell ⟨gA, i * 5, none⟩ (.slice (some ⟨gc, 0, none⟩) (m - 1) cc)) ∧ ∀ v, wr.cell? ⟨gL, i, none⟩ = some v → (w1.setCell ⟨gA, i * 5, none⟩ (.slice (some ⟨gc, 0, none⟩) (m - 1) cc)).cell? ⟨gL, i, none⟩ = some v := by
  obtain ⟨oki, cs, hcl, hMM, hcc, hfr, hoki, hH⟩ := Kd.S_elem h.b z47 (i : Int) (by omega) (by omega)
  rw [Int.toNat_natCast] at hMM hcc hfr
  obtain ⟨v0, rfl, hR⟩ := k47_openM hMM
  have c0 := hcc 0 _ rfl
  rw [Nat.add_zero, show i * k47.sz = i * 5 from rfl, hc] at c0
  obtain rfl := Option.some.inj c0
  have hml := (Kd.R_reads' hR).1
  obtain ⟨gc, c', e, hgb, _, hgc⟩ := Kd.R_form hR (by omega)
  injection e with e1 e2 e3
  subst e1 e3
  have hoc : oki gc := hR.1 gc rfl
  have hT : ∀ q, q = gc → isT wr q 57 := fun q hq => by rw [hq]; exact hgc
  refine ⟨gc, rfl, hml, oki, hR, fun w1 ys hR1 hB1 hK1 => ?_⟩
  have hne : gA ≠ gc := fun e => (hoki gc hoc).2 e.symm
  obtain ⟨cells, hcells⟩ := Kd.S_typed h.b gA rfl
  have hcells1 := blk_kept hcells hK1 hne
  have h1 := (Kd.S_seg0 (Kd.H_kept hH hK1 (fun q _ hn hs => hn (by rw [hs]; exact hoc))) (i := (i : Int)) (by omega) (by omega) (seg := [.slice (some ⟨gc, 0, none⟩) (m - 1) cc]) (j := 0) (by show 0 + 1 ≤ 5; omega) (x' := ⟨ys, (BS.getD i z47).f1, (BS.getD i z47).f2, (BS.getD i z47).f3, (BS.getD i z47).f4⟩) (okp := oki)
          (k47_mkM w1 w.heap.size _ ⟨ys, (BS.getD i z47).f1, (BS.getD i z47).f2, (BS.getD i z47).f3, (BS.getD i z47).f4⟩ hR1) (fun q hq => hq)).1
  rw [Int.toNat_natCast] at h1
  have hk2 : Kept w1 (w1.setCell ⟨gA, i * 5, none⟩ (.slice (some ⟨gc, 0, none⟩) (m - 1) cc)) (fun q => q = gA) := (Kept.refl w1 (fun q => q = gA)).setCell (p := ⟨gA, i * 5, none⟩) (.inl rfl) _
  have hT2 : ∀ q, q = gA → isT w1 q 47 := fun q hq => by rw [hq]; exact ⟨_, hcells1⟩
  have hLt := Kd.S_typed h.l gL rfl
  refine ⟨cell_kept hc hK1 hne, blk_frozen hcells1 _, ?_, fun v hv => cell_kept (cell_kept hv hK1 fun e => absurd (isT_one hLt (hT gL e)) (by decide)) hk2 fun e => absurd (isT_one hLt ⟨_, by rw [show gL = gA from e]; exact hcells⟩) (by decide)⟩
  exact ⟨R_kty (R_kty h.z hK1 hT (by decide)) hk2 hT2 (by decide), h1, S_kty (S_kty h.l hK1 hT (by decide)) hk2 hT2 (by decide), B_kty (B_kty h.r hK1 hT (by decide)) hk2 hT2 (by decide), B_kty (B_kty h.o hK1 hT (by decide)) hk2 hT2 (by decide), blS hB1 (Kd.S_base h.b gA rfl)⟩
structure CS (w : World) (N g1 gr go gA cA n gL cL : Nat) (c1 c2 co : Array Value) (vz : Value) (zs : List Int) (BS : List S47) (LV : List (List Bool)) (wr : World) : Prop where
  z : Kd.R (Kd.int .i64) 3 wr w.heap.size (fun q => q < N) vz zs
  b : Kd.S k47 47 wr w.heap.size (fun q => q < N) (.slice (some ⟨gA, 0, none⟩) n cA) BS
  l : Kd.S dd 54 wr w.heap.size (fun q => q < N) (.slice (some ⟨gL, 0, none⟩) n cL) LV
  g : wr.heap[g1]? = some (.cells c1 29 (0, 0))
  r : wr.heap[gr]? = some (.cells c2 29 (0, 0))
  o : wr.heap[go]? = some (.cells co 29 (0, 0))
  lt : g1 < N ∧ gr < N ∧ go < N
  bel : Below w.heap.size w wr
  sz : N ≤ wr.heap.size
theorem CS.step {w wr w1 : World} {N g1 gr go gA cA n gL cL : Nat} {c1 c2 co : Array Value} {vz : Value} {zs : List Int} {BS : List S47} {LV : List (List Bool)} (h : CS w N g1 gr go gA cA n gL cL c1 c2 co vz zs BS LV wr) (hm : ∀ k, k < N → k < wr.heap.size → w1.heap[k]? = wr.heap[k]?) (hB : Below w.heap.size w w1) (hs : wr.heap.size ≤ w1.heap.size) : CS w N g1 gr go gA cA n gL cL c1 c2 co vz zs BS LV w1 :=
  ⟨Kd.R_step h.z fun k hk hl => hm k hk hl, Kd.S_step h.b fun k hk hl => hm k hk hl, Kd.S_step h.l fun k hk hl => hm k hk hl, (hm _ h.lt.1 (blk_lt h.g)).trans h.g, (hm _ h.lt.2.1 (blk_lt h.r)).trans h.r, (hm _ h.lt.2.2 (blk_lt h.o)).trans h.o, h.lt, hB, Nat.le_trans h.sz hs⟩
theorem CS.below {w wr w1 : World} {N g1 gr go gA cA n gL cL : Nat} {c1 c2 co : Array Value} {vz : Value} {zs : List Int} {BS : List S47} {LV : List (List Bool)} (h : CS w N g1 gr go gA cA n gL cL c1 c2 co vz zs BS LV wr) (hb : Below wr.heap.size wr w1) : CS w N g1 gr go gA cA n gL cL c1 c2 co vz zs BS LV w1 :=
  h.step (fun k _ hl => hb.block k hl) (blT h.bel hb) hb.size
theorem CS.raise {w wr : World} {N g1 gr go gA cA n gL cL : Nat} {c1 c2 co : Array Value} {vz : Value} {zs : List Int} {BS : List S47} {LV : List (List Bool)} (h : CS w N g1 gr go gA cA n gL cL c1 c2 co vz zs BS LV wr) : CS w wr.heap.size g1 gr go gA cA n gL cL c1 c2 co vz zs BS LV wr :=
  ⟨Kd.R_mono h.z fun k hk => Nat.lt_of_lt_of_le hk h.sz, Kd.S_mono h.b fun k hk => Nat.lt_of_lt_of_le hk h.sz, Kd.S_mono h.l fun k hk => Nat.lt_of_lt_of_le hk h.sz, h.g, h.r, h.o, ⟨blk_lt h.g, blk_lt h.r, blk_lt h.o⟩, h.bel, Nat.le_refl _⟩
theorem CS.store {w wr : World} {N g1 gr go gA cA n gL cL : Nat} {c1 c2 co : Array Value} {vz v : Value} {zs : List Int} {BS : List S47} {LV : List (List Bool)} {ys : List S57} (h : CS w N g1 gr go gA cA n gL cL c1 c2 co vz zs BS LV wr) (i : Nat) (hi : i < n) (hR : Kd.R k57 57 wr w.heap.size (fun q => N ≤ q) v ys) :
    (∃ u, wr.cell? ⟨gA, i * 5, none⟩ = some u) ∧ wr.frozen? ⟨gA, i * 5, none⟩ = false ∧ CS w wr.heap.size g1 gr go gA cA n gL cL c1 c2 co vz zs (BS.set i ⟨ys, (BS.getD i z47).f1, (BS.getD i z47).f2, (BS.getD i z47).f3, (BS.getD i z47).f4⟩) LV (wr.setCell ⟨gA, i * 5, none⟩ v) := by
  have hb2 : Kd.S k47 47 wr w.heap.size (fun k => k < wr.heap.size ∧ ¬ (N ≤ k ∧ k < wr.heap.size)) (.slice (some ⟨gA, 0, none⟩) n cA) BS := Kd.S_mono h.b fun k hk => ⟨Nat.lt_of_lt_of_le hk h.sz, fun h2 => Nat.lt_irrefl _ (Nat.lt_of_lt_of_le hk h2.1)⟩
  obtain ⟨oki, cs, hcl, hMM, hcc, hfr, hoki, hH⟩ := Kd.S_elem hb2 z47 (i : Int) (by omega) (by omega)
  rw [Int.toNat_natCast] at hMM hcc hfr
  obtain ⟨v0, rfl, hR0⟩ := k47_openM hMM
  have c0 := hcc 0 _ rfl
  have f0 := hfr 0
  rw [Nat.add_zero, show i * k47.sz = i * 5 from rfl] at c0 f0
  have hgA : gA < N := (Kd.S_R h.b).1 gA rfl
  have hR1 : Kd.R k57 57 wr w.heap.size (fun q => N ≤ q ∧ q < wr.heap.size) v ys := Kd.R_mono (Kd.R_bound hR) fun q hq => ⟨hq.1, hq.2.2.1⟩
  have h1 := (Kd.S_seg (okg := fun k => N ≤ k ∧ k < wr.heap.size) (okp := fun k => N ≤ k ∧ k < wr.heap.size) hH (by omega) (by omega) (seg := [v]) (j := 0) (by show 0 + 1 ≤ 5; omega) (x' := ⟨ys, (BS.getD i z47).f1, (BS.getD i z47).f2, (BS.getD i z47).f3, (BS.getD i z47).f4⟩)
    (k47_mkM wr w.heap.size _ ⟨ys, (BS.getD i z47).f1, (BS.getD i z47).f2, (BS.getD i z47).f3, (BS.getD i z47).f4⟩ hR1) (fun k hk => .inr hk) (fun k hk => ⟨hk.2, fun e => by subst e; exact Nat.lt_irrefl _ (Nat.lt_of_lt_of_le hgA hk.1)⟩)).1
  rw [Int.toNat_natCast] at h1
  have hk2 : Kept wr (wr.setCell ⟨gA, i * 5, none⟩ v) (fun q => q = gA) := (Kept.refl wr (fun q => q = gA)).setCell (p := ⟨gA, i * 5, none⟩) (.inl rfl) _
  have hT2 : ∀ q, q = gA → isT wr q 47 := fun q hq => by rw [hq]; exact Kd.S_typed h.b gA rfl
  have h3 := h.raise
  exact ⟨⟨_, c0⟩, f0, R_kty h3.z hk2 hT2 (by decide), h1, S_kty h3.l hk2 hT2 (by decide), B_kty h.g hk2 hT2 (by decide), B_kty h.r hk2 hT2 (by decide), B_kty h.o hk2 hT2 (by decide), h3.lt, blS h.bel (Kd.S_base h.b gA rfl), by simp⟩
end Go.Proofs.Ytcbpbnkoolpibaa.P
