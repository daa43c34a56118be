/- Marking the statements of a program in rows of the call's own: the number that comes back, and that nothing is written but those rows. Conditions: fewer parts than 2^40. -/
import Derived.Test.YtjcggilkfofiaaaMTouchesxGmke
import Derived.Test.YtjcggilkfofiaaaMTouches0c
namespace Go.Proofs.Ytjcggilkfofiaaa.P
open Go.RowKit Go.Proofs.Ytjcggilkfofiaaa.Ex Go.Proofs.YtjcggilkfofiaaaW.PrintWords Go.Proofs.YtjcggilkfofiaaaW.PrintLast Go.Proofs.YtjcggilkfofiaaaW.PrintMore Go.Proofs.Ytjcggilkfofiaaa.Aux
set_option linter.unusedVariables false
set_option linter.unusedSimpArgs false
mutual
/-- How many marks a statement bears. -/
def mkS : S62 → Nat
  | ⟨_, _, _, es, x, y⟩ => 3 + 4 * nEs es + mkSs x + mkSs y
def mkSs : List S62 → Nat
  | [] => 0
  | x :: xs => mkS x + mkSs xs
end
theorem mkS_eq (x : S62) : mkS x = 3 + 4 * nEs x.f3 + mkSs x.f4 + mkSs x.f5 := by
  cases x
  rw [mkS]
mutual
theorem mkS_le : ∀ x : S62, mkS x ≤ 4 * nS x
  | ⟨a, b, c, es, x, y⟩ => by rw [mkS, nS]; have := mkSs_le x; have := mkSs_le y; omega
theorem mkSs_le : ∀ l : List S62, mkSs l ≤ 4 * nSs l
  | [] => by rw [mkSs, nSs]; omega
  | x :: xs => by rw [mkSs, nSs]; have := mkS_le x; have := mkSs_le xs; omega
end
theorem mkSs_len : ∀ l : List S62, l.length ≤ mkSs l
  | [] => by simp
  | x :: xs => by rw [mkSs, mkS_eq, List.length_cons]; have := mkSs_len xs; omega
theorem mkSs_snoc : ∀ (l : List S62) (k : Nat) (h : k < l.length), mkSs (l.take (k + 1)) = mkSs (l.take k) + mkS l[k]
  | x :: xs, 0, h => by simp [mkSs]
  | x :: xs, k + 1, h => by
    have := mkSs_snoc xs k (by simpa using h)
    simp only [List.take_succ_cons, mkSs, List.getElem_cons_succ]
    omega
theorem mkSs_take : ∀ (l : List S62) (k : Nat) (h : k < l.length), mkSs (l.take k) + mkS l[k] ≤ mkSs l
  | x :: xs, 0, h => by simp [mkSs]
  | x :: xs, k + 1, h => by
    have := mkSs_take xs k (by simpa using h)
    simp only [List.take_succ_cons, mkSs, List.getElem_cons_succ]
    omega
/-- What rows of statements look like: where they lie, and where the rows in them lie. -/
inductive ShS (PE PS : Nat → Prop) (W : World) : Value → List S62 → Prop
  | nil (A : Option Addr) (c : Nat) : ShS PE PS W (.slice A 0 c) []
  | row (g c : Nat) (cs : Array Value) (l : List S62) (v3 v4 v5 : Nat → Value) (hg : PS g) (hb : W.heap[g]? = some (.cells cs 62 (0, 0))) (hs : l.length * 6 ≤ cs.size)
      (h3 : ∀ i, i < l.length → cs[i * 6 + 3]? = some (v3 i)) (h4 : ∀ i, i < l.length → cs[i * 6 + 4]? = some (v4 i)) (h5 : ∀ i, i < l.length → cs[i * 6 + 5]? = some (v5 i))
      (k3 : ∀ i (h : i < l.length), ShE PE W (v3 i) l[i].f3) (k4 : ∀ i (h : i < l.length), ShS PE PS W (v4 i) l[i].f4) (k5 : ∀ i (h : i < l.length), ShS PE PS W (v5 i) l[i].f5) : ShS PE PS W (.slice (some ⟨g, 0, none⟩) l.length c) l
theorem ShS.form {PE PS : Nat → Prop} {W : World} {v : Value} {l : List S62} (h : ShS PE PS W v l) : ∃ A c, v = .slice A l.length c := by
  cases h
  · exact ⟨_, _, rfl⟩
  · exact ⟨_, _, rfl⟩
theorem ShS.inv {PE PS : Nat → Prop} {W : World} {v : Value} {l : List S62} (h : ShS PE PS W v l) (hne : 0 < l.length) : ∃ (g c : Nat) (cs : Array Value) (v3 v4 v5 : Nat → Value), v = .slice (some ⟨g, 0, none⟩) l.length c ∧ PS g ∧ W.heap[g]? = some (.cells cs 62 (0, 0)) ∧ l.length * 6 ≤ cs.size ∧
    (∀ i, i < l.length → cs[i * 6 + 3]? = some (v3 i)) ∧ (∀ i, i < l.length → cs[i * 6 + 4]? = some (v4 i)) ∧ (∀ i, i < l.length → cs[i * 6 + 5]? = some (v5 i)) ∧ (∀ i (h : i < l.length), ShE PE W (v3 i) l[i].f3) ∧ (∀ i (h : i < l.length), ShS PE PS W (v4 i) l[i].f4) ∧ (∀ i (h : i < l.length), ShS PE PS W (v5 i) l[i].f5) := by
  cases h with
  | nil A c => exact absurd hne (Nat.lt_irrefl _)
  | row g c cs l v3 v4 v5 hg hb hs h3 h4 h5 k3 k4 k5 => exact ⟨g, c, cs, v3, v4, v5, rfl, hg, hb, hs, h3, h4, h5, k3, k4, k5⟩
/-- Rows of statements stay where they are, and lead where they led. -/
def SlotsS (W W' : World) : Prop := ∀ (q : Nat) (cs : Array Value), W.heap[q]? = some (.cells cs 62 (0, 0)) → ∃ cs' : Array Value, W'.heap[q]? = some (.cells cs' 62 (0, 0)) ∧ cs'.size = cs.size ∧ ∀ i, cs'[i * 6 + 3]? = cs[i * 6 + 3]? ∧ cs'[i * 6 + 4]? = cs[i * 6 + 4]? ∧ cs'[i * 6 + 5]? = cs[i * 6 + 5]?
theorem SlotsS.refl (W : World) : SlotsS W W := fun q cs h => ⟨cs, h, rfl, fun _ => ⟨rfl, rfl, rfl⟩⟩
theorem SlotsS.trans {W W1 W2 : World} (h : SlotsS W W1) (h' : SlotsS W1 W2) : SlotsS W W2 := fun q cs hq => by
  obtain ⟨c1, h1, h2, h3⟩ := h q cs hq
  obtain ⟨c2, k1, k2, k3⟩ := h' q c1 h1
  exact ⟨c2, k1, k2.trans h2, fun i => ⟨(k3 i).1.trans (h3 i).1, (k3 i).2.1.trans (h3 i).2.1, (k3 i).2.2.trans (h3 i).2.2⟩⟩
theorem SlotsS.below {W W' : World} (h : Below W.heap.size W W') : SlotsS W W' := fun q cs hq => ⟨cs, blk_below hq h, rfl, fun _ => ⟨rfl, rfl, rfl⟩⟩
theorem SlotsS.kept {W W' : World} {P : Nat → Prop} (h : Kept W W' P) (hP : ∀ q, P q → isTy W q 29) : SlotsS W W' := fun q cs hq => ⟨cs, blk_kept hq h (fun hp => absurd (isTy_one (hP q hp) ⟨cs, hq⟩) (by decide)), rfl, fun _ => ⟨rfl, rfl, rfl⟩⟩
theorem SlotsS.set (W : World) (g o : Nat) (u : Value) (ho : o % 6 < 3) : SlotsS W (W.setCell ⟨g, o, none⟩ u) := fun q cs hq => by
  by_cases e : q = g
  · subst e
    refine ⟨cs.setIfInBounds o u, blk_set hq o u, by simp, fun i => ⟨?_, ?_, ?_⟩⟩
    all_goals rw [Array.getElem?_setIfInBounds_ne (by omega)]
  · exact ⟨cs, (Below.heap_setCell W ⟨g, o, none⟩ u q e).trans hq, rfl, fun _ => ⟨rfl, rfl, rfl⟩⟩
theorem Slots.setS {W : World} {g : Nat} (hg : isTy W g 62) (o : Nat) (u : Value) : Slots W (W.setCell ⟨g, o, none⟩ u) := fun q cs hq => by
  have hne : q ≠ g := by
    rintro rfl
    exact absurd (isTy_one hg ⟨cs, hq⟩) (by decide)
  exact ⟨cs, (Below.heap_setCell W ⟨g, o, none⟩ u q hne).trans hq, rfl, fun _ => rfl⟩
theorem ShS.move {PE PS : Nat → Prop} {W W' : World} {v : Value} {l : List S62} (h : ShS PE PS W v l) (hs : Slots W W') (hs2 : SlotsS W W') : ShS PE PS W' v l := by
  induction h with
  | nil A c => exact ShS.nil A c
  | row g c cs l v3 v4 v5 hg hb hz h3 h4 h5 k3 k4 k5 ih4 ih5 =>
    obtain ⟨cs', h1, h2, h6⟩ := hs2 g cs hb
    exact ShS.row g c cs' l v3 v4 v5 hg h1 (by omega) (fun i hi => (h6 i).1.trans (h3 i hi)) (fun i hi => (h6 i).2.1.trans (h4 i hi)) (fun i hi => (h6 i).2.2.trans (h5 i hi)) (fun i h => (k3 i h).move hs) ih4 ih5
/-- What becomes of the world. -/
def StS (PE PS : Nat → Prop) (w0 W wr : World) : Prop := Slots W wr ∧ SlotsS W wr ∧ Kept W wr (fun q => PE q ∨ PS q) ∧ Below w0.heap.size w0 wr
theorem isTy.slot {W wr : World} (h : Slots W wr) {q : Nat} (hq : isTy W q 29) : isTy wr q 29 := by
  obtain ⟨cs, hcs⟩ := hq
  obtain ⟨cs', h1, _⟩ := h q cs hcs
  exact ⟨cs', h1⟩
theorem isTy.slotS {W wr : World} (h : SlotsS W wr) {q : Nat} (hq : isTy W q 62) : isTy wr q 62 := by
  obtain ⟨cs, hcs⟩ := hq
  obtain ⟨cs', h1, _⟩ := h q cs hcs
  exact ⟨cs', h1⟩
theorem StS.set {PE PS : Nat → Prop} {w0 W wr : World} (h : StS PE PS w0 W wr) {g o : Nat} (ht : isTy W g 62) (hP : PS g) (hg : w0.heap.size ≤ g) (ho : o % 6 < 3) (u : Value) : StS PE PS w0 W (wr.setCell ⟨g, o, none⟩ u) :=
  ⟨h.1.trans (Slots.setS (isTy.slotS h.2.1 ht) o u), h.2.1.trans (SlotsS.set wr g o u ho), h.2.2.1.setCell (.inl (.inr hP)) u, blS h.2.2.2 hg⟩
theorem StS.exps {PE PS : Nat → Prop} {w0 W wr w1 : World} (h : StS PE PS w0 W wr) (hPE : ∀ q, PE q → isTy W q 29) (h' : StE PE w0 wr w1) : StS PE PS w0 W w1 :=
  ⟨h.1.trans h'.1, h.2.1.trans (SlotsS.kept h'.2.1 fun q hq => isTy.slot h.1 (hPE q hq)), h.2.2.1.then_ h'.2.1 (fun k hk => .inl (.inl hk)), h'.2.2⟩
theorem StS.trans {PE PS : Nat → Prop} {w0 W wr w1 : World} (h : StS PE PS w0 W wr) (h' : StS PE PS w0 wr w1) : StS PE PS w0 W w1 := ⟨h.1.trans h'.1, h.2.1.trans h'.2.1, h.2.2.1.then_ h'.2.2.1 (fun k hk => .inl hk), h'.2.2.2⟩
/-- The contract of laws.markStmtS at statements less deep than n. -/
def MarkS (n : Nat) : Prop := ∀ (l : List S62) (v : Value) (a : Int) (PE PS : Nat → Prop) (w0 W : World), (∀ x ∈ l, SizeOf.sizeOf x < n) → ShS PE PS W v l → (∀ q, PE q → w0.heap.size ≤ q) → (∀ q, PS q → w0.heap.size ≤ q) → (∀ q, PE q → isTy W q 29) → Below w0.heap.size w0 W → 0 ≤ a → a + (mkSs l : Int) ≤ 1152921504606846976 →
  Calls Try.prog 59 #[v, .int .i64 a] W fun e w' => e = .returned (.int .i64 (a + (mkSs l : Int))) ∧ StS PE PS w0 W w'
/-- The cells of a row in a later world. -/
theorem later_cells {wr w1 : World} {g k : Nat} {cs : Array Value} {u3 u4 u5 : Value} (hb : wr.heap[g]? = some (.cells cs 62 (0, 0))) (hs : SlotsS wr w1) (h3 : cs[k * 6 + 3]? = some u3) (h4 : cs[k * 6 + 4]? = some u4) (h5 : cs[k * 6 + 5]? = some u5) :
    w1.cell? ⟨g, k * 6 + 3, none⟩ = some u3 ∧ w1.cell? ⟨g, k * 6 + 4, none⟩ = some u4 ∧ w1.cell? ⟨g, k * 6 + 5, none⟩ = some u5 := by
  obtain ⟨cs', h1, _, h6⟩ := hs g cs hb
  rw [blk_cell h1, blk_cell h1, blk_cell h1]
  exact ⟨(h6 k).1.trans h3, (h6 k).2.1.trans h4, (h6 k).2.2.trans h5⟩
set_option maxRecDepth 100000 in
set_option maxHeartbeats 4000000 in
theorem markS_step (n : Nat) (ih : ∀ j, j < n → MarkS j) : MarkS n := by
  intro l v a PE PS w0 W hx hsh hPE hPS hTE hB ha hM
  have hu62 := Try.underlying62
  have hst : StS PE PS w0 W W := ⟨Slots.refl W, SlotsS.refl W, Kept.refl W _, hB⟩
  have hll := mkSs_len l
  obtain ⟨A, c, rfl⟩ := hsh.form
  have HSH := Zs0.mk hsh
  have HPE := Zs0.mk hPE
  have HPS := Zs0.mk hPS
  have HTE := Zs0.mk hTE
  have HX := Zs0.mk hx
  have IH := Zs0.mk ih
  have HM := Zs0.mk hM
  have HA := Zs0.mk ha
  have HST := Zs0.mk hst
  have HLL := Zs0.mk hll
  clear hx hsh hPE hPS hTE hB hM hst hll ih ha
  go_enter Try.func59, Try.ntmps59
  go_wp2
  go_loopg [1, 5] l.length (fun gg s1 s5 wr => ∃ x1 y : Int, s1 = .int .i64 x1 ∧ s5 = .int .i64 y ∧ Zs0 (∃ kk : Nat, (kk : Int) = y ∧ kk ≤ l.length ∧ l.length - kk ≤ gg ∧ x1 = a + (mkSs (l.take kk) : Int) ∧ StS PE PS w0 W wr))
  case atStart => exact ⟨a, 0, rfl, rfl, ⟨⟨0, rfl, Nat.zero_le _, by omega, by rw [List.take_zero, mkSs]; omega, HST.out⟩⟩⟩
  case round =>
    obtain ⟨x1, y, rfl, rfl, A2⟩ := hrel
    by_cases hlt : y < (l.length : Int)
    · have c4b0 : decide (y < (l.length : Int)) = true := decide_eq_true hlt
      have p101 : 0 ≤ y := by obtain ⟨kk, h1, _⟩ := A2.out; omega
      obtain ⟨kk, hkk, hk1, hk2, hx1, hst⟩ := A2.out
      have hkl : kk < l.length := by omega
      have hnt := mkSs_take l kk hkl
      have hkn := mkS_eq l[kk]
      have hMM := HM.out
      have hAA := HA.out
      have x1lo : 0 ≤ x1 := by omega
      have x1hi : x1 + 3 + 4 * (nEs l[kk].f3 : Int) + (mkSs l[kk].f4 : Int) + (mkSs l[kk].f5 : Int) ≤ 1152921504606846976 := by omega
      have x1h2 : x1 ≤ 1152921504606846973 := by omega
      have hsh := HSH.out.move hst.1 hst.2.1
      obtain ⟨g, c', cs, v3, v4, v5, hvv, hg, hb, hz, hv3, hv4, hv5, hk3, hk4, hk5⟩ := hsh.inv (by omega)
      injection hvv with hvA _ hvc
      subst hvA
      subst hvc
      have j3 := hv3 kk hkl
      have j4 := hv4 kk hkl
      have j5 := hv5 kk hkl
      obtain ⟨A3, c3, f3⟩ := (hk3 kk hkl).form
      obtain ⟨A4, c4, f4⟩ := (hk4 kk hkl).form
      obtain ⟨A5, c5, f5⟩ := (hk5 kk hkl).form
      have s3 := hk3 kk hkl
      have s4 := hk4 kk hkl
      have s5 := hk5 kk hkl
      rw [f3] at j3 s3
      rw [f4] at j4 s4
      rw [f5] at j5 s5
      have hm : y.toNat = kk := by omega
      have hs0 : kk * 6 + 5 < cs.size := by omega
      have hte : ∀ q, PE q → isTy wr q 29 := fun q hq => isTy.slot hst.1 (HTE.out q hq)
      have hgt : isTy wr g 62 := ⟨cs, hb⟩
      have e0 : wr.cell? ⟨g, y.toNat * 6, none⟩ = some cs[kk * 6] := by rw [hm, blk_cell hb]; simp
      have e1 : wr.cell? ⟨g, y.toNat * 6 + 1, none⟩ = some cs[kk * 6 + 1] := by rw [hm, blk_cell hb]; simp
      have e2 : wr.cell? ⟨g, y.toNat * 6 + 2, none⟩ = some cs[kk * 6 + 2] := by rw [hm, blk_cell hb]; simp
      have e3 : wr.cell? ⟨g, y.toNat * 6 + 3, none⟩ = some (.slice A3 l[kk].f3.length c3) := by rw [hm, blk_cell hb]; exact j3
      have f0 : wr.frozen? ⟨g, y.toNat * 6, none⟩ = false := blk_frozen hb _
      have f1 : wr.frozen? ⟨g, y.toNat * 6 + 1, none⟩ = false := blk_frozen hb _
      have f2 : wr.frozen? ⟨g, y.toNat * 6 + 2, none⟩ = false := blk_frozen hb _
      generalize cs[kk * 6] = u0 at e0
      generalize cs[kk * 6 + 1] = u1 at e1
      generalize cs[kk * 6 + 2] = u2 at e2
      have hg0 := HPS.out g hg
      have hst0 : StS PE PS w0 wr wr := ⟨Slots.refl wr, SlotsS.refl wr, Kept.refl wr _, hst.2.2.2⟩
      have hs3 := Zs0.mk (fun (v0 v1 v2 : Value) => ((hst0.set hgt hg hg0 (o := y.toNat * 6) (by omega) v0).set hgt hg hg0 (o := y.toNat * 6 + 1) (by omega) v1).set hgt hg hg0 (o := y.toNat * 6 + 2) (by omega) v2)
      have hcE := Zs0.mk (fun (w1 : World) (h1 : StS PE PS w0 wr w1) (b : Int) (hb0 : 0 ≤ b) (hb1 : b + 4 * (nEs l[kk].f3 : Int) ≤ 1152921504606846976) => markE (SizeOf.sizeOf l[kk].f3 + 1) l[kk].f3 (.slice A3 l[kk].f3.length c3) b PE w0 w1 (fun z hz => by have := List.sizeOf_lt_of_mem hz; omega) (s3.move h1.1) HPE.out h1.2.2.2 hb0 hb1)
      have hcE2 := Zs0.mk (fun (w1 w2 : World) (h1 : StS PE PS w0 wr w1) (h2 : StE PE w0 w1 w2) => h1.exps hte h2)
      have hc4 := Zs0.mk (fun (w1 : World) (h1 : StS PE PS w0 wr w1) (b : Int) (hb0 : 0 ≤ b) (hb1 : b + (mkSs l[kk].f4 : Int) ≤ 1152921504606846976) => IH.out (SizeOf.sizeOf l[kk]) (HX.out _ (List.getElem_mem hkl)) l[kk].f4 (.slice A4 l[kk].f4.length c4) b PE PS w0 w1 (fun z hz => kidS4_lt hz) (s4.move h1.1 h1.2.1) HPE.out HPS.out (fun q hq => isTy.slot h1.1 (hte q hq)) h1.2.2.2 hb0 hb1)
      have hc5 := Zs0.mk (fun (w1 : World) (h1 : StS PE PS w0 wr w1) (b : Int) (hb0 : 0 ≤ b) (hb1 : b + (mkSs l[kk].f5 : Int) ≤ 1152921504606846976) => IH.out (SizeOf.sizeOf l[kk]) (HX.out _ (List.getElem_mem hkl)) l[kk].f5 (.slice A5 l[kk].f5.length c5) b PE PS w0 w1 (fun z hz => kidS5_lt hz) (s5.move h1.1 h1.2.1) HPE.out HPS.out (fun q hq => isTy.slot h1.1 (hte q hq)) h1.2.2.2 hb0 hb1)
      have hlat := Zs0.mk (fun (w1 : World) (h1 : StS PE PS w0 wr w1) => (show w1.cell? ⟨g, y.toNat * 6 + 3, none⟩ = some (.slice A3 l[kk].f3.length c3) ∧ w1.cell? ⟨g, y.toNat * 6 + 4, none⟩ = some (.slice A4 l[kk].f4.length c4) ∧ w1.cell? ⟨g, y.toNat * 6 + 5, none⟩ = some (.slice A5 l[kk].f5.length c5) from by rw [hm]; exact later_cells hb h1.2.1 j3 j4 j5))
      generalize hl3 : l[kk].f3 = es at *
      generalize hl4 : l[kk].f4 = ps at *
      generalize hl5 : l[kk].f5 = qs at *
      have X1HI := Zs0.mk x1hi
      have X1LO := Zs0.mk x1lo
      have HKK := Zs0.mk hkk
      have HK2 := Zs0.mk hk2
      have HX1 := Zs0.mk hx1
      have HS := Zs0.mk hst
      have HKN := Zs0.mk hkn
      have HNT := Zs0.mk hnt
      have HKL := Zs0.mk hkl
      clear hkk hk1 hk2 hx1 hst hkn hnt hMM hAA s3 s4 s5 j3 j4 j5 f3 f4 f5 hv3 hv4 hv5 hk3 hk4 hk5 hz hb hm hs0 hst0 hg hg0 hgt hte hl3 hl4 hl5 x1hi hsh
      replace p101 := eq_true p101
      replace hlt := eq_true hlt
      go_wp2_with fail
      go_at_call 57
      refine (hcE.out _ (hs3.out (.int .i64 x1) (.int .i64 (x1 + 1)) (.int .i64 (x1 + 1 + 1))) _ (by omega) (by have := X1HI.out; omega)).mono ?_
      rintro e w1 ⟨rfl, hst1⟩
      have HST1 := Zs0.mk (hcE2.out _ _ (hs3.out (.int .i64 x1) (.int .i64 (x1 + 1)) (.int .i64 (x1 + 1 + 1))) hst1)
      have e4 := (hlat.out _ HST1.out).2.1
      clear hst1 hs3 hcE hcE2 e0 e1 e2 e3 f0 f1 f2
      go_wp2_with fail
      go_at_call 59
      refine (hc4.out _ HST1.out _ (by have := X1LO.out; omega) (by have := X1HI.out; omega)).mono ?_
      rintro e w2 ⟨rfl, hst2⟩
      have HST2 := Zs0.mk (HST1.out.trans hst2)
      have e5 := (hlat.out _ HST2.out).2.2
      clear hst2 hc4 e4
      go_wp2_with fail
      go_at_call 59
      refine (hc5.out _ HST2.out _ (by have := X1LO.out; omega) (by have := X1HI.out; omega)).mono ?_
      rintro e w3 ⟨rfl, hst3⟩
      have HST3 := Zs0.mk (HST2.out.trans hst3)
      clear hst3 hc5 e5
      go_wp2
      go_roundg (gk - 1)
      case measure => have h1 := HK2.out; have h2 := HKL.out; omega
      case rel =>
        refine ⟨_, wrap64 (y + 1), rfl, by first | rfl | (simp; done), ⟨?_⟩⟩
        have h1 := HKK.out
        have h2 := HKL.out
        have h3 := HK2.out
        have h4 := HLL.out
        have h5 := HX1.out
        have h6 := HKN.out
        have h7 := HNT.out
        have h8 := HM.out
        have h9 := HA.out
        have hle : l.length ≤ 9223372036854775806 := by omega
        refine ⟨kk + 1, by rw [wrap_ok (by omega) (by omega)]; omega, by omega, by omega, ?_, HS.out.trans HST3.out⟩
        rw [mkSs_snoc l kk h2]
        omega
    · have c4b0 : decide (y < (l.length : Int)) = false := decide_eq_false hlt
      have HLT := Zs0.mk hlt
      clear hlt
      go_wp2
      go_ret
      obtain ⟨kk, hkk, h1, h2, h3, h4⟩ := A2.out
      have h5 := HLT.out
      rw [List.take_of_length_le (by omega)] at h3
      exact ⟨by rw [h3]; rfl, h4⟩
theorem markS (n : Nat) : MarkS n := by
  induction n using Nat.strongRecOn with
  | ind n ih => exact markS_step n ih
theorem ShS.of_R {PE PS : Nat → Prop} {W : World} {base : Nat} : ∀ (n : Nat) (l : List S62) (v : Value) (ok : Nat → Prop), (∀ x ∈ l, SizeOf.sizeOf x < n) → Kd.R k62 62 W base ok v l → (∀ q, ok q → base ≤ q → isTy W q 29 → PE q) → (∀ q, ok q → base ≤ q → isTy W q 62 → PS q) → ShS PE PS W v l := by
  intro n
  induction n using Nat.strongRecOn with
  | ind n ih =>
    intro l v ok hx hR hPE hPS
    obtain ⟨h0, inner, ho, hr⟩ := hR
    rcases ho.2 with ⟨rfl, hz⟩ | ⟨g, cap, cur, rfl, hg, hh, h2, h3, h4, h5⟩
    · obtain rfl : l = [] := List.eq_nil_of_length_eq_zero hz
      exact ShS.nil _ _
    · have hsz : k62.sz = 6 := rfl
      rw [hsz] at h4 h5
      have hok : ok g := h0 g (by simp [Value.ownBlock])
      have key : ∀ i (h : i < l.length), ∃ v3 v4 v5, cur[i * 6 + 3]? = some v3 ∧ cur[i * 6 + 4]? = some v4 ∧ cur[i * 6 + 5]? = some v5 ∧ Kd.R k29 29 W base (fun k => ok k ∧ some k ≠ (Value.slice (some ⟨g, 0, none⟩) l.length cap).ownBlock) v3 l[i].f3 ∧ Kd.R k62 62 W base (fun k => ok k ∧ some k ≠ (Value.slice (some ⟨g, 0, none⟩) l.length cap).ownBlock) v4 l[i].f4 ∧ Kd.R k62 62 W base (fun k => ok k ∧ some k ≠ (Value.slice (some ⟨g, 0, none⟩) l.length cap).ownBlock) v5 l[i].f5 := by
        intro i h
        have hM := hr.2 i _ (List.getElem?_eq_getElem h)
        rw [hsz] at hM
        obtain ⟨v3, v4, v5, hcs, hR3, hR4, hR5⟩ := k62_openM hM
        refine ⟨v3, v4, v5, ?_, ?_, ?_, hR3, hR4, hR5⟩
        · have hc4 := congrArg (fun z => z[3]?) hcs
          simp only [List.getElem?_take, List.getElem?_drop] at hc4
          rw [if_pos (by omega)] at hc4
          rw [← h5, List.getElem?_take, if_pos (by omega), Array.getElem?_toList] at hc4
          exact hc4
        · have hc4 := congrArg (fun z => z[4]?) hcs
          simp only [List.getElem?_take, List.getElem?_drop] at hc4
          rw [if_pos (by omega)] at hc4
          rw [← h5, List.getElem?_take, if_pos (by omega), Array.getElem?_toList] at hc4
          exact hc4
        · have hc4 := congrArg (fun z => z[5]?) hcs
          simp only [List.getElem?_take, List.getElem?_drop] at hc4
          rw [if_pos (by omega)] at hc4
          rw [← h5, List.getElem?_take, if_pos (by omega), Array.getElem?_toList] at hc4
          exact hc4
      refine ShS.row g cap cur l (fun i => cur.getD (i * 6 + 3) undef) (fun i => cur.getD (i * 6 + 4) undef) (fun i => cur.getD (i * 6 + 5) undef) (hPS g hok hg ⟨cur, hh⟩) hh (by omega) (fun i hi => ?_) (fun i hi => ?_) (fun i hi => ?_) (fun i hi => ?_) (fun i hi => ?_) (fun i hi => ?_)
      · obtain ⟨v3, v4, v5, g3, g4, g5, _⟩ := key i hi
        rw [g3]
        simp only [Array.getD_eq_getD_getElem?, g3, Option.getD_some]
      · obtain ⟨v3, v4, v5, g3, g4, g5, _⟩ := key i hi
        rw [g4]
        simp only [Array.getD_eq_getD_getElem?, g4, Option.getD_some]
      · obtain ⟨v3, v4, v5, g3, g4, g5, _⟩ := key i hi
        rw [g5]
        simp only [Array.getD_eq_getD_getElem?, g5, Option.getD_some]
      · obtain ⟨v3, v4, v5, g3, g4, g5, r3, r4, r5⟩ := key i hi
        have h8 : cur.getD (i * 6 + 3) undef = v3 := by simp only [Array.getD_eq_getD_getElem?, g3, Option.getD_some]
        rw [h8]
        exact ShE.of_R (SizeOf.sizeOf l[i].f3 + 1) l[i].f3 v3 _ (fun z hz => by have := List.sizeOf_lt_of_mem hz; omega) r3 (fun q hq => hPE q hq.1)
      · obtain ⟨v3, v4, v5, g3, g4, g5, r3, r4, r5⟩ := key i hi
        have h8 : cur.getD (i * 6 + 4) undef = v4 := by simp only [Array.getD_eq_getD_getElem?, g4, Option.getD_some]
        rw [h8]
        exact ih (SizeOf.sizeOf l[i]) (hx _ (List.getElem_mem hi)) l[i].f4 v4 _ (fun z hz => kidS4_lt hz) r4 (fun q hq => hPE q hq.1) (fun q hq => hPS q hq.1)
      · obtain ⟨v3, v4, v5, g3, g4, g5, r3, r4, r5⟩ := key i hi
        have h8 : cur.getD (i * 6 + 5) undef = v5 := by simp only [Array.getD_eq_getD_getElem?, g5, Option.getD_some]
        rw [h8]
        exact ih (SizeOf.sizeOf l[i]) (hx _ (List.getElem_mem hi)) l[i].f5 v5 _ (fun z hz => kidS5_lt hz) r5 (fun q hq => hPE q hq.1) (fun q hq => hPS q hq.1)
/-- Marking rows of statements that are the call's own. -/
theorem markStmtS_R (l : List S62) (v : Value) (a : Int) (ok : Nat → Prop) (w0 W : World) (hR : Kd.R k62 62 W w0.heap.size ok v l) (hB : Below w0.heap.size w0 W) (ha : 0 ≤ a) (hM : a + (mkSs l : Int) ≤ 1152921504606846976) :
    Calls Try.prog 59 #[v, .int .i64 a] W fun e w' => e = .returned (.int .i64 (a + (mkSs l : Int))) ∧ StS (fun q => ok q ∧ w0.heap.size ≤ q ∧ isTy W q 29) (fun q => ok q ∧ w0.heap.size ≤ q ∧ isTy W q 62) w0 W w' :=
  markS (SizeOf.sizeOf l + 1) l v a _ _ w0 W (fun x hx => by have := List.sizeOf_lt_of_mem hx; omega) (ShS.of_R _ l v ok (fun x hx => List.sizeOf_lt_of_mem hx) hR (fun q h1 h2 h3 => ⟨h1, h2, h3⟩) (fun q h1 h2 h3 => ⟨h1, h2, h3⟩)) (fun q h => h.2.1) (fun q h => h.2.1) (fun q h => h.2.2) hB ha hM
/-- What marking a program may write: the row of sizes (v), rows of statements, rows of expressions. -/
def markP (w : World) (v : Value) (q : Nat) : Prop := some q = v.ownBlock ∨ isTy w q 62 ∨ isTy w q 29
def laws_markProgram.f (zs : List Int) (p v : Int) (l : List S62) (a : Int) : Option Int := if 0 ≤ a ∧ zs.length ≤ 1099511627776 ∧ a + (zs.length : Int) + (mkSs l : Int) ≤ 1152921504606846976 then some (a + (zs.length : Int) + (mkSs l : Int)) else none
set_option maxRecDepth 100000 in
set_option maxHeartbeats 4000000 in
theorem laws_markProgram.calls {A0 : Option Addr} {c0 : Nat} {zs : List Int} {p v : Int} {A3 : Option Addr} {c3 : Nat} {l : List S62} {a r : Int} {w0 w : World} {ok ok3 : Nat → Prop} (hB : Below w0.heap.size w0 w)
    (h0 : Kd.R (Kd.int .i64) 3 w w0.heap.size ok (.slice A0 zs.length c0) zs) (h3 : Kd.R k62 62 w w0.heap.size ok3 (.slice A3 l.length c3) l) (h : laws_markProgram.f zs p v l a = some r) :
    Calls Try.prog 29 #[.agg #[.slice A0 zs.length c0, .int .i64 p, .int .i64 v, .slice A3 l.length c3], .int .i64 a] w fun e w' => e = .returned (.int .i64 r) ∧ Below w0.heap.size w0 w' ∧ Kept w w' (markP w (.slice A0 zs.length c0)) ∧ ∀ q, markP w (.slice A0 zs.length c0) q → isTy w q 3 ∨ isTy w q 62 ∨ isTy w q 29 := by
  have huIR := Try.underlying40
  unfold laws_markProgram.f at h
  by_cases hc : 0 ≤ a ∧ zs.length ≤ 1099511627776 ∧ a + (zs.length : Int) + (mkSs l : Int) ≤ 1152921504606846976
  · rw [if_pos hc] at h
    obtain rfl := Option.some.inj h
    obtain ⟨g1, g2, g3⟩ := hc
    have ty : ∀ q, some q = (Value.slice A0 zs.length c0).ownBlock → isTy w q 3 := fun q hq => by
      obtain ⟨cs, hcs⟩ := own_typed (Kd.own_of_R h0) q hq.symm
      exact ⟨cs, hcs⟩
    have mk : Ev (fun k => laws_markIntS.f k zs a) (a + (zs.length : Int), seqFrom a zs.length) := markInts_ev laws_markIntS.f laws_markIntS.l0 (fun _ _ _ => rfl) (fun _ _ _ _ => by rw [laws_markIntS.l0]) zs a g1 (by omega)
    obtain ⟨k, hk⟩ := mk.rounds
    have HT := Zs0.mk ty
    have HE1 := Zs0.mk hk
    have HB := Zs0.mk hB
    have H0 := Zs0.mk (show Kd.R (Kd.int .i64) 3 w w0.heap.size (fun q => some q = (Value.slice A0 zs.length c0).ownBlock ∧ q < w.heap.size) (.slice A0 zs.length c0) zs from Kd.R_mono (Kd.R_bound (Kd.R_tight rfl h0)) fun q hq => ⟨hq.1, hq.2.2.1⟩)
    have h3' : Kd.R k62 62 w w0.heap.size (fun q => (isTy w q 62 ∨ isTy w q 29) ∧ q < w.heap.size) (.slice A3 l.length c3) l := Kd.R_mono (Kd.R_bound h3) fun q hq => by
      obtain ⟨_, _, hlt, e, he, hc⟩ := hq
      refine ⟨?_, hlt⟩
      rcases List.mem_cons.1 he with rfl | he
      · exact .inl hc
      · have he2 : e ∈ ([29, 62] : List TypeId) := he
        rcases List.mem_cons.1 he2 with rfl | he2
        · exact .inr hc
        · obtain rfl := List.mem_singleton.1 he2
          exact .inl hc
    have H3 := Zs0.mk h3'
    have G1 := Zs0.mk (show 0 ≤ a + (zs.length : Int) by omega)
    have G3 := Zs0.mk g3
    clear h0 h3 h hB hk mk ty h3' g1 g2 g3
    go_enter Try.func29, Try.ntmps29
    go_wp2_with fail
    go_at_call 25
    refine (laws_markIntS.calls k (fun q => some q = (Value.slice A0 zs.length c0).ownBlock ∧ q < w.heap.size) _ zs a _ _ w0 _ (blA HB.out _) (Kd.R_alloc H0.out _) HE1.out).mono ?_
    rintro e w1 ⟨rfl, _, hb1, hk1⟩
    have hl1 := hk1.1
    have e3 := cell_kept (a := ⟨w.heap.size, 3, none⟩) (show _ = some (.slice A3 l.length c3) by simp) hk1 (fun h => Nat.lt_irrefl _ h.2)
    have HB1 := Zs0.mk hb1
    have HK1 := Zs0.mk hk1
    clear hb1 hk1
    go_wp2_with fail
    go_at_call 59
    refine (markStmtS_R l (.slice A3 l.length c3) _ (fun q => (isTy w q 62 ∨ isTy w q 29) ∧ q < w.heap.size) w0 _ (Kd.R_kept (Kd.R_alloc H3.out _) HK1.out (fun q h1 h2 => by
      have ht := HT.out q h2.1
      rcases h1.1 with h1 | h1
      · exact absurd (isTy_one ht h1) (by decide)
      · exact absurd (isTy_one ht h1) (by decide))) HB1.out G1.out G3.out).mono ?_
    rintro e w2 ⟨rfl, _, _, hk2, hb2⟩
    have HB2 := Zs0.mk hb2
    have HK2 := Zs0.mk hk2
    clear hb2 hk2
    go_wp2
    go_ret
    refine ⟨rfl, HB2.out, ?_, fun q hq => hq.elim (fun h => .inl (HT.out q h)) .inr⟩
    exact (((Kept.refl w _).alloc _).then_ (HK1.out.mono (S' := markP w (.slice A0 zs.length c0)) fun q h => Or.inl h.1) fun q h => .inl h).then_ HK2.out fun q h => by
      rcases h with h | h
      · exact .inl (.inr h.1.1)
      · exact .inl (.inr h.1.1)
  · rw [if_neg hc] at h
    cases h
/-- A row of whole numbers that is known apart from what is marked. -/
theorem keepIp {base : Nat} {ok : Nat → Prop} {w w2 : World} {v u : Value} {xs : List Int} (h : Kd.R (Kd.int .i64) 3 w base ok v xs) (hk : Kept w w2 (markP w u)) (hne : ∀ q, ok q → some q ≠ u.ownBlock) : Kd.R (Kd.int .i64) 3 w2 base ok v xs :=
  Kd.R_mono (Kd.R_kept (Kd.R_bound h) hk fun q hq hs => by
    obtain ⟨h1, _, _, t, ht, hc⟩ := hq
    obtain rfl := List.mem_singleton.1 ht
    rcases hs with hs | hs | hs
    · exact hne q h1 hs
    · exact absurd (isTy_one hc hs) (by decide)
    · exact absurd (isTy_one hc hs) (by decide)) fun q hq => hq.1
theorem keepBp {w w2 : World} {g : Nat} {t : TypeId} {cs : Array Value} {u : Value} (h : w.heap[g]? = some (.cells cs t (0, 0))) (hk : Kept w w2 (markP w u)) (hty : ∀ q, markP w u q → isTy w q 3 ∨ isTy w q 62 ∨ isTy w q 29) (h1 : t ≠ 3 ∧ t ≠ 62 ∧ t ≠ 29) : w2.heap[g]? = some (.cells cs t (0, 0)) :=
  blk_kept h hk fun hs => by
    have hg : isTy w g t := ⟨cs, h⟩
    rcases hty g hs with h2 | h2 | h2
    · exact h1.1 (isTy_one hg h2)
    · exact h1.2.1 (isTy_one hg h2)
    · exact h1.2.2 (isTy_one hg h2)
end Go.Proofs.Ytjcggilkfofiaaa.P
