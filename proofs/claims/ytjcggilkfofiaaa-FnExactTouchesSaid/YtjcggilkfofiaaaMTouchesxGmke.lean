/- Marking the expressions in rows of the call's own: the number that comes back, and that nothing is written but those rows. Conditions: fewer parts than 2^40. -/
import Derived.Test.YtjcggilkfofiaaaMTouches0xa
import Derived.Test.YtjcggilkfofiaaaMTouches0d
namespace Go.Proofs.Ytjcggilkfofiaaa.P
open Go.RowKit Go.Proofs.Ytjcggilkfofiaaa.Ex Go.Proofs.YtjcggilkfofiaaaW.PrintWords Go.Proofs.YtjcggilkfofiaaaW.PrintLast Go.Proofs.YtjcggilkfofiaaaW.PrintMore Go.Proofs.Ytjcggilkfofiaaa.Aux
set_option linter.unusedVariables false
set_option linter.unusedSimpArgs false
theorem text_ev (n : Int) (hn : n ≤ 9223372036854775807) : ∃ r, Ev (fun k => laws_markText.f k n) r := markText_ev laws_markText.f laws_markText.l0 (fun _ _ => by unfold laws_markText.f; rfl) (fun _ _ _ => by rw [laws_markText.l0]) n hn
theorem text_calls (n : Int) (hn : n ≤ 9223372036854775807) : ∃ t : ByteArray, ∀ W : World, Calls Try.prog 68 #[.int .i64 n] W fun e w' => e = .returned (.string t) ∧ Below W.heap.size W w' := by
  obtain ⟨t, ht⟩ := text_ev n hn
  obtain ⟨k, hk⟩ := ht.rounds
  exact ⟨t, fun W => laws_markText.calls k n t W hk⟩
/-- Behind a call that makes memory alone: what was there reads as_ before. -/
theorem old_cells {W w1 : World} (hb : Below W.heap.size W w1) : (∀ b o, b < W.heap.size → w1.cell? ⟨b, o, none⟩ = W.cell? ⟨b, o, none⟩) ∧ (∀ b o, b < W.heap.size → w1.frozen? ⟨b, o, none⟩ = W.frozen? ⟨b, o, none⟩) :=
  ⟨fun b o h => hb.cell (p := ⟨b, o, none⟩) h, fun b o h => hb.frozen (p := ⟨b, o, none⟩) h⟩
theorem nEs_snoc : ∀ (l : List S29) (k : Nat) (h : k < l.length), nEs (l.take (k + 1)) = nEs (l.take k) + nE l[k]
  | x :: xs, 0, h => by simp [nEs]
  | x :: xs, k + 1, h => by
    have := nEs_snoc xs k (by simpa using h)
    simp only [List.take_succ_cons, nEs, List.getElem_cons_succ]
    omega
/-- What rows of expressions look like: where they lie, and where the rows in them lie. -/
inductive ShE (P : Nat → Prop) (W : World) : Value → List S29 → Prop
  | nil (A : Option Addr) (c : Nat) : ShE P W (.slice A 0 c) []
  | row (g c : Nat) (cs : Array Value) (l : List S29) (vs : Nat → Value) (hg : P g) (hb : W.heap[g]? = some (.cells cs 29 (0, 0))) (hs : l.length * 5 ≤ cs.size) (hv : ∀ i, i < l.length → cs[i * 5 + 4]? = some (vs i)) (hk : ∀ i (h : i < l.length), ShE P W (vs i) l[i].f4) : ShE P W (.slice (some ⟨g, 0, none⟩) l.length c) l
theorem ShE.form {P : Nat → Prop} {W : World} {v : Value} {l : List S29} (h : ShE P W v l) : ∃ A c, v = .slice A l.length c := by
  cases h
  · exact ⟨_, _, rfl⟩
  · exact ⟨_, _, rfl⟩
theorem ShE.inv {P : Nat → Prop} {W : World} {v : Value} {l : List S29} (h : ShE P W v l) (hne : 0 < l.length) : ∃ (g c : Nat) (cs : Array Value) (vs : Nat → Value), v = .slice (some ⟨g, 0, none⟩) l.length c ∧ P g ∧ W.heap[g]? = some (.cells cs 29 (0, 0)) ∧ l.length * 5 ≤ cs.size ∧ (∀ i, i < l.length → cs[i * 5 + 4]? = some (vs i)) ∧ ∀ i (h : i < l.length), ShE P W (vs i) l[i].f4 := by
  cases h with
  | nil A c => exact absurd hne (Nat.lt_irrefl _)
  | row g c cs l vs hg hb hs hv hk => exact ⟨g, c, cs, vs, rfl, hg, hb, hs, hv, hk⟩
/-- Rows of expressions stay where they are, and lead where they led. -/
def Slots (W W' : World) : Prop := ∀ (q : Nat) (cs : Array Value), W.heap[q]? = some (.cells cs 29 (0, 0)) → ∃ cs' : Array Value, W'.heap[q]? = some (.cells cs' 29 (0, 0)) ∧ cs'.size = cs.size ∧ ∀ i, cs'[i * 5 + 4]? = cs[i * 5 + 4]?
theorem Slots.refl (W : World) : Slots W W := fun q cs h => ⟨cs, h, rfl, fun _ => rfl⟩
theorem Slots.trans {W W1 W2 : World} (h : Slots W W1) (h' : Slots W1 W2) : Slots W W2 := fun q cs hq => by
  obtain ⟨c1, h1, h2, h3⟩ := h q cs hq
  obtain ⟨c2, k1, k2, k3⟩ := h' q c1 h1
  exact ⟨c2, k1, k2.trans h2, fun i => (k3 i).trans (h3 i)⟩
theorem Slots.below {W W' : World} (h : Below W.heap.size W W') : Slots W W' := fun q cs hq => ⟨cs, blk_below hq h, rfl, fun _ => rfl⟩
theorem Slots.set (W : World) (g o : Nat) (u : Value) (ho : o % 5 ≠ 4) : Slots W (W.setCell ⟨g, o, none⟩ u) := fun q cs hq => by
  by_cases e : q = g
  · subst e
    refine ⟨cs.setIfInBounds o u, blk_set hq o u, by simp, fun i => ?_⟩
    rw [Array.getElem?_setIfInBounds_ne (by omega)]
  · exact ⟨cs, (Below.heap_setCell W ⟨g, o, none⟩ u q e).trans hq, rfl, fun _ => rfl⟩
theorem ShE.move {P : Nat → Prop} {W W' : World} {v : Value} {l : List S29} (h : ShE P W v l) (hs : Slots W W') : ShE P W' v l := by
  induction h with
  | nil A c => exact ShE.nil A c
  | row g c cs l vs hg hb hz hv hk ih =>
    obtain ⟨cs', h1, h2, h3⟩ := hs g cs hb
    exact ShE.row g c cs' l vs hg h1 (by omega) (fun i hi => (h3 i).trans (hv i hi)) ih
/-- What becomes of the world. -/
def StE (P : Nat → Prop) (w0 W wr : World) : Prop := Slots W wr ∧ Kept W wr P ∧ Below w0.heap.size w0 wr
theorem StE.set {P : Nat → Prop} {w0 W wr : World} (h : StE P w0 W wr) {g o : Nat} (hP : P g) (hg : w0.heap.size ≤ g) (ho : o % 5 ≠ 4) (u : Value) : StE P w0 W (wr.setCell ⟨g, o, none⟩ u) := ⟨h.1.trans (Slots.set wr g o u ho), h.2.1.setCell (.inl hP) u, blS h.2.2 hg⟩
theorem StE.below {P : Nat → Prop} {w0 W wr w1 : World} (h : StE P w0 W wr) (hb : Below wr.heap.size wr w1) : StE P w0 W w1 := ⟨h.1.trans (Slots.below hb), h.2.1.below hb, blT h.2.2 hb⟩
theorem StE.trans {P : Nat → Prop} {w0 W wr w1 : World} (h : StE P w0 W wr) (h' : StE P w0 wr w1) : StE P w0 W w1 := ⟨h.1.trans h'.1, h.2.1.then_ h'.2.1 (fun k hk => .inl hk), h'.2.2⟩
/-- The contract of laws.markExpS at expressions less deep than n. -/
def MarkE (n : Nat) : Prop := ∀ (l : List S29) (v : Value) (a : Int) (P : Nat → Prop) (w0 W : World), (∀ x ∈ l, SizeOf.sizeOf x < n) → ShE P W v l → (∀ q, P q → w0.heap.size ≤ q) → Below w0.heap.size w0 W → 0 ≤ a → a + 4 * (nEs l : Int) ≤ 1152921504606846976 →
  Calls Try.prog 57 #[v, .int .i64 a] W fun e w' => e = .returned (.int .i64 (a + 4 * (nEs l : Int))) ∧ StE P w0 W w'
set_option maxRecDepth 100000 in
set_option maxHeartbeats 4000000 in
theorem markE_step (n : Nat) (ih : ∀ j, j < n → MarkE j) : MarkE n := by
  intro l v a P w0 W hx hsh hP hB ha hM
  have hu29 := Try.underlying29
  have hst : StE P w0 W W := ⟨Slots.refl W, Kept.refl W P, hB⟩
  have hll := nEs_len l
  obtain ⟨A, c, rfl⟩ := hsh.form
  have HSH := Zs0.mk hsh
  have HP := Zs0.mk hP
  have HX := Zs0.mk hx
  have IH := Zs0.mk ih
  have HM := Zs0.mk hM
  have HA := Zs0.mk ha
  have HST := Zs0.mk hst
  have HLL := Zs0.mk hll
  clear hx hsh hP hB hM hst hll ih ha
  go_enter Try.func57, Try.ntmps57
  go_wp2
  go_loopg [1, 5] l.length (fun gg s1 s5 wr => ∃ x1 y : Int, s1 = .int .i64 x1 ∧ s5 = .int .i64 y ∧ Zs0 (∃ kk : Nat, (kk : Int) = y ∧ kk ≤ l.length ∧ l.length - kk ≤ gg ∧ x1 = a + 4 * (nEs (l.take kk) : Int) ∧ StE P w0 W wr))
  case atStart => exact ⟨a, 0, rfl, rfl, ⟨⟨0, rfl, Nat.zero_le _, by omega, by rw [List.take_zero, nEs]; omega, HST.out⟩⟩⟩
  case round =>
    obtain ⟨x1, y, rfl, rfl, A2⟩ := hrel
    by_cases hlt : y < (l.length : Int)
    · have c4b0 : decide (y < (l.length : Int)) = true := decide_eq_true hlt
      have p101 : 0 ≤ y := by obtain ⟨kk, h1, _⟩ := A2.out; omega
      obtain ⟨kk, hkk, hk1, hk2, hx1, hst⟩ := A2.out
      have hkl : kk < l.length := by omega
      have hnt := nEs_take l kk hkl
      have hkn := nE_eq l[kk]
      have hMM := HM.out
      have hAA := HA.out
      have x1lo : 0 ≤ x1 := by omega
      have x1hi : x1 + 4 + 4 * (nEs l[kk].f4 : Int) ≤ 1152921504606846976 := by omega
      have x1h2 : x1 ≤ 1152921504606846972 := by omega
      have hsh := HSH.out.move hst.1
      obtain ⟨g, c', cs, vs, hvv, hg, hb, hz, hv, hk⟩ := hsh.inv (by omega)
      injection hvv with hvA _ hvc
      subst hvA
      subst hvc
      have h4 := hv kk hkl
      obtain ⟨A4, c4, h4f⟩ := (hk kk hkl).form
      have hsk := hk kk hkl
      rw [h4f] at h4 hsk
      have hm : y.toNat = kk := by omega
      have hs0 : kk * 5 + 4 < cs.size := by omega
      have e0 : wr.cell? ⟨g, y.toNat * 5, none⟩ = some cs[kk * 5] := by rw [hm, blk_cell hb]; simp
      have e1 : wr.cell? ⟨g, y.toNat * 5 + 1, none⟩ = some cs[kk * 5 + 1] := by rw [hm, blk_cell hb]; simp
      have e2 : wr.cell? ⟨g, y.toNat * 5 + 2, none⟩ = some cs[kk * 5 + 2] := by rw [hm, blk_cell hb]; simp
      have e3 : wr.cell? ⟨g, y.toNat * 5 + 3, none⟩ = some cs[kk * 5 + 3] := by rw [hm, blk_cell hb]; simp
      have e4 : wr.cell? ⟨g, y.toNat * 5 + 4, none⟩ = some (.slice A4 l[kk].f4.length c4) := by rw [hm, blk_cell hb]; exact h4
      have f0 : wr.frozen? ⟨g, y.toNat * 5, none⟩ = false := blk_frozen hb _
      have f1 : wr.frozen? ⟨g, y.toNat * 5 + 1, none⟩ = false := blk_frozen hb _
      have f2 : wr.frozen? ⟨g, y.toNat * 5 + 2, none⟩ = false := blk_frozen hb _
      have f3 : wr.frozen? ⟨g, y.toNat * 5 + 3, none⟩ = false := blk_frozen hb _
      generalize cs[kk * 5] = u0 at e0
      generalize cs[kk * 5 + 1] = u1 at e1
      generalize cs[kk * 5 + 2] = u2 at e2
      generalize cs[kk * 5 + 3] = u3 at e3
      have hglt := blk_lt hb
      obtain ⟨t, ht⟩ := text_calls (x1 + 1 + 1 + 1) (by omega)
      have hg0 := HP.out g hg
      have hst0 : StE P w0 wr wr := ⟨Slots.refl wr, Kept.refl wr P, hst.2.2⟩
      have hs3 := Zs0.mk (fun (v0 v1 v2 : Value) => ((hst0.set hg hg0 (o := y.toNat * 5) (by omega) v0).set hg hg0 (o := y.toNat * 5 + 1) (by omega) v1).set hg hg0 (o := y.toNat * 5 + 2) (by omega) v2)
      have hs4 := Zs0.mk (fun (w1 : World) (h1 : StE P w0 wr w1) (v3 : Value) => h1.set hg hg0 (o := y.toNat * 5 + 3) (by omega) v3)
      have hcall := Zs0.mk (fun (w1 : World) (h1 : StE P w0 wr w1) (b : Int) (hb0 : 0 ≤ b) (hb1 : b + 4 * (nEs l[kk].f4 : Int) ≤ 1152921504606846976) => IH.out (SizeOf.sizeOf l[kk]) (HX.out _ (List.getElem_mem hkl)) l[kk].f4 (.slice A4 l[kk].f4.length c4) b P w0 w1 (fun z hz => kid_lt hz) (hsk.move h1.1) HP.out h1.2.2 hb0 hb1)
      generalize hl4 : l[kk].f4 = ks at *
      have HT := Zs0.mk ht
      have X1HI := Zs0.mk x1hi
      have HKK := Zs0.mk hkk
      have HK2 := Zs0.mk hk2
      have HX1 := Zs0.mk hx1
      have HS := Zs0.mk hst
      have HKN := Zs0.mk hkn
      have HNT := Zs0.mk hnt
      have HKL := Zs0.mk hkl
      clear ht hkk hk1 hk2 hx1 hst hkn hnt hMM hAA hsk h4 h4f hv hk hz hb hm hs0 hst0 hg hg0 hl4 x1hi
      replace p101 := eq_true p101
      replace hlt := eq_true hlt
      go_wp2_with fail
      go_at_call 68
      refine (HT.out _).mono ?_
      rintro e w1 ⟨rfl, hb1⟩
      have hst1 := (hs3.out (.int .i64 x1) (.int .i64 (x1 + 1)) (.int .i64 (x1 + 1 + 1))).below hb1
      obtain ⟨hcl, hfr⟩ := old_cells hb1
      have HST1 := Zs0.mk hst1
      have e3' : w1.cell? ⟨g, y.toNat * 5 + 3, none⟩ = some u3 := by
        rw [hcl g _ (by simpa using hglt)]
        rw [World.cell?_setCell_other _ _ _ _ (by simp), World.cell?_setCell_other _ _ _ _ (by simp), World.cell?_setCell_other _ _ _ _ (by simp)]
        exact e3
      have e4' : w1.cell? ⟨g, y.toNat * 5 + 4, none⟩ = some (.slice A4 ks.length c4) := by
        rw [hcl g _ (by simpa using hglt)]
        rw [World.cell?_setCell_other _ _ _ _ (by simp), World.cell?_setCell_other _ _ _ _ (by simp), World.cell?_setCell_other _ _ _ _ (by simp)]
        exact e4
      have f3' : w1.frozen? ⟨g, y.toNat * 5 + 3, none⟩ = false := by
        rw [hfr g _ (by simpa using hglt)]
        rw [World.frozen?_setCell, World.frozen?_setCell, World.frozen?_setCell]
        exact f3
      clear hcl hfr hb1 hst1 hs3 e0 e1 e2 e3 e4 f0 f1 f2 f3
      go_wp2_with fail
      go_at_call 57
      refine (hcall.out _ (hs4.out _ HST1.out (.string t)) _ (by omega) (by have := X1HI.out; omega)).mono ?_
      rintro e w2 ⟨rfl, hst2⟩
      have HST2 := Zs0.mk ((hs4.out _ HST1.out (.string t)).trans hst2)
      clear hst2
      go_wp2
      go_roundg (gk - 1)
      case measure => have h1 := HK2.out; have h2 := HKL.out; omega
      case rel =>
        refine ⟨_, wrap64 (y + 1), rfl, by first | rfl | (simp; done), ⟨?_⟩⟩
        have h1 := HKK.out
        have h2 := HKL.out
        have h3 := HK2.out
        have h4 := HLL.out
        have h5 := HX1.out
        have h6 := HKN.out
        have h7 := HNT.out
        have h8 := HM.out
        have h9 := HA.out
        have hle : l.length ≤ 9223372036854775806 := by omega
        refine ⟨kk + 1, by rw [wrap_ok (by omega) (by omega)]; omega, by omega, by omega, ?_, HS.out.trans HST2.out⟩
        have h10 := nEs_snoc l kk h2
        rw [h10]
        omega
    · have c4b0 : decide (y < (l.length : Int)) = false := decide_eq_false hlt
      have HLT := Zs0.mk hlt
      clear hlt
      go_wp2
      go_ret
      obtain ⟨kk, rfl, h1, h2, rfl, h4⟩ := A2.out
      have h5 := HLT.out
      rw [List.take_of_length_le (by omega)]
      exact ⟨rfl, h4⟩
theorem markE (n : Nat) : MarkE n := by
  induction n using Nat.strongRecOn with
  | ind n ih => exact markE_step n ih
/-- A block of a kind of cells. -/
def isTy (w : World) (q : Nat) (e : TypeId) : Prop := ∃ cs, w.heap[q]? = some (.cells cs e (0, 0))
theorem isTy_one {w : World} {q : Nat} {e e' : TypeId} (h : isTy w q e) (h' : isTy w q e') : e = e' := by
  obtain ⟨cs, h⟩ := h
  obtain ⟨cs', h'⟩ := h'
  rw [h] at h'
  injection h' with h'
  injection h' with _ h'
theorem ShE.of_R {P : Nat → Prop} {W : World} {base : Nat} : ∀ (n : Nat) (l : List S29) (v : Value) (ok : Nat → Prop), (∀ x ∈ l, SizeOf.sizeOf x < n) → Kd.R k29 29 W base ok v l → (∀ q, ok q → base ≤ q → isTy W q 29 → P q) → ShE P W v l := by
  intro n
  induction n using Nat.strongRecOn with
  | ind n ih =>
    intro l v ok hx hR hP
    obtain ⟨h0, inner, ho, hr⟩ := hR
    rcases ho.2 with ⟨rfl, hz⟩ | ⟨g, cap, cur, rfl, hg, hh, h2, h3, h4, h5⟩
    · obtain rfl : l = [] := List.eq_nil_of_length_eq_zero hz
      exact ShE.nil _ _
    · have hsz : k29.sz = 5 := rfl
      rw [hsz] at h4 h5
      have hok : ok g := h0 g (by simp [Value.ownBlock])
      have key : ∀ i (h : i < l.length), ∃ v4, cur[i * 5 + 4]? = some v4 ∧ Kd.R k29 29 W base (fun k => ok k ∧ some k ≠ (Value.slice (some ⟨g, 0, none⟩) l.length cap).ownBlock) v4 l[i].f4 := by
        intro i h
        have hM := hr.2 i _ (List.getElem?_eq_getElem h)
        rw [hsz] at hM
        obtain ⟨v4, hcs, hR4⟩ := k29_openM hM
        refine ⟨v4, ?_, hR4⟩
        have hc4 := congrArg (fun z => z[4]?) hcs
        simp only [List.getElem?_take, List.getElem?_drop] at hc4
        rw [if_pos (by omega)] at hc4
        rw [← h5, List.getElem?_take, if_pos (by omega), Array.getElem?_toList] at hc4
        exact hc4
      refine ShE.row g cap cur l (fun i => cur.getD (i * 5 + 4) undef) (hP g hok hg ⟨cur, hh⟩) hh (by omega) (fun i hi => ?_) (fun i hi => ?_)
      · obtain ⟨v4, h6, _⟩ := key i hi
        rw [h6]
        simp only [Array.getD_eq_getD_getElem?, h6, Option.getD_some]
      · obtain ⟨v4, h6, h7⟩ := key i hi
        have h8 : cur.getD (i * 5 + 4) undef = v4 := by simp only [Array.getD_eq_getD_getElem?, h6, Option.getD_some]
        rw [h8]
        exact ih (SizeOf.sizeOf l[i]) (hx _ (List.getElem_mem hi)) l[i].f4 v4 _ (fun z hz => kid_lt hz) h7 (fun q hq => hP q hq.1)
/-- Marking rows of expressions that are the call's own. -/
theorem markExpS_R (l : List S29) (v : Value) (a : Int) (ok : Nat → Prop) (w0 W : World) (hR : Kd.R k29 29 W w0.heap.size ok v l) (hB : Below w0.heap.size w0 W) (ha : 0 ≤ a) (hM : a + 4 * (nEs l : Int) ≤ 1152921504606846976) :
    Calls Try.prog 57 #[v, .int .i64 a] W fun e w' => e = .returned (.int .i64 (a + 4 * (nEs l : Int))) ∧ StE (fun q => ok q ∧ w0.heap.size ≤ q ∧ isTy W q 29) w0 W w' :=
  markE (SizeOf.sizeOf l + 1) l v a _ w0 W (fun x hx => by have := List.sizeOf_lt_of_mem hx; omega) (ShE.of_R _ l v ok (fun x hx => List.sizeOf_lt_of_mem hx) hR (fun q h1 h2 h3 => ⟨h1, h2, h3⟩)) (fun q h => h.2.1) hB ha hM
def laws_markExp.f (a b c : Int) (s : ByteArray) (l : List S29) (k : Int) : Option Int := if 0 ≤ k ∧ k ≤ 1152921504606846975 ∧ nEs l ≤ 1099511627776 ∧ k + 4 * (nEs l : Int) ≤ 1152921504606846976 then some (k + 4 * (nEs l : Int)) else none
set_option maxRecDepth 100000 in
set_option maxHeartbeats 4000000 in
theorem laws_markExp.calls {a b c : Int} {s : ByteArray} {A : Option Addr} {cc : Nat} {l : List S29} {k r : Int} {w0 W : World} {ok : Nat → Prop} (hB : Below w0.heap.size w0 W) (hR : Kd.R k29 29 W w0.heap.size ok (.slice A l.length cc) l) (h : laws_markExp.f a b c s l k = some r) :
    Calls Try.prog 24 #[.agg #[.int .i64 a, .int .i64 b, .int .i64 c, .string s, .slice A l.length cc], .int .i64 k] W fun e w' => e = .returned (.int .i64 r) ∧ Below w0.heap.size w0 w' ∧ Kept W w' (fun q => ok q ∧ isTy W q 29) := by
  have hu29 := Try.underlying29
  unfold laws_markExp.f at h
  by_cases hc : 0 ≤ k ∧ k ≤ 1152921504606846975 ∧ nEs l ≤ 1099511627776 ∧ k + 4 * (nEs l : Int) ≤ 1152921504606846976
  · rw [if_pos hc] at h
    obtain rfl := Option.some.inj h
    obtain ⟨h1, h2, h3, h4⟩ := hc
    have hcall := Zs0.mk (fun (o : Obj) => markExpS_R l (.slice A l.length cc) k (fun q => ok q ∧ q < W.heap.size) w0 (W.alloc o) (Kd.R_mono (Kd.R_alloc (Kd.R_bound hR) o) (fun q hq => ⟨hq.1, hq.2.2.1⟩)) (hB.alloc hB.size o) h1 h4)
    clear hB hR h
    go_enter Try.func24, Try.ntmps24
    go_wp2_with fail
    go_at_call 57
    refine (hcall.out _).mono ?_
    rintro e w1 ⟨rfl, hs, hk, hb⟩
    have HB := Zs0.mk hb
    have HK := Zs0.mk (((Kept.refl W (fun q => ok q ∧ isTy W q 29)).alloc _).then_ hk (fun q hq => .inl ⟨hq.1.1, by
      obtain ⟨cs, hcs⟩ := hq.2.2
      rw [Below.heap_alloc W _ q hq.1.2] at hcs
      exact ⟨cs, hcs⟩⟩))
    clear hs hk hb hcall
    go_wp2
    go_ret
    exact ⟨rfl, HB.out, HK.out⟩
  · rw [if_neg hc] at h
    cases h
/-- Nothing more is told of a row: it is taken for an empty one. -/
theorem likeR {α : Type} {d : Kd α} {e base : Nat} {ok : Nat → Prop} {w : World} {v : Value} {xs : List α} (w2 : World) (h : d.R e w base ok v xs) : d.R e w2 base ok (.slice none 0 0) [] := Kd.R_nil d e w2 base ok
end Go.Proofs.Ytjcggilkfofiaaa.P
