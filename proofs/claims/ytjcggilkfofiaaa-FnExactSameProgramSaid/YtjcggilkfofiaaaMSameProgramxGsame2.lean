/- Whether two statements are alike, as_ the program says it: contracts of impl.sameStmt and of slices.EqualFunc over statements. No conditions. -/
import Derived.Test.YtjcggilkfofiaaaMSameProgram0a
import Derived.Test.YtjcggilkfofiaaaMSameProgramxGsame1
namespace Go.Proofs.Ytjcggilkfofiaaa.P
open Go.RowKit Go.Proofs.Ytjcggilkfofiaaa.Ex Go.Proofs.YtjcggilkfofiaaaW.PrintWords Go.Proofs.YtjcggilkfofiaaaW.PrintLast Go.Proofs.YtjcggilkfofiaaaW.PrintMore Go.Proofs.Ytjcggilkfofiaaa.Aux
set_option linter.unusedVariables false
set_option linter.unusedSimpArgs false
/-- The contract of impl.sameStmt at statements less deep than n. -/
def SameCS (n : Nat) : Prop := ∀ (x y : S62) (A3 : Option Addr) (c3 : Nat) (A4 : Option Addr) (c4 : Nat) (A5 : Option Addr) (c5 : Nat) (B3 : Option Addr) (d3 : Nat) (B4 : Option Addr) (d4 : Nat) (B5 : Option Addr) (d5 : Nat) (w : World), SizeOf.sizeOf x < n →
  Kd.C k29 w A3 x.f3.length x.f3 → x.f3.length ≤ c3 → Kd.C k62 w A4 x.f4.length x.f4 → x.f4.length ≤ c4 → Kd.C k62 w A5 x.f5.length x.f5 → x.f5.length ≤ c5 → Kd.C k29 w B3 y.f3.length y.f3 → y.f3.length ≤ d3 → Kd.C k62 w B4 y.f4.length y.f4 → y.f4.length ≤ d4 → Kd.C k62 w B5 y.f5.length y.f5 → y.f5.length ≤ d5 →
  Calls Try.prog 52 #[.agg #[.int .i64 x.f0, .int .i64 x.f1, .int .i64 x.f2, .slice A3 x.f3.length c3, .slice A4 x.f4.length c4, .slice A5 x.f5.length c5], .agg #[.int .i64 y.f0, .int .i64 y.f1, .int .i64 y.f2, .slice B3 y.f3.length d3, .slice B4 y.f4.length d4, .slice B5 y.f5.length d5]] w fun e w' => e = .returned (.bool (eqS x y)) ∧ Below w.heap.size w w'
set_option maxRecDepth 100000 in
set_option maxHeartbeats 2000000 in
theorem equalS_calls (n : Nat) (hS : SameCS n) (A : Option Addr) (c : Nat) (l : List S62) (B : Option Addr) (d : Nat) (m : List S62) (w : World) (hn : ∀ x ∈ l, SizeOf.sizeOf x < n)
    (hr : Kd.C k62 w A l.length l) (hc : l.length ≤ c) (hq : Kd.C k62 w B m.length m) (hd : m.length ≤ d) :
    Calls Try.prog 51 #[.slice A l.length c, .slice B m.length d, .func (.func 52) #[] #[]] w fun e w' => e = .returned (.bool (eqSs l m)) ∧ Below w.heap.size w w' := by
  have hu62 := Try.underlying62
  have hm : l.length ≤ 9223372036854775807 := Kd.C_max hr
  have HS := Zs0.mk hS
  have HN := Zs0.mk hn
  have HR := Zs0.mk hr
  have HQ := Zs0.mk hq
  have HM := Zs0.mk hm
  clear hS hn hr hq hm
  by_cases hl : m.length = l.length
  · have HL := Zs0.mk hl
    rw [hl]
    rw [hl] at hd
    clear hl
    go_enter Try.func51, Try.ntmps51
    go_wp2
    go_loopg [7, 17] l.length (fun gg _ s17 wr => ∃ x : Int, s17 = .int .i64 x ∧ Zs0 (Below w.heap.size w wr) ∧ Zs0 (∃ kk : Nat, (kk : Int) = x ∧ kk ≤ l.length ∧ l.length - kk ≤ gg ∧ eqSs (l.take kk) (m.take kk) = true))
    case atStart => exact ⟨0, rfl, ⟨Below.refl _ w⟩, ⟨⟨0, rfl, Nat.zero_le _, by omega, by rw [List.take_zero, List.take_zero, eqSs]⟩⟩⟩
    case round =>
      obtain ⟨x, rfl, BW, A2⟩ := hrel
      by_cases hlt : x < (l.length : Int)
      · have c4b0 : decide (x < (l.length : Int)) = true := decide_eq_true hlt
        have p101 : 0 ≤ x := by obtain ⟨kk, h1, _⟩ := A2.out; omega
        have hq' : Kd.C k62 w B l.length m := by have := HQ.out; rwa [HL.out] at this
        obtain ⟨ad1, A3, c3, A4, c4, A5, c5, e1, h1_0, h1_1, h1_2, h1_3, h1_4, h1_5, l13, g13, l14, g14, l15, g15⟩ := at_T62 HR.out x p101 hlt
        obtain ⟨ad2, B3, d3, B4, d4, B5, d5, e2, h2_0, h2_1, h2_2, h2_3, h2_4, h2_5, l23, g23, l24, g24, l25, g25⟩ := at_T62 hq' x p101 hlt
        cases e1
        cases e2
        replace h1_0 := (BW.out.cell (World.block_lt_of_cell? w _ h1_0)).trans h1_0
        replace h1_1 := (BW.out.cell (World.block_lt_of_cell? w _ h1_1)).trans h1_1
        replace h1_2 := (BW.out.cell (World.block_lt_of_cell? w _ h1_2)).trans h1_2
        replace h1_3 := (BW.out.cell (World.block_lt_of_cell? w _ h1_3)).trans h1_3
        replace h1_4 := (BW.out.cell (World.block_lt_of_cell? w _ h1_4)).trans h1_4
        replace h1_5 := (BW.out.cell (World.block_lt_of_cell? w _ h1_5)).trans h1_5
        replace h2_0 := (BW.out.cell (World.block_lt_of_cell? w _ h2_0)).trans h2_0
        replace h2_1 := (BW.out.cell (World.block_lt_of_cell? w _ h2_1)).trans h2_1
        replace h2_2 := (BW.out.cell (World.block_lt_of_cell? w _ h2_2)).trans h2_2
        replace h2_3 := (BW.out.cell (World.block_lt_of_cell? w _ h2_3)).trans h2_3
        replace h2_4 := (BW.out.cell (World.block_lt_of_cell? w _ h2_4)).trans h2_4
        replace h2_5 := (BW.out.cell (World.block_lt_of_cell? w _ h2_5)).trans h2_5
        have nb2 := World.block_lt_of_cell? wr _ h2_0
        have ne2 : (ad2.add (x.toNat * 6)).block ≠ wr.heap.size := by omega
        have hcall := Zs0.mk (fun (W : World) (hW : Below w.heap.size w W) => HS.out (rd_T62 l x) (rd_T62 m x) A3 c3 A4 c4 A5 c5 B3 d3 B4 d4 B5 d5 W (by obtain ⟨kk, rfl, h1, h2, h3⟩ := A2.out; rw [rd_IS l kk (by omega)]; exact HN.out _ (List.getElem_mem _)) (Kd.C_below g13 hW) l13 (Kd.C_below g14 hW) l14 (Kd.C_below g15 hW) l15 (Kd.C_below g23 hW) l23 (Kd.C_below g24 hW) l24 (Kd.C_below g25 hW) l25)
        clear g13 g14 g15 g23 g24 g25 hq'
        replace p101 := eq_true p101
        replace hlt := eq_true hlt
        cases hv : eqS (rd_T62 l x) (rd_T62 m x) with
        | true =>
          rw [hv] at hcall
          have HV := Zs0.mk hv
          clear hv
          go_wp2_with (go_at_call 52; refine (hcall.out _ (by (with_reducible repeat (first | apply blA | apply pbN | apply bl1)); exact BW.out)).mono ?_; rintro e w' ⟨rfl, hb'⟩; have HB' := Zs0.mk (blT (by (with_reducible repeat (first | apply blA | apply pbN | apply bl1)); exact BW.out) hb'); clear hb')
          go_roundg (gk - 1)
          case measure => obtain ⟨kk, h0, h1, h2, h3⟩ := A2.out; have := of_eq_true hlt; omega
          case rel =>
            refine ⟨wrap64 (x + 1), by first | rfl | (simp; done), HB', ⟨?_⟩⟩
            obtain ⟨kk, rfl, h1, h2, h3⟩ := A2.out
            have h4 := of_eq_true hlt
            have h5 := HM.out
            have hv := HV.out
            have hl := HL.out
            refine ⟨kk + 1, by rw [wrap_ok (by omega) (by omega)]; omega, by omega, by omega, ?_⟩
            rw [rd_IS l kk (by omega), rd_IS m kk (by omega)] at hv
            exact eqSs_snoc h3 (by omega) (by omega) hv
        | false =>
          rw [hv] at hcall
          have HV := Zs0.mk hv
          clear hv
          go_wp2_with (go_at_call 52; refine (hcall.out _ (by (with_reducible repeat (first | apply blA | apply pbN | apply bl1)); exact BW.out)).mono ?_; rintro e w' ⟨rfl, hb'⟩; have HB' := Zs0.mk (blT (by (with_reducible repeat (first | apply blA | apply pbN | apply bl1)); exact BW.out) hb'); clear hb')
          go_ret
          obtain ⟨kk, rfl, h1, h2, h3⟩ := A2.out
          have h4 := of_eq_true hlt
          have hv := HV.out
          have hl := HL.out
          rw [rd_IS l kk (by omega), rd_IS m kk (by omega)] at hv
          exact ⟨by rw [eqSs_at (k := kk) (by omega) (by omega) hv]; rfl, HB'.out⟩
      · have c4b0 : decide (x < (l.length : Int)) = false := decide_eq_false hlt
        have HL2 := Zs0.mk hlt
        clear hlt
        go_wp2
        go_ret
        obtain ⟨kk, rfl, h1, h2, h3⟩ := A2.out
        have h4 := HL2.out
        have hl := HL.out
        rw [List.take_of_length_le (by omega), List.take_of_length_le (by omega)] at h3
        exact ⟨by rw [h3]; rfl, BW.out⟩
  · have e1 : eqSs l m = false := by
      cases he : eqSs l m with
      | false => rfl
      | true => exact absurd (eqSs_len he).symm hl
    rw [e1]
    have c1 : ((l.length : Int) != (m.length : Int)) = true := by rw [bne_iff_ne]; omega
    have c2 : (l.length != m.length) = true := by rw [bne_iff_ne]; omega
    have HL := Zs0.mk hl
    clear hl e1
    go_enter Try.func51, Try.ntmps51
    go_wp2
    go_ret
    exact ⟨rfl, Below.refl _ _⟩
/-- Behind a call that makes memory alone: what was there reads as_ before. -/
theorem old_cells {W w1 : World} (hb : Below W.heap.size W w1) : (∀ b o, b < W.heap.size → w1.cell? ⟨b, o, none⟩ = W.cell? ⟨b, o, none⟩) ∧ (∀ b o, b < W.heap.size → w1.frozen? ⟨b, o, none⟩ = W.frozen? ⟨b, o, none⟩) :=
  ⟨fun b o h => hb.cell (p := ⟨b, o, none⟩) h, fun b o h => hb.frozen (p := ⟨b, o, none⟩) h⟩
theorem box2_lt {w w1 : World} {a b : Obj} (h : Below ((w.alloc a).alloc b).heap.size ((w.alloc a).alloc b) w1) : w.heap.size + 1 < w1.heap.size := by
  have h1 := h.size
  simp at h1
  omega
set_option maxRecDepth 100000 in
set_option maxHeartbeats 4000000 in
theorem sameCS_step (n : Nat) (hS : SameCS n) : SameCS (n + 1) := by
  intro x y A3 c3 A4 c4 A5 c5 B3 d3 B4 d4 B5 d5 w hx hr3 hc3 hr4 hc4 hr5 hc5 hq3 hd3 hq4 hd4 hq5 hd5
  have hu62 := Try.underlying62
  obtain ⟨a0, a1, a2, l3, l4, l5⟩ := x
  obtain ⟨b0, b1, b2, m3, m4, m5⟩ := y
  dsimp only at hr3 hc3 hr4 hc4 hr5 hc5 hq3 hd3 hq4 hd4 hq5 hd5 ⊢
  have hev := eqS_eq ⟨a0, a1, a2, l3, l4, l5⟩ ⟨b0, b1, b2, m3, m4, m5⟩
  dsimp only at hev
  have hc3 := Zs0.mk (fun (W : World) (hW : Below w.heap.size w W) => equalE_calls _ (sameC (SizeOf.sizeOf l3 + 1)) A3 c3 l3 B3 d3 m3 W (fun z hz => by have := List.sizeOf_lt_of_mem hz; omega) (Kd.C_below hr3 hW) hc3 (Kd.C_below hq3 hW) hd3)
  have hc4 := Zs0.mk (fun (W : World) (hW : Below w.heap.size w W) => equalS_calls n hS A4 c4 l4 B4 d4 m4 W (fun z hz => by have := kidS4_lt (x := ⟨a0, a1, a2, l3, l4, l5⟩) hz; omega) (Kd.C_below hr4 hW) hc4 (Kd.C_below hq4 hW) hd4)
  have hc5 := Zs0.mk (fun (W : World) (hW : Below w.heap.size w W) => equalS_calls n hS A5 c5 l5 B5 d5 m5 W (fun z hz => by have := kidS5_lt (x := ⟨a0, a1, a2, l3, l4, l5⟩) hz; omega) (Kd.C_below hr5 hW) hc5 (Kd.C_below hq5 hW) hd5)
  clear hr3 hr4 hr5 hq3 hq4 hq5 hx hS
  by_cases e0 : a0 = b0
  · subst e0
    by_cases e1 : a1 = b1
    · subst e1
      by_cases e2 : a2 = b2
      · subst e2
        have hv : eqS ⟨a0, a1, a2, l3, l4, l5⟩ ⟨a0, a1, a2, m3, m4, m5⟩ = (eqEs l3 m3 && eqSs l4 m4 && eqSs l5 m5) := by rw [hev]; simp
        rw [hv]
        clear hv hev
        cases h3 : eqEs l3 m3 with
        | true =>
          rw [h3] at hc3
          clear h3
          cases h4 : eqSs l4 m4 with
          | true =>
            rw [h4] at hc4
            clear h4
            cases h5 : eqSs l5 m5 with
            | true =>
              rw [h5] at hc5
              clear h5
              go_enter Try.func52, Try.ntmps52
              go_wp2_with fail
              go_at_call 62; (with_reducible refine (hc3.out _ (by (with_reducible repeat (first | apply blA | apply pbN | apply bl1)); first | exact HB2.out | exact HB1.out | exact Below.refl _ _)).mono ?_); rintro e w1 ⟨rfl, hb'⟩; have hz1 := box2_lt hb'; have hy1 := Nat.lt_of_succ_lt hz1; have HB1 := Zs0.mk (blT (by (with_reducible repeat (first | apply blA | apply pbN | apply bl1)); first | exact HB2.out | exact HB1.out | exact Below.refl _ _) hb'); obtain ⟨hcl, hfr⟩ := old_cells hb'; clear hb'
              go_wp2_with fail
              go_at_call 51; (with_reducible refine (hc4.out _ (by (with_reducible repeat (first | apply blA | apply pbN | apply bl1)); first | exact HB2.out | exact HB1.out | exact Below.refl _ _)).mono ?_); rintro e w2 ⟨rfl, hb'⟩; have hz2 := Nat.lt_of_lt_of_le hz1 hb'.size; have hy2 := Nat.lt_of_succ_lt hz2; have HB2 := Zs0.mk (blT (by (with_reducible repeat (first | apply blA | apply pbN | apply bl1)); first | exact HB2.out | exact HB1.out | exact Below.refl _ _) hb'); obtain ⟨hcl, hfr⟩ := old_cells hb'; clear hb'
              go_wp2_with fail
              go_at_call 51; (with_reducible refine (hc5.out _ (by (with_reducible repeat (first | apply blA | apply pbN | apply bl1)); first | exact HB2.out | exact HB1.out | exact Below.refl _ _)).mono ?_); rintro e w3 ⟨rfl, hb'⟩; have HB3 := Zs0.mk (blT (by (with_reducible repeat (first | apply blA | apply pbN | apply bl1)); first | exact HB2.out | exact HB1.out | exact Below.refl _ _) hb'); clear hb'
              go_wp2
              go_ret
              exact ⟨rfl, HB3.out⟩
            | false =>
              rw [h5] at hc5
              clear h5
              go_enter Try.func52, Try.ntmps52
              go_wp2_with fail
              go_at_call 62; (with_reducible refine (hc3.out _ (by (with_reducible repeat (first | apply blA | apply pbN | apply bl1)); first | exact HB2.out | exact HB1.out | exact Below.refl _ _)).mono ?_); rintro e w1 ⟨rfl, hb'⟩; have hz1 := box2_lt hb'; have hy1 := Nat.lt_of_succ_lt hz1; have HB1 := Zs0.mk (blT (by (with_reducible repeat (first | apply blA | apply pbN | apply bl1)); first | exact HB2.out | exact HB1.out | exact Below.refl _ _) hb'); obtain ⟨hcl, hfr⟩ := old_cells hb'; clear hb'
              go_wp2_with fail
              go_at_call 51; (with_reducible refine (hc4.out _ (by (with_reducible repeat (first | apply blA | apply pbN | apply bl1)); first | exact HB2.out | exact HB1.out | exact Below.refl _ _)).mono ?_); rintro e w2 ⟨rfl, hb'⟩; have hz2 := Nat.lt_of_lt_of_le hz1 hb'.size; have hy2 := Nat.lt_of_succ_lt hz2; have HB2 := Zs0.mk (blT (by (with_reducible repeat (first | apply blA | apply pbN | apply bl1)); first | exact HB2.out | exact HB1.out | exact Below.refl _ _) hb'); obtain ⟨hcl, hfr⟩ := old_cells hb'; clear hb'
              go_wp2_with fail
              go_at_call 51; (with_reducible refine (hc5.out _ (by (with_reducible repeat (first | apply blA | apply pbN | apply bl1)); first | exact HB2.out | exact HB1.out | exact Below.refl _ _)).mono ?_); rintro e w3 ⟨rfl, hb'⟩; have HB3 := Zs0.mk (blT (by (with_reducible repeat (first | apply blA | apply pbN | apply bl1)); first | exact HB2.out | exact HB1.out | exact Below.refl _ _) hb'); clear hb'
              go_wp2
              go_ret
              exact ⟨rfl, HB3.out⟩
          | false =>
            rw [h4] at hc4
            clear h4
            go_enter Try.func52, Try.ntmps52
            go_wp2_with fail
            go_at_call 62; (with_reducible refine (hc3.out _ (by (with_reducible repeat (first | apply blA | apply pbN | apply bl1)); first | exact HB2.out | exact HB1.out | exact Below.refl _ _)).mono ?_); rintro e w1 ⟨rfl, hb'⟩; have hz1 := box2_lt hb'; have hy1 := Nat.lt_of_succ_lt hz1; have HB1 := Zs0.mk (blT (by (with_reducible repeat (first | apply blA | apply pbN | apply bl1)); first | exact HB2.out | exact HB1.out | exact Below.refl _ _) hb'); obtain ⟨hcl, hfr⟩ := old_cells hb'; clear hb'
            go_wp2_with fail
            go_at_call 51; (with_reducible refine (hc4.out _ (by (with_reducible repeat (first | apply blA | apply pbN | apply bl1)); first | exact HB2.out | exact HB1.out | exact Below.refl _ _)).mono ?_); rintro e w2 ⟨rfl, hb'⟩; have hz2 := Nat.lt_of_lt_of_le hz1 hb'.size; have hy2 := Nat.lt_of_succ_lt hz2; have HB2 := Zs0.mk (blT (by (with_reducible repeat (first | apply blA | apply pbN | apply bl1)); first | exact HB2.out | exact HB1.out | exact Below.refl _ _) hb'); obtain ⟨hcl, hfr⟩ := old_cells hb'; clear hb'
            go_wp2
            go_ret
            exact ⟨rfl, HB2.out⟩
        | false =>
          rw [h3] at hc3
          clear h3
          go_enter Try.func52, Try.ntmps52
          go_wp2_with fail
          go_at_call 62; (with_reducible refine (hc3.out _ (by (with_reducible repeat (first | apply blA | apply pbN | apply bl1)); first | exact HB2.out | exact HB1.out | exact Below.refl _ _)).mono ?_); rintro e w1 ⟨rfl, hb'⟩; have hz1 := box2_lt hb'; have hy1 := Nat.lt_of_succ_lt hz1; have HB1 := Zs0.mk (blT (by (with_reducible repeat (first | apply blA | apply pbN | apply bl1)); first | exact HB2.out | exact HB1.out | exact Below.refl _ _) hb'); obtain ⟨hcl, hfr⟩ := old_cells hb'; clear hb'
          go_wp2
          go_ret
          exact ⟨rfl, HB1.out⟩
      · have hv : eqS ⟨a0, a1, a2, l3, l4, l5⟩ ⟨a0, a1, b2, m3, m4, m5⟩ = false := by rw [hev]; simp [e2]
        rw [hv]
        clear hv hev
        have q2 : (a2 == b2) = false := beq_eq_false_iff_ne.2 e2
        go_enter Try.func52, Try.ntmps52
        go_wp2
        go_ret
        exact ⟨rfl, blA (blA (Below.refl _ _) _) _⟩
    · have hv : eqS ⟨a0, a1, a2, l3, l4, l5⟩ ⟨a0, b1, b2, m3, m4, m5⟩ = false := by rw [hev]; simp [e1]
      rw [hv]
      clear hv hev
      have q1 : (a1 == b1) = false := beq_eq_false_iff_ne.2 e1
      go_enter Try.func52, Try.ntmps52
      go_wp2
      go_ret
      exact ⟨rfl, blA (blA (Below.refl _ _) _) _⟩
  · have hv : eqS ⟨a0, a1, a2, l3, l4, l5⟩ ⟨b0, b1, b2, m3, m4, m5⟩ = false := by rw [hev]; simp [e0]
    rw [hv]
    clear hv hev
    have q0 : (a0 == b0) = false := beq_eq_false_iff_ne.2 e0
    go_enter Try.func52, Try.ntmps52
    go_wp2
    go_ret
    exact ⟨rfl, blA (blA (Below.refl _ _) _) _⟩
theorem sameCS : ∀ n, SameCS n
  | 0 => fun x y A3 c3 A4 c4 A5 c5 B3 d3 B4 d4 B5 d5 w h => absurd h (Nat.not_lt_zero _)
  | n + 1 => sameCS_step n (sameCS n)
/-- Whether two rows of statements are alike, as_ slices.EqualFunc says it. -/
theorem equalS_top (A : Option Addr) (c : Nat) (l : List S62) (B : Option Addr) (d : Nat) (m : List S62) (w : World) (hr : Kd.C k62 w A l.length l) (hc : l.length ≤ c) (hq : Kd.C k62 w B m.length m) (hd : m.length ≤ d) :
    Calls Try.prog 51 #[.slice A l.length c, .slice B m.length d, .func (.func 52) #[] #[]] w fun e w' => e = .returned (.bool (eqSs l m)) ∧ Below w.heap.size w w' :=
  equalS_calls _ (sameCS (SizeOf.sizeOf l + 1)) A c l B d m w (fun z hz => by have := List.sizeOf_lt_of_mem hz; omega) hr hc hq hd
end Go.Proofs.Ytjcggilkfofiaaa.P
