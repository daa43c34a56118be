/- Whether two expressions are alike, as_ the program says it: contracts of impl.sameExp and of slices.EqualFunc over expressions. No conditions. -/
import Derived.Test.YtjcggilkfofiaaaMSameProgram0a
import Derived.Shelf.Abstract
namespace Go.Proofs.Ytjcggilkfofiaaa.P
open Go.RowKit Go.Proofs.Ytjcggilkfofiaaa.Ex Go.Proofs.YtjcggilkfofiaaaW.PrintWords Go.Proofs.YtjcggilkfofiaaaW.PrintLast Go.Proofs.YtjcggilkfofiaaaW.PrintMore Go.Proofs.Ytjcggilkfofiaaa.Aux
set_option linter.unusedVariables false
set_option linter.unusedSimpArgs false
theorem eqEs_snoc : ∀ {l m : List S29} {k : Nat}, eqEs (l.take k) (m.take k) = true → (h : k < l.length) → (h' : k < m.length) → eqE l[k] m[k] = true → eqEs (l.take (k + 1)) (m.take (k + 1)) = true
  | x :: xs, y :: ys, 0, _, _, _, hv => by simp only [List.take_succ_cons, List.take_zero, eqEs]; simpa using hv
  | x :: xs, y :: ys, k + 1, h, h1, h2, hv => by
    simp only [List.take_succ_cons, eqEs, Bool.and_eq_true] at h ⊢
    exact ⟨h.1, eqEs_snoc h.2 (by simpa using h1) (by simpa using h2) (by simpa using hv)⟩
theorem eqEs_at : ∀ {l m : List S29} {k : Nat} (h : k < l.length) (h' : k < m.length), eqE l[k] m[k] = false → eqEs l m = false
  | x :: xs, y :: ys, 0, _, _, hv => by rw [eqEs]; have hv' : eqE x y = false := hv; rw [hv']; rfl
  | x :: xs, y :: ys, k + 1, h1, h2, hv => by rw [eqEs, eqEs_at (k := k) (by simpa using h1) (by simpa using h2) (by simpa using hv), Bool.and_false]
/-- The contract of impl.sameExp at expressions less deep than n. -/
def SameC (n : Nat) : Prop := ∀ (x y : S29) (A : Option Addr) (c : Nat) (B : Option Addr) (d : Nat) (w : World), SizeOf.sizeOf x < n → Kd.C k29 w A x.f4.length x.f4 → x.f4.length ≤ c → Kd.C k29 w B y.f4.length y.f4 → y.f4.length ≤ d →
  Calls Try.prog 35 #[.agg #[.int .i64 x.f0, .int .i64 x.f1, .int .i64 x.f2, .string x.f3, .slice A x.f4.length c], .agg #[.int .i64 y.f0, .int .i64 y.f1, .int .i64 y.f2, .string y.f3, .slice B y.f4.length d]] w fun e w' => e = .returned (.bool (eqE x y)) ∧ Below w.heap.size w w'
set_option maxRecDepth 100000 in
set_option maxHeartbeats 2000000 in
theorem equalE_calls (n : Nat) (hS : SameC n) (A : Option Addr) (c : Nat) (l : List S29) (B : Option Addr) (d : Nat) (m : List S29) (w : World) (hn : ∀ x ∈ l, SizeOf.sizeOf x < n)
    (hr : Kd.C k29 w A l.length l) (hc : l.length ≤ c) (hq : Kd.C k29 w B m.length m) (hd : m.length ≤ d) :
    Calls Try.prog 62 #[.slice A l.length c, .slice B m.length d, .func (.func 35) #[] #[]] w fun e w' => e = .returned (.bool (eqEs l m)) ∧ Below w.heap.size w w' := by
  have hu29 := Try.underlying29
  have hm : l.length ≤ 9223372036854775807 := Kd.C_max hr
  have HS := Zs0.mk hS
  have HN := Zs0.mk hn
  have HR := Zs0.mk hr
  have HQ := Zs0.mk hq
  have HM := Zs0.mk hm
  clear hS hn hr hq hm
  by_cases hl : m.length = l.length
  · have HL := Zs0.mk hl
    rw [hl]
    rw [hl] at hd
    clear hl
    go_enter Try.func62, Try.ntmps62
    go_wp2
    go_loopg [7, 17] l.length (fun gg _ s17 wr => ∃ x : Int, s17 = .int .i64 x ∧ Zs0 (Below w.heap.size w wr) ∧ Zs0 (∃ kk : Nat, (kk : Int) = x ∧ kk ≤ l.length ∧ l.length - kk ≤ gg ∧ eqEs (l.take kk) (m.take kk) = true))
    case atStart => exact ⟨0, rfl, ⟨Below.refl _ w⟩, ⟨⟨0, rfl, Nat.zero_le _, by omega, by rw [List.take_zero, List.take_zero, eqEs]⟩⟩⟩
    case round =>
      obtain ⟨x, rfl, BW, A2⟩ := hrel
      by_cases hlt : x < (l.length : Int)
      · have c4b0 : decide (x < (l.length : Int)) = true := decide_eq_true hlt
        have p101 : 0 ≤ x := by obtain ⟨kk, h1, _⟩ := A2.out; omega
        have hq' : Kd.C k29 w B l.length m := by have := HQ.out; rwa [HL.out] at this
        obtain ⟨ad1, A1, c1, e1, h1_0, h1_1, h1_2, h1_3, h1_4, l1, g1⟩ := at_T29 HR.out x p101 hlt
        obtain ⟨ad2, A2_, c2, e2, h2_0, h2_1, h2_2, h2_3, h2_4, l2, g2⟩ := at_T29 hq' x p101 hlt
        cases e1
        cases e2
        replace h1_0 := (BW.out.cell (World.block_lt_of_cell? w _ h1_0)).trans h1_0
        replace h1_1 := (BW.out.cell (World.block_lt_of_cell? w _ h1_1)).trans h1_1
        replace h1_2 := (BW.out.cell (World.block_lt_of_cell? w _ h1_2)).trans h1_2
        replace h1_3 := (BW.out.cell (World.block_lt_of_cell? w _ h1_3)).trans h1_3
        replace h1_4 := (BW.out.cell (World.block_lt_of_cell? w _ h1_4)).trans h1_4
        replace h2_0 := (BW.out.cell (World.block_lt_of_cell? w _ h2_0)).trans h2_0
        replace h2_1 := (BW.out.cell (World.block_lt_of_cell? w _ h2_1)).trans h2_1
        replace h2_2 := (BW.out.cell (World.block_lt_of_cell? w _ h2_2)).trans h2_2
        replace h2_3 := (BW.out.cell (World.block_lt_of_cell? w _ h2_3)).trans h2_3
        replace h2_4 := (BW.out.cell (World.block_lt_of_cell? w _ h2_4)).trans h2_4
        have nb2 := World.block_lt_of_cell? wr _ h2_0
        have ne2 : (ad2.add (x.toNat * 5)).block ≠ wr.heap.size := by omega
        have hcall := Zs0.mk (fun (W : World) (hW : Below w.heap.size w W) => HS.out (rd_T29 l x) (rd_T29 m x) A1 c1 A2_ c2 W (by obtain ⟨kk, rfl, h1, h2, h3⟩ := A2.out; rw [rd_IE l kk (by omega)]; exact HN.out _ (List.getElem_mem _)) (Kd.C_below g1 hW) l1 (Kd.C_below g2 hW) l2)
        clear g1 g2 hq'
        replace p101 := eq_true p101
        replace hlt := eq_true hlt
        cases hv : eqE (rd_T29 l x) (rd_T29 m x) with
        | true =>
          rw [hv] at hcall
          have HV := Zs0.mk hv
          clear hv
          go_wp2_with (go_at_call 35; refine (hcall.out _ (by (with_reducible repeat (first | apply blA | apply pbN | apply bl1)); exact BW.out)).mono ?_; rintro e w' ⟨rfl, hb'⟩; have HB' := Zs0.mk (blT (by (with_reducible repeat (first | apply blA | apply pbN | apply bl1)); exact BW.out) hb'); clear hb')
          go_roundg (gk - 1)
          case measure => obtain ⟨kk, h0, h1, h2, h3⟩ := A2.out; have := of_eq_true hlt; omega
          case rel =>
            refine ⟨wrap64 (x + 1), by first | rfl | (simp; done), HB', ⟨?_⟩⟩
            obtain ⟨kk, rfl, h1, h2, h3⟩ := A2.out
            have h4 := of_eq_true hlt
            have h5 := HM.out
            have hv := HV.out
            have hl := HL.out
            refine ⟨kk + 1, by rw [wrap_ok (by omega) (by omega)]; omega, by omega, by omega, ?_⟩
            rw [rd_IE l kk (by omega), rd_IE m kk (by omega)] at hv
            exact eqEs_snoc h3 (by omega) (by omega) hv
        | false =>
          rw [hv] at hcall
          have HV := Zs0.mk hv
          clear hv
          go_wp2_with (go_at_call 35; refine (hcall.out _ (by (with_reducible repeat (first | apply blA | apply pbN | apply bl1)); exact BW.out)).mono ?_; rintro e w' ⟨rfl, hb'⟩; have HB' := Zs0.mk (blT (by (with_reducible repeat (first | apply blA | apply pbN | apply bl1)); exact BW.out) hb'); clear hb')
          go_ret
          obtain ⟨kk, rfl, h1, h2, h3⟩ := A2.out
          have h4 := of_eq_true hlt
          have hv := HV.out
          have hl := HL.out
          rw [rd_IE l kk (by omega), rd_IE m kk (by omega)] at hv
          exact ⟨by rw [eqEs_at (k := kk) (by omega) (by omega) hv]; rfl, HB'.out⟩
      · have c4b0 : decide (x < (l.length : Int)) = false := decide_eq_false hlt
        have HL2 := Zs0.mk hlt
        clear hlt
        go_wp2
        go_ret
        obtain ⟨kk, rfl, h1, h2, h3⟩ := A2.out
        have h4 := HL2.out
        have hl := HL.out
        rw [List.take_of_length_le (by omega), List.take_of_length_le (by omega)] at h3
        exact ⟨by rw [h3]; rfl, BW.out⟩
  · have e1 : eqEs l m = false := by
      cases he : eqEs l m with
      | false => rfl
      | true => exact absurd (eqEs_len he).symm hl
    rw [e1]
    have c1 : ((l.length : Int) != (m.length : Int)) = true := by rw [bne_iff_ne]; omega
    have c2 : (l.length != m.length) = true := by rw [bne_iff_ne]; omega
    have HL := Zs0.mk hl
    clear hl e1
    go_enter Try.func62, Try.ntmps62
    go_wp2
    go_ret
    exact ⟨rfl, Below.refl _ _⟩
set_option maxRecDepth 100000 in
set_option maxHeartbeats 2000000 in
theorem sameC : ∀ n, SameC n
  | 0 => fun x y A c B d w h => absurd h (Nat.not_lt_zero _)
  | n + 1 => by
    intro x y A c B d w hx hr hc hq hd
    have hu29 := Try.underlying29
    obtain ⟨a0, a1, a2, a3, l⟩ := x
    obtain ⟨b0, b1, b2, b3, m⟩ := y
    dsimp only at hr hc hq hd ⊢
    have hcall := Zs0.mk (fun (W : World) (hW : Below w.heap.size w W) => equalE_calls n (sameC n) A c l B d m W (fun z hz => by have := kid_lt (x := ⟨a0, a1, a2, a3, l⟩) hz; omega) (Kd.C_below hr hW) hc (Kd.C_below hq hW) hd)
    clear hr hq hx
    by_cases e : a0 = b0 ∧ a1 = b1 ∧ a2 = b2 ∧ a3.toList = b3.toList
    · obtain ⟨rfl, rfl, rfl, e3⟩ := e
      have hv : eqE ⟨a0, a1, a2, a3, l⟩ ⟨a0, a1, a2, b3, m⟩ = eqEs l m := by rw [eqE_eq]; simp [e3]
      rw [hv]
      clear hv
      go_enter Try.func35, Try.ntmps35
      go_wp2_with (go_at_call 62; refine (hcall.out _ (by (with_reducible repeat (first | apply blA | apply pbN | apply bl1)); exact Below.refl _ _)).mono ?_; rintro e w' ⟨rfl, hb'⟩; have HB' := Zs0.mk (blT (by (with_reducible repeat (first | apply blA | apply pbN | apply bl1)); exact Below.refl _ _) hb'); clear hb')
      go_ret
      exact ⟨rfl, HB'.out⟩
    · have hv : eqE ⟨a0, a1, a2, a3, l⟩ ⟨b0, b1, b2, b3, m⟩ = false := by
        rw [eqE_eq]
        dsimp only
        by_cases e0 : a0 = b0
        · by_cases e1 : a1 = b1
          · by_cases e2 : a2 = b2
            · by_cases e3 : a3.toList = b3.toList
              · exact absurd ⟨e0, e1, e2, e3⟩ e
              · simp [e3]
            · simp [e2]
          · simp [e1]
        · simp [e0]
      rw [hv]
      clear hv hcall
      by_cases e0 : a0 = b0
      · by_cases e1 : a1 = b1
        · by_cases e2 : a2 = b2
          · have e3 : ¬ a3.toList = b3.toList := fun e3 => e ⟨e0, e1, e2, e3⟩
            subst e0
            subst e1
            subst e2
            have q3 : (a3.toList == b3.toList) = false := beq_eq_false_iff_ne.2 e3
            clear e
            go_enter Try.func35, Try.ntmps35
            go_wp2
            go_ret
            exact ⟨rfl, blA (blA (Below.refl _ _) _) _⟩
          · have q2 : (a2 == b2) = false := beq_eq_false_iff_ne.2 e2
            subst e0
            subst e1
            clear e
            go_enter Try.func35, Try.ntmps35
            go_wp2
            go_ret
            exact ⟨rfl, blA (blA (Below.refl _ _) _) _⟩
        · have q1 : (a1 == b1) = false := beq_eq_false_iff_ne.2 e1
          subst e0
          clear e
          go_enter Try.func35, Try.ntmps35
          go_wp2
          go_ret
          exact ⟨rfl, blA (blA (Below.refl _ _) _) _⟩
      · have q0 : (a0 == b0) = false := beq_eq_false_iff_ne.2 e0
        clear e
        go_enter Try.func35, Try.ntmps35
        go_wp2
        go_ret
        exact ⟨rfl, blA (blA (Below.refl _ _) _) _⟩
/-- Whether two expressions are alike. -/
def impl_sameExp.f (a b c : Int) (s : ByteArray) (l : List S29) (a' b' c' : Int) (s' : ByteArray) (l' : List S29) : Option Bool := some (eqE ⟨a, b, c, s, l⟩ ⟨a', b', c', s', l'⟩)
theorem impl_sameExp.calls (a0_0 : Int) (a0_1 : Int) (a0_2 : Int) (a0_3 : ByteArray) (A0_4 : Option Addr) (c0_4 : Nat) (l0_4 : List S29) (a1_0 : Int) (a1_1 : Int) (a1_2 : Int) (a1_3 : ByteArray) (A1_4 : Option Addr) (c1_4 : Nat) (l1_4 : List S29) (r : Bool) (w : World) (hr0_4 : Kd.C k29 w A0_4 l0_4.length l0_4) (hc0_4 : l0_4.length ≤ c0_4) (hr1_4 : Kd.C k29 w A1_4 l1_4.length l1_4) (hc1_4 : l1_4.length ≤ c1_4) (h : impl_sameExp.f a0_0 a0_1 a0_2 a0_3 l0_4 a1_0 a1_1 a1_2 a1_3 l1_4 = some r) :
    Calls Try.prog 35 #[.agg #[.int .i64 a0_0, .int .i64 a0_1, .int .i64 a0_2, .string a0_3, .slice A0_4 l0_4.length c0_4], .agg #[.int .i64 a1_0, .int .i64 a1_1, .int .i64 a1_2, .string a1_3, .slice A1_4 l1_4.length c1_4]] w fun e w' => e = .returned (.bool r) ∧ Below w.heap.size w w' := by
  obtain rfl := Option.some.inj h
  exact sameC _ ⟨a0_0, a0_1, a0_2, a0_3, l0_4⟩ ⟨a1_0, a1_1, a1_2, a1_3, l1_4⟩ A0_4 c0_4 A1_4 c1_4 w (Nat.lt_succ_self _) hr0_4 hc0_4 hr1_4 hc1_4
end Go.Proofs.Ytjcggilkfofiaaa.P
