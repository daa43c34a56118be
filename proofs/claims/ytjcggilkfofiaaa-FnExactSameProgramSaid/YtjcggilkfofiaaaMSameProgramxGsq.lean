/- The reference's comparison of two rows of expressions: it only reads. No conditions. -/
import Derived.Test.YtjcggilkfofiaaaMSameProgramxGsame1
namespace Go.Proofs.Ytjcggilkfofiaaa.P
open Go.RowKit Go.Proofs.Ytjcggilkfofiaaa.Ex Go.Proofs.YtjcggilkfofiaaaW.PrintWords Go.Proofs.YtjcggilkfofiaaaW.PrintLast Go.Proofs.YtjcggilkfofiaaaW.PrintMore Go.Proofs.Ytjcggilkfofiaaa.Aux
set_option linter.unusedVariables false
set_option linter.unusedSimpArgs false
/-- The contract of spec.l02SameExps at expressions less deep than n. -/
def SameQ (n : Nat) : Prop := ∀ (l m : List S29) (A : Option Addr) (c : Nat) (B : Option Addr) (d : Nat) (w : World), (∀ x ∈ l, SizeOf.sizeOf x < n) → Kd.C k29 w A l.length l → l.length ≤ c → Kd.C k29 w B m.length m → m.length ≤ d →
  Calls Try.prog 33 #[.slice A l.length c, .slice B m.length d] w fun e w' => e = .returned (.bool (eqEs l m)) ∧ ∃ q, w' = w.drewN q
theorem quiet_post {p n : Nat} {w : World} {b b' : Bool} (hb : b = b') : ∀ (e : Ending) (w' : World), (e = .returned (.bool b) ∧ ∃ q, w' = (w.drewN (p + n)).drewN q) → (e = .returned (.bool b') ∧ ∃ m, w' = w.drewN (p + m)) := by
  rintro e w' ⟨rfl, q, rfl⟩
  exact ⟨by rw [hb], n + q, by rw [World.drewN_drewN, Nat.add_assoc]⟩
set_option maxRecDepth 100000 in
set_option maxHeartbeats 8000000 in
theorem sameQ_step (n : Nat) (hS : ∀ j, j < n → SameQ j) : SameQ n := by
  intro l m A c B d w hn hr hc hq hd
  have hu29 := Try.underlying29
  have hm : l.length ≤ 9223372036854775807 := Kd.C_max hr
  have HS := Zs0.mk hS
  have HN := Zs0.mk hn
  have HR := Zs0.mk hr
  have HQ := Zs0.mk hq
  have HM := Zs0.mk hm
  clear hS hn hr hq hm
  by_cases hl : m.length = l.length
  · have HL := Zs0.mk hl
    rw [hl]
    rw [hl] at hd
    clear hl
    go_enter Try.func33, Try.ntmps33
    go_wp2
    go_loopg [5] l.length (fun gg s5 wr => ∃ (x : Int) (q : Nat), s5 = .int .i64 x ∧ wr = w.drewN q ∧ Zs0 (∃ kk : Nat, (kk : Int) = x ∧ kk ≤ l.length ∧ l.length - kk ≤ gg ∧ eqEs (l.take kk) (m.take kk) = true))
    case atStart => exact ⟨0, 0, rfl, rfl, ⟨⟨0, rfl, Nat.zero_le _, by omega, by rw [List.take_zero, List.take_zero, eqEs]⟩⟩⟩
    case round =>
      obtain ⟨x, q, rfl, rfl, A2⟩ := hrel
      by_cases hlt : x < (l.length : Int)
      · have c4b0 : decide (x < (l.length : Int)) = true := decide_eq_true hlt
        have p101 : 0 ≤ x := by obtain ⟨kk, h1, _⟩ := A2.out; omega
        have hq' : Kd.C k29 w B l.length m := by have := HQ.out; rwa [HL.out] at this
        obtain ⟨ad1, A1, c1, e1, h1_0, h1_1, h1_2, h1_3, h1_4, l1, g1⟩ := at_T29 HR.out x p101 hlt
        obtain ⟨ad2, A2_, c2, e2, h2_0, h2_1, h2_2, h2_3, h2_4, l2, g2⟩ := at_T29 hq' x p101 hlt
        cases e1
        cases e2
        have hcall := Zs0.mk (fun (j : Nat) => HS.out (SizeOf.sizeOf (rd_T29 l x)) (by obtain ⟨kk, rfl, h1, h2, h3⟩ := A2.out; rw [rd_IE l kk (by omega)]; exact HN.out _ (List.getElem_mem _)) (rd_T29 l x).f4 (rd_T29 m x).f4 A1 c1 A2_ c2 (w.drewN j) (fun z hz => kid_lt hz) (Kd.C_drewN g1 j) l1 (Kd.C_drewN g2 j) l2)
        have hev := eqE_eq (rd_T29 l x) (rd_T29 m x)
        clear g1 g2 hq'
        replace p101 := eq_true p101
        replace hlt := eq_true hlt
        by_cases e0 : (rd_T29 l x).f0 = (rd_T29 m x).f0
        · rw [← e0] at h2_0
          by_cases e1 : (rd_T29 l x).f1 = (rd_T29 m x).f1
          · rw [← e1] at h2_1
            by_cases e2 : (rd_T29 l x).f2 = (rd_T29 m x).f2
            · rw [← e2] at h2_2
              by_cases e3 : (rd_T29 l x).f3.toList = (rd_T29 m x).f3.toList
              · have q3 : ((rd_T29 l x).f3.toList == (rd_T29 m x).f3.toList) = true := by rw [e3]; simp
                have hv : eqE (rd_T29 l x) (rd_T29 m x) = eqEs (rd_T29 l x).f4 (rd_T29 m x).f4 := by rw [hev]; simp [e0, e1, e2, e3]
                clear hev e0 e1 e2 e3
                cases hw : eqEs (rd_T29 l x).f4 (rd_T29 m x).f4 with
                | true =>
                  rw [hw] at hv
                  have HV := Zs0.mk hv
                  have HW := Zs0.mk hw
                  clear hv hw
                  go_wp2
                  go_quiet ((go_at_call 33; exact (hcall.out _).mono (quiet_post (b' := true) HW.out)))
                  go_wp2
                  go_roundg (gk - 1)
                  case measure => obtain ⟨kk, h0, h1, h2, h3⟩ := A2.out; have := of_eq_true hlt; omega
                  case rel =>
                    refine ⟨wrap64 (x + 1), _, by first | rfl | (simp; done), by first | rfl | exact World.drewN_drewN .., ⟨?_⟩⟩
                    obtain ⟨kk, rfl, h1, h2, h3⟩ := A2.out
                    have h4 := of_eq_true hlt
                    have h5 := HM.out
                    have hv := HV.out
                    have hl := HL.out
                    refine ⟨kk + 1, by rw [wrap_ok (by omega) (by omega)]; omega, by omega, by omega, ?_⟩
                    rw [rd_IE l kk (by omega), rd_IE m kk (by omega)] at hv
                    exact eqEs_snoc h3 (by omega) (by omega) hv
                | false =>
                  rw [hw] at hv
                  have HV := Zs0.mk hv
                  have HW := Zs0.mk hw
                  clear hv hw
                  go_wp2
                  go_quiet ((go_at_call 33; exact (hcall.out _).mono (quiet_post (b' := false) HW.out)))
                  go_wp2
                  go_ret
                  obtain ⟨kk, rfl, h1, h2, h3⟩ := A2.out
                  have h4 := of_eq_true hlt
                  have hl := HL.out
                  have hv := HV.out
                  rw [rd_IE l kk (by omega), rd_IE m kk (by omega)] at hv
                  exact ⟨by rw [eqEs_at (k := kk) (by omega) (by omega) hv]; rfl, _, World.drewN_drewN ..⟩
              · have hv : eqE (rd_T29 l x) (rd_T29 m x) = false := by rw [hev]; simp [e3]
                have q3 : ((rd_T29 l x).f3.toList == (rd_T29 m x).f3.toList) = false := beq_eq_false_iff_ne.2 e3
                have HV := Zs0.mk hv
                clear hv hev e3
                clear e0
                clear e1
                clear e2
                go_wp2
                go_quiet (fail)
                go_wp2
                go_ret
                obtain ⟨kk, rfl, h1, h2, h3⟩ := A2.out
                have h4 := of_eq_true hlt
                have hl := HL.out
                have hv := HV.out
                rw [rd_IE l kk (by omega), rd_IE m kk (by omega)] at hv
                exact ⟨by rw [eqEs_at (k := kk) (by omega) (by omega) hv]; rfl, _, World.drewN_drewN ..⟩
            · have hv : eqE (rd_T29 l x) (rd_T29 m x) = false := by rw [hev]; simp [e2]
              have q2 : ((rd_T29 l x).f2 != (rd_T29 m x).f2) = true := by rw [bne_iff_ne]; exact e2
              have HV := Zs0.mk hv
              clear hv hev e2
              clear e0
              clear e1
              go_wp2
              go_quiet (fail)
              go_wp2
              go_ret
              obtain ⟨kk, rfl, h1, h2, h3⟩ := A2.out
              have h4 := of_eq_true hlt
              have hl := HL.out
              have hv := HV.out
              rw [rd_IE l kk (by omega), rd_IE m kk (by omega)] at hv
              exact ⟨by rw [eqEs_at (k := kk) (by omega) (by omega) hv]; rfl, _, World.drewN_drewN ..⟩
          · have hv : eqE (rd_T29 l x) (rd_T29 m x) = false := by rw [hev]; simp [e1]
            have q1 : ((rd_T29 l x).f1 != (rd_T29 m x).f1) = true := by rw [bne_iff_ne]; exact e1
            have HV := Zs0.mk hv
            clear hv hev e1
            clear e0
            go_wp2
            go_quiet (fail)
            go_wp2
            go_ret
            obtain ⟨kk, rfl, h1, h2, h3⟩ := A2.out
            have h4 := of_eq_true hlt
            have hl := HL.out
            have hv := HV.out
            rw [rd_IE l kk (by omega), rd_IE m kk (by omega)] at hv
            exact ⟨by rw [eqEs_at (k := kk) (by omega) (by omega) hv]; rfl, _, World.drewN_drewN ..⟩
        · have hv : eqE (rd_T29 l x) (rd_T29 m x) = false := by rw [hev]; simp [e0]
          have q0 : ((rd_T29 l x).f0 != (rd_T29 m x).f0) = true := by rw [bne_iff_ne]; exact e0
          have HV := Zs0.mk hv
          clear hv hev e0
          go_wp2
          go_quiet (fail)
          go_wp2
          go_ret
          obtain ⟨kk, rfl, h1, h2, h3⟩ := A2.out
          have h4 := of_eq_true hlt
          have hl := HL.out
          have hv := HV.out
          rw [rd_IE l kk (by omega), rd_IE m kk (by omega)] at hv
          exact ⟨by rw [eqEs_at (k := kk) (by omega) (by omega) hv]; rfl, _, World.drewN_drewN ..⟩
      · have c4b0 : decide (x < (l.length : Int)) = false := decide_eq_false hlt
        have HL2 := Zs0.mk hlt
        clear hlt
        go_wp2
        go_ret
        obtain ⟨kk, rfl, h1, h2, h3⟩ := A2.out
        have h4 := HL2.out
        have hl := HL.out
        rw [List.take_of_length_le (by omega), List.take_of_length_le (by omega)] at h3
        exact ⟨by rw [h3]; rfl, _, rfl⟩
  · have e1 : eqEs l m = false := by
      cases he : eqEs l m with
      | false => rfl
      | true => exact absurd (eqEs_len he).symm hl
    rw [e1]
    have c1 : ((l.length : Int) != (m.length : Int)) = true := by rw [bne_iff_ne]; omega
    have c2 : (l.length != m.length) = true := by rw [bne_iff_ne]; omega
    have HL := Zs0.mk hl
    clear hl e1
    go_enter Try.func33, Try.ntmps33
    go_wp2
    go_ret
    exact ⟨rfl, 0, rfl⟩
theorem sameQ (n : Nat) : SameQ n := by
  induction n using Nat.strongRecOn with
  | ind n ih => exact sameQ_step n ih
theorem top_lt (l : List S29) : ∀ x ∈ l, SizeOf.sizeOf x < SizeOf.sizeOf l + 1 := fun x hx => by
  have := List.sizeOf_lt_of_mem hx
  omega
def spec_l02SameExps.f (l m : List S29) : Option Bool := some (eqEs l m)
theorem spec_l02SameExps.calls (A0 : Option Addr) (c0 : Nat) (l0 : List S29) (A1 : Option Addr) (c1 : Nat) (l1 : List S29) (r : Bool) (w : World) (hr0 : Kd.C k29 w A0 l0.length l0) (hc0 : l0.length ≤ c0) (hr1 : Kd.C k29 w A1 l1.length l1) (hc1 : l1.length ≤ c1) (h : spec_l02SameExps.f l0 l1 = some r) :
    Calls Try.prog 33 #[.slice A0 l0.length c0, .slice A1 l1.length c1] w fun e w' => e = .returned (.bool r) ∧ Below w.heap.size w w' := by
  obtain rfl := Option.some.inj h
  refine (sameQ _ l0 l1 A0 c0 A1 c1 w (top_lt l0) hr0 hc0 hr1 hc1).mono ?_
  rintro e w' ⟨rfl, q, rfl⟩
  exact ⟨rfl, pbN (Below.refl _ _) q⟩
end Go.Proofs.Ytjcggilkfofiaaa.P
