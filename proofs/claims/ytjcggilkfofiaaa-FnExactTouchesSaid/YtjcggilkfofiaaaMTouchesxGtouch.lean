/- The regions that a program touches: the contract of impl.Touches. Conditions: fewer parts than 2^40. -/
import Derived.Test.YtjcggilkfofiaaaMTouches0sa
namespace Go.Proofs.Ytjcggilkfofiaaa.P
open Go.RowKit Go.Proofs.Ytjcggilkfofiaaa.Ex Go.Proofs.YtjcggilkfofiaaaW.PrintWords Go.Proofs.YtjcggilkfofiaaaW.PrintLast Go.Proofs.YtjcggilkfofiaaaW.PrintMore Go.Proofs.Ytjcggilkfofiaaa.Aux
set_option linter.unusedVariables false
set_option linter.unusedSimpArgs false
def stepL (x : S29) (s : List Int) : List Int := if x.f0 = 2 then s ++ [x.f1] else s
theorem enter_touch11 (args : Array Value) (w : World) : (callFunc 61 args).run Try.prog w = .ok (.enter 61 args) w := enters_of Try.func61 (by kernel_rfl) rfl _ _
theorem stepL_room (x : S29) (s : List Int) : (stepL x s).length ≤ s.length + 1 := by
  unfold stepL
  split
  · simp
  · omega
set_option maxRecDepth 100000 in
set_option maxHeartbeats 4000000 in
theorem touch11_calls (w0 : World) (b : Nat) (x : S29) (s : List Int) (W : World) (A : Option Addr) (c : Nat) (hI : OutI w0 b s W) (hM : s.length + 1 ≤ 1099511627776) :
    Calls Try.prog 61 (#[.agg #[.int .i64 x.f0, .int .i64 x.f1, .int .i64 x.f2, .string x.f3, .slice A x.f4.length c]] ++ #[.pointer (some ⟨b, 0, none⟩)]) W fun e w' => e = .returned (.tuple #[]) ∧ OutI w0 b (stepL x s) w' ∧ KeepT W w' := by
  have hu := Try.underlying29
  obtain ⟨h1, h2, g, cap, hb, hg, ho⟩ := hI
  have hc0 : W.cell? ⟨b, 0, none⟩ = some (.slice (some ⟨g, 0, none⟩) s.length cap) := by rw [blk_cell hb]; rfl
  have hlt := blk_lt hb
  have hne : b ≠ W.heap.size := by omega
  have HO := Zs0.mk (show ∀ o : Obj, OwnI (W.alloc o) g cap s from fun o => ho.below (blA (Below.refl _ _) o))
  have HBL := Zs0.mk (show ∀ o : Obj, Below w0.heap.size w0 (W.alloc o) from fun o => h1.alloc h1.size o)
  have HBB := Zs0.mk (show ∀ o : Obj, (W.alloc o).heap[b]? = some (.cells #[.slice (some ⟨g, 0, none⟩) s.length cap] 32 (0, 0)) from fun o => bkA hb o)
  have HI := Zs0.mk (show OutI w0 b s W from ⟨h1, h2, g, cap, hb, hg, ho⟩)
  have HM := Zs0.mk hM
  have H2 := Zs0.mk h2
  have HG := Zs0.mk hg
  clear h1 h2 hb hg ho hM
  by_cases e1 : x.f0 = 2
  · have hst : stepL x s = s ++ [x.f1] := by unfold stepL; rw [if_pos e1]
    rw [hst]
    clear hst
    rw [e1]
    clear e1
    go_enter Try.func61, Try.ntmps61
    go_wp2_with (at_builtin; refine Kd.R_append (Kd.int .i64) (w0 := w0) w0.heap.size rfl (.tmp 6) (.tmp 9) 32 3 (.int .i64 0) 8 rfl Try.underlying32 info3 rfl (by decide) (by omega) (.slice (some ⟨g, 0, none⟩) s.length cap) s x.f1 [.int .i64 x.f1] (fun _ => True) (fun _ => False) rfl (by first | rfl | (go_simp; done) | (simp; done)) rfl (fun _ hk => hk.elim) (fun _ _ => trivial) ((HO.out _).to_R HG.out trivial) (HBL.out _) (HBL.out _).size (by have := HM.out; omega) ?_; intro v1 w1 hR hB hgr _; obtain ⟨g1, cap1, rfl, hA, hK, hF, hC⟩ := OutI.app (HBL.out _) H2.out (HBB.out _) HG.out (HO.out _) hR hB hgr; have HA := Zs0.mk hA; have HK := Zs0.mk hK; clear hR hB hgr hA hK)
    go_end0
    exact ⟨rfl, HA.out, (KeepT.of_below (blA (Below.refl _ _) _)).trans HK.out⟩
  · have hst : stepL x s = s := by unfold stepL; rw [if_neg e1]
    rw [hst]
    clear hst
    have q1 : (x.f0 == 2) = false := beq_eq_false_iff_ne.2 e1
    clear e1
    go_enter Try.func61, Try.ntmps61
    go_wp2
    go_end0
    exact ⟨rfl, HI.out.mono (blA (Below.refl _ _) _), KeepT.of_below (blA (Below.refl _ _) _)⟩
theorem cloL (w0 : World) (b : Nat) : CloE 61 #[.pointer (some ⟨b, 0, none⟩)] (OutI w0 b) stepL List.length 1099511627776 w0 where
  enter := enter_touch11
  below := fun s W h => h.1
  mono := fun s W W' h hb => h.mono hb
  room := stepL_room
  call := fun x s W A c hI hM => touch11_calls w0 b x s W A c hI hM
def stepU0 (x : S62) (s : List Int) : List Int := if x.f0 = 1 then s ++ [x.f1] else s
def stepU (x : S62) (s : List Int) : List Int := fol stepL (stepU0 x s) (preEs x.f3)
theorem stepU0_room (x : S62) (s : List Int) : (stepU0 x s).length ≤ s.length + 1 := by
  unfold stepU0
  split
  · simp
  · omega
theorem stepU_roomS (x : S62) (s : List Int) : (stepU x s).length ≤ s.length + wS x := by
  have h1 := fol_room (sz := List.length) stepL_room (preEs x.f3) (stepU0 x s)
  have h2 := stepU0_room x s
  have h3 : wS x = 1 + nEs x.f3 := rfl
  rw [preEs_len] at h1
  unfold stepU
  omega
theorem enter_touch1 (args : Array Value) (w : World) : (callFunc 60 args).run Try.prog w = .ok (.enter 60 args) w := enters_of Try.func60 (by kernel_rfl) rfl _ _
theorem grown_box {W w1 : World} {cs : Array Value} {t : TypeId} {g : Nat} (h : (W.alloc (.cells cs t)).grownBy w1 (some g)) (hg : g < W.heap.size) (j : Nat) : w1.cell? ⟨W.heap.size, j, none⟩ = cs[j]? := by
  have h1 := heap_alloc_new W (.cells cs t)
  exact blk_cell ((h.block W.heap.size (blk_lt h1) (fun e => by have := Option.some.inj e; omega)).trans h1) j
set_option maxRecDepth 100000 in
set_option maxHeartbeats 8000000 in
theorem touch1_calls (w0 : World) (b : Nat) (x : S62) (s : List Int) (W : World) (A3 : Option Addr) (c3 : Nat) (A4 : Option Addr) (c4 : Nat) (A5 : Option Addr) (c5 : Nat) (hI : OutI w0 b s W) (hM : s.length + wS x ≤ 1099511627776) (hc : x.f3.length ≤ c3) (hr : Kd.C k29 w0 A3 x.f3.length x.f3) :
    Calls Try.prog 60 (#[.agg #[.int .i64 x.f0, .int .i64 x.f1, .int .i64 x.f2, .slice A3 x.f3.length c3, .slice A4 x.f4.length c4, .slice A5 x.f5.length c5]] ++ #[.pointer (some ⟨b, 0, none⟩)]) W fun e w' => e = .returned (.tuple #[]) ∧ OutI w0 b (stepU x s) w' ∧ KeepT W w' := by
  have hu62 := Try.underlying62
  have hm : x.f3.length ≤ 9223372036854775807 := Kd.C_max hr
  have HR := Zs0.mk hr
  have HL := Zs0.mk hm
  clear hr hm
  obtain ⟨h1, h2, g, cap, hb, hg, ho⟩ := hI
  have hc0 : W.cell? ⟨b, 0, none⟩ = some (.slice (some ⟨g, 0, none⟩) s.length cap) := by rw [blk_cell hb]; rfl
  have hlt := blk_lt hb
  have hne : b ≠ W.heap.size := by omega
  have hne' : W.heap.size ≠ b := by omega
  have GLT := Zs0.mk (show g < W.heap.size from by obtain ⟨cur, hc, _⟩ := ho; exact blk_lt hc)
  have HO := Zs0.mk (show ∀ o : Obj, OwnI (W.alloc o) g cap s from fun o => ho.below (blA (Below.refl _ _) o))
  have HBL := Zs0.mk (show ∀ o : Obj, Below w0.heap.size w0 (W.alloc o) from fun o => h1.alloc h1.size o)
  have HBB := Zs0.mk (show ∀ o : Obj, (W.alloc o).heap[b]? = some (.cells #[.slice (some ⟨g, 0, none⟩) s.length cap] 32 (0, 0)) from fun o => bkA hb o)
  have HI := Zs0.mk (show OutI w0 b s W from ⟨h1, h2, g, cap, hb, hg, ho⟩)
  have HM := Zs0.mk hM
  have H2 := Zs0.mk h2
  have HG := Zs0.mk hg
  clear h1 h2 hb hg ho hM
  have H40 := Zs0.mk (show stepU x s = fol stepL (stepU0 x s) (preEs x.f3) from rfl)
  by_cases e1 : x.f0 = 1
  · have hst : stepU0 x s = s ++ [x.f1] := by unfold stepU0; rw [if_pos e1]
    have HST := Zs0.mk hst
    clear hst
    rw [e1]
    clear e1
    go_enter Try.func60, Try.ntmps60
    go_wp2_with (at_builtin; refine Kd.R_append (Kd.int .i64) (w0 := w0) w0.heap.size rfl (.tmp 8) (.tmp 11) 32 3 (.int .i64 0) 8 rfl Try.underlying32 info3 rfl (by decide) (by omega) (.slice (some ⟨g, 0, none⟩) s.length cap) s x.f1 [.int .i64 x.f1] (fun _ => True) (fun _ => False) rfl (by first | rfl | (go_simp; done) | (simp; done)) rfl (fun _ hk => hk.elim) (fun _ _ => trivial) ((HO.out _).to_R HG.out trivial) (HBL.out _) (HBL.out _).size (by have := HM.out; have h_ : wS x = 1 + nEs x.f3 := rfl; omega) ?_; intro v1 w1 hR hB hgr _; obtain ⟨g1, cap1, rfl, hA, hK, hF, hC⟩ := OutI.app (HBL.out _) H2.out (HBB.out _) HG.out (HO.out _) hR hB hgr; have HA := Zs0.mk hA; have HK := Zs0.mk hK; have hx3 : w1.cell? ⟨W.heap.size, 3, none⟩ = some (.slice A3 x.f3.length c3) := (grown_box hgr GLT.out 3).trans rfl; clear hR hB hgr hA hK)
    have HS0 := Zs0.mk (show OutI w0 b (stepU0 x s) _ from by rw [HST.out]; exact HA.out)
    have HK0 := Zs0.mk ((KeepT.of_below (blA (Below.refl _ _) _)).trans HK.out)
    clear hx3 hF hC
    go_loopg [16] x.f3.length (fun gg s10 wr => ∃ y : Int, s10 = .int .i64 y ∧ Zs0 (∃ kk : Nat, (kk : Int) = y ∧ kk ≤ x.f3.length ∧ x.f3.length - kk ≤ gg ∧ OutI w0 b (fol stepL (stepU0 x s) (preEs (x.f3.take kk))) wr ∧ KeepT W wr))
    case atStart => exact ⟨0, rfl, ⟨⟨0, rfl, Nat.zero_le _, by omega, by rw [List.take_zero, preEs]; exact HS0.out, HK0.out⟩⟩⟩
    case round =>
      obtain ⟨y, rfl, A2⟩ := hrel
      by_cases hlt : y < (x.f3.length : Int)
      · have c4b0 : decide (y < (x.f3.length : Int)) = true := decide_eq_true hlt
        have p101 : 0 ≤ y := by obtain ⟨kk, h1, _⟩ := A2.out; omega
        obtain ⟨kk, hkk, hk1, hk2, hi, hkt⟩ := A2.out
        have hbel := hi.1
        have hkl : kk < x.f3.length := by omega
        obtain ⟨ad1, A1, c1, e1, h1_0, h1_1, h1_2, h1_3, h1_4, l1, g1⟩ := at_T29 (Kd.C_below HR.out hbel) y p101 hlt
        cases e1
        have hg1 : Kd.C k29 w0 A1 (rd_T29 x.f3 y).f4.length (rd_T29 x.f3 y).f4 := by
          obtain ⟨ad2, A2', c2, e2, _, _, _, _, h2_4, _, g2⟩ := at_T29 HR.out y p101 hlt
          cases e2
          exact C_same (ad := ad1) hbel h1_4 h2_4 g2
        have hcall := Zs0.mk (fun (o : Obj) => eachE (cloL w0 b) _ (rd_T29 x.f3 y) (fol stepL (stepU0 x s) (preEs (x.f3.take kk))) (wr.alloc o) A1 c1 (Nat.lt_succ_self _) (hi.mono (blA (Below.refl _ _) o)) (by have q1 := fol_room (sz := List.length) stepL_room (preEs (x.f3.take kk)) (stepU0 x s); have q2 := stepU0_room x s; have q3 := nEs_take x.f3 kk hkl; have q4 := HM.out; have q5 : wS x = 1 + nEs x.f3 := rfl; rw [preEs_len] at q1; rw [← hkk, rd_IE x.f3 kk hkl]; omega) l1 hg1)
        have HKK := Zs0.mk hkk
        have HKT := Zs0.mk hkt
        have HK2 := Zs0.mk hk2
        have HKL := Zs0.mk hkl
        clear hkk hk1 hk2 hi hkt hbel g1 hg1 hkl
        replace p101 := eq_true p101
        replace hlt := eq_true hlt
        go_wp2_with fail
        go_at_call 45
        (with_reducible refine (hcall.out _).mono ?_)
        rintro e w2 ⟨rfl, hi2, hk2⟩
        have HI2 := Zs0.mk hi2
        have HK2' := Zs0.mk ((KeepT.of_below (blA (Below.refl _ _) _)).trans hk2)
        clear hi2 hk2
        go_wp2
        go_roundg (gk - 1)
        case measure => have h1 := HK2.out; have h2 := HKL.out; omega
        case rel =>
          refine ⟨wrap64 (y + 1), by first | rfl | (simp; done), ⟨?_⟩⟩
          have h1 := HKK.out
          have h2 := HKL.out
          have h3 := HK2.out
          have h4 := HL.out
          refine ⟨kk + 1, by rw [wrap_ok (by omega) (by omega)]; omega, by omega, by omega, ?_, HKT.out.trans HK2'.out⟩
          have h5 := HI2.out
          rw [← h1, rd_IE x.f3 kk h2] at h5
          rw [preEs_snoc x.f3 kk h2, fol_append]
          exact h5
      · have c4b0 : decide (y < (x.f3.length : Int)) = false := decide_eq_false hlt
        have HLT := Zs0.mk hlt
        clear hlt
        go_wp2
        go_end0
        obtain ⟨kk, rfl, h1, h2, h3, h4⟩ := A2.out
        have h5 := HLT.out
        rw [List.take_of_length_le (by omega)] at h3
        exact ⟨rfl, by rw [H40.out]; exact h3, h4⟩
  · have hst : stepU0 x s = s := by unfold stepU0; rw [if_neg e1]
    have HST := Zs0.mk hst
    have q1 : (x.f0 == 1) = false := beq_eq_false_iff_ne.2 e1
    clear hst e1
    go_enter Try.func60, Try.ntmps60
    go_wp2
    have HS0 := Zs0.mk (show OutI w0 b (stepU0 x s) _ from by rw [HST.out]; exact HI.out.mono (blA (Below.refl _ _) (.cells #[.int .i64 x.f0, .int .i64 x.f1, .int .i64 x.f2, .slice A3 x.f3.length c3, .slice A4 x.f4.length c4, .slice A5 x.f5.length c5] 62)))
    have HK0 := Zs0.mk (KeepT.of_below (blA (Below.refl W.heap.size W) (.cells #[.int .i64 x.f0, .int .i64 x.f1, .int .i64 x.f2, .slice A3 x.f3.length c3, .slice A4 x.f4.length c4, .slice A5 x.f5.length c5] 62)))
    go_loopg [16] x.f3.length (fun gg s10 wr => ∃ y : Int, s10 = .int .i64 y ∧ Zs0 (∃ kk : Nat, (kk : Int) = y ∧ kk ≤ x.f3.length ∧ x.f3.length - kk ≤ gg ∧ OutI w0 b (fol stepL (stepU0 x s) (preEs (x.f3.take kk))) wr ∧ KeepT W wr))
    case atStart => exact ⟨0, rfl, ⟨⟨0, rfl, Nat.zero_le _, by omega, by rw [List.take_zero, preEs]; exact HS0.out, HK0.out⟩⟩⟩
    case round =>
      obtain ⟨y, rfl, A2⟩ := hrel
      by_cases hlt : y < (x.f3.length : Int)
      · have c4b0 : decide (y < (x.f3.length : Int)) = true := decide_eq_true hlt
        have p101 : 0 ≤ y := by obtain ⟨kk, h1, _⟩ := A2.out; omega
        obtain ⟨kk, hkk, hk1, hk2, hi, hkt⟩ := A2.out
        have hbel := hi.1
        have hkl : kk < x.f3.length := by omega
        obtain ⟨ad1, A1, c1, e1, h1_0, h1_1, h1_2, h1_3, h1_4, l1, g1⟩ := at_T29 (Kd.C_below HR.out hbel) y p101 hlt
        cases e1
        have hg1 : Kd.C k29 w0 A1 (rd_T29 x.f3 y).f4.length (rd_T29 x.f3 y).f4 := by
          obtain ⟨ad2, A2', c2, e2, _, _, _, _, h2_4, _, g2⟩ := at_T29 HR.out y p101 hlt
          cases e2
          exact C_same (ad := ad1) hbel h1_4 h2_4 g2
        have hcall := Zs0.mk (fun (o : Obj) => eachE (cloL w0 b) _ (rd_T29 x.f3 y) (fol stepL (stepU0 x s) (preEs (x.f3.take kk))) (wr.alloc o) A1 c1 (Nat.lt_succ_self _) (hi.mono (blA (Below.refl _ _) o)) (by have q1 := fol_room (sz := List.length) stepL_room (preEs (x.f3.take kk)) (stepU0 x s); have q2 := stepU0_room x s; have q3 := nEs_take x.f3 kk hkl; have q4 := HM.out; have q5 : wS x = 1 + nEs x.f3 := rfl; rw [preEs_len] at q1; rw [← hkk, rd_IE x.f3 kk hkl]; omega) l1 hg1)
        have HKK := Zs0.mk hkk
        have HKT := Zs0.mk hkt
        have HK2 := Zs0.mk hk2
        have HKL := Zs0.mk hkl
        clear hkk hk1 hk2 hi hkt hbel g1 hg1 hkl
        replace p101 := eq_true p101
        replace hlt := eq_true hlt
        go_wp2_with fail
        go_at_call 45
        (with_reducible refine (hcall.out _).mono ?_)
        rintro e w2 ⟨rfl, hi2, hk2⟩
        have HI2 := Zs0.mk hi2
        have HK2' := Zs0.mk ((KeepT.of_below (blA (Below.refl _ _) _)).trans hk2)
        clear hi2 hk2
        go_wp2
        go_roundg (gk - 1)
        case measure => have h1 := HK2.out; have h2 := HKL.out; omega
        case rel =>
          refine ⟨wrap64 (y + 1), by first | rfl | (simp; done), ⟨?_⟩⟩
          have h1 := HKK.out
          have h2 := HKL.out
          have h3 := HK2.out
          have h4 := HL.out
          refine ⟨kk + 1, by rw [wrap_ok (by omega) (by omega)]; omega, by omega, by omega, ?_, HKT.out.trans HK2'.out⟩
          have h5 := HI2.out
          rw [← h1, rd_IE x.f3 kk h2] at h5
          rw [preEs_snoc x.f3 kk h2, fol_append]
          exact h5
      · have c4b0 : decide (y < (x.f3.length : Int)) = false := decide_eq_false hlt
        have HLT := Zs0.mk hlt
        clear hlt
        go_wp2
        go_end0
        obtain ⟨kk, rfl, h1, h2, h3, h4⟩ := A2.out
        have h5 := HLT.out
        rw [List.take_of_length_le (by omega)] at h3
        exact ⟨rfl, by rw [H40.out]; exact h3, h4⟩
theorem cloU (w0 : World) (b : Nat) : CloS 60 #[.pointer (some ⟨b, 0, none⟩)] (OutI w0 b) stepU List.length 1099511627776 w0 where
  enter := enter_touch1
  below := fun s W h => h.1
  mono := fun s W W' h hb => h.mono hb
  room := stepU_roomS
  call := fun x s W A3 c3 A4 c4 A5 c5 hI hM hc hr => touch1_calls w0 b x s W A3 c3 A4 c4 A5 c5 hI hM hc hr
def impl_Touches.f (zs : List Int) (p v : Int) (l : List S62) : Option (List Int) := if nSs l < 1099511627775 then some (ascL (fol stepU [] (preSs l))) else none
set_option maxRecDepth 100000 in
set_option maxHeartbeats 4000000 in
theorem impl_Touches.calls (A0_0 : Option Addr) (c0_0 : Nat) (l0_0 : List Int) (a0_1 a0_2 : Int) (A0_3 : Option Addr) (c0_3 : Nat) (l0_3 : List S62) (r : List Int) (w : World) (hr0_0 : Kd.C (Kd.int .i64) w A0_0 l0_0.length l0_0) (hc0_0 : l0_0.length ≤ c0_0) (hr0_3 : Kd.C k62 w A0_3 l0_3.length l0_3) (hc0_3 : l0_3.length ≤ c0_3) (h : impl_Touches.f l0_0 a0_1 a0_2 l0_3 = some r) :
    Calls Try.prog 31 #[.agg #[.slice A0_0 l0_0.length c0_0, .int .i64 a0_1, .int .i64 a0_2, .slice A0_3 l0_3.length c0_3]] w fun e w' => ∃ v0_ : Value, e = .returned v0_ ∧ Kd.R (Kd.int .i64) 3 w' w.heap.size (fun _ => True) v0_ r ∧ Below w.heap.size w w' := by
  have hu40 := Try.underlying40
  unfold impl_Touches.f at h
  by_cases hn : nSs l0_3 < 1099511627775
  · rw [if_pos hn] at h
    obtain rfl := Option.some.inj h
    have hlen : (fol stepU [] (preSs l0_3)).length ≤ 1099511627775 := by
      have h1 := fol_roomS (sz := List.length) stepU_roomS (preSs l0_3) []
      rw [sumW_preSs] at h1
      simp only [List.length_nil] at h1
      omega
    have hcall := Zs0.mk (fun (o : Obj) => eachS (cloU w (w.heap.size + 1 + 1)) _ l0_3 [] _ A0_3 c0_3 (fun x hx => Nat.lt_succ_of_lt (List.sizeOf_lt_of_mem hx)) (outStart w o) (by simp only [List.length_nil]; omega) hc0_3 hr0_3)
    have HLN := Zs0.mk hlen
    clear hlen h hr0_0 hr0_3 hn
    go_enter Try.func31, Try.ntmps31
    go_wp2_with fail
    go_at_call 43
    refine (hcall.out _).mono ?_
    rintro e w1 ⟨rfl, ⟨hb1, hb2, g, cap, hb, hg, ho⟩, hk1⟩
    have hc1 : w1.cell? ⟨w.heap.size + 1 + 1, 0, none⟩ = some (.slice (some ⟨g, 0, none⟩) (fol stepU [] (preSs l0_3)).length cap) := by rw [blk_cell hb]; rfl
    have HA := Zs0.mk (asc_calls w1 g cap _ ho (by have := HLN.out; omega))
    have HB := Zs0.mk hb1
    have HG := Zs0.mk hg
    clear hb1 hb2 hb hg ho hk1 hcall
    generalize hz : fol stepU [] (preSs l0_3) = zs at *
    have HZ := Zs0.mk hz
    clear hz
    go_wp2_with fail
    go_at_call 56
    refine HA.out.mono ?_
    rintro e w2 ⟨rfl, ho2, hg2⟩
    have HR := Zs0.mk (ho2.to_R (base := w.heap.size) (ok := fun _ => True) HG.out trivial)
    have HB2 := Zs0.mk (HB.out.grown hg2 HB.out.size (fun k hk => by obtain rfl := Option.some.inj hk; exact HG.out))
    clear ho2 hg2
    go_wp2
    go_ret
    exact ⟨_, rfl, by rw [HZ.out]; exact HR.out, HB2.out⟩
  · rw [if_neg hn] at h
    cases h
end Go.Proofs.Ytjcggilkfofiaaa.P
