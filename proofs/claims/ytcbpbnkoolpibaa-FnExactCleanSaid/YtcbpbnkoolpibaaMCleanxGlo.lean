/- Which slots are live behind each block, as_ the program finds it: the contract of impl.liveOf. Condition: the graph is right. -/
import Derived.Test.YtcbpbnkoolpibaaMClean2qa
import Derived.Test.YtcbpbnkoolpibaaMClean0b
set_option maxHeartbeats 8000000
set_option maxRecDepth 100000
set_option linter.unusedVariables false
set_option linter.unusedSimpArgs false
namespace Go.Proofs.Ytcbpbnkoolpibaa.P
open RowKit YtcbpbnkoolpibaaW.wA YtcbpbnkoolpibaaW.wB YtcbpbnkoolpibaaW.wC Gr Aux
theorem live_walk (k : Nat) (A0_0 : Option Addr) (c0_0 : Nat) (l0_0 : List Int) (a0_1 a0_2 a0_3 : Int) (A0_4 : Option Addr) (c0_4 : Nat) (l0_4 : List S47) (r : List (List Bool)) (w : World) (hr0_4 : Kd.C k47 w A0_4 l0_4.length l0_4) (hc0_4 : l0_4.length ≤ c0_4)
    (hs : 0 ≤ a0_3 ∧ a0_3 ≤ 1000) (hn : 0 < l0_4.length ∧ l0_4.length ≤ 300) (hblk : ∀ b ∈ l0_4, BlkOk a0_3 l0_4.length b) (Z : List Bool) (hZ : Z = List.replicate a0_3.toNat false) (h : liveI l0_4 k (List.replicate l0_4.length Z, List.replicate l0_4.length Z) = some r) :
    Calls Try.prog 42 #[.agg #[.slice A0_0 l0_0.length c0_0, .int .i64 a0_1, .int .i64 a0_2, .int .i64 a0_3, .slice A0_4 l0_4.length c0_4]] w fun e w' => ∃ v0_ : Value, e = .returned (v0_) ∧ Kd.S (Kd.slice 4 Kd.bool) 54 w' w.heap.size (fun _ => True) v0_ r ∧ Below w.heap.size w w' := by
  have huIG := Try.underlying29
  have huIB := Try.underlying47
  have HR4 := Zs0.mk hr0_4
  have HC4 := Zs0.mk hc0_4
  have HS := Zs0.mk hs
  have HS3 := Zs0.mk (show a0_3.toNat ≤ 1048576 by omega)
  have HN := Zs0.mk hn
  have HBK := Zs0.mk hblk
  have HL := Zs0.mk h
  have HZ := Zs0.mk hZ
  have HB := Zs0.mk (Below.refl w.heap.size w)
  clear hr0_4 hc0_4 hs hn hblk h hZ
  go_enter Try.func42, Try.ntmps42
  go_wp2_with (first
    | ((with_reducible refine gtD (N := 1) rfl ?_); refine bxE ?hg (N := 1) ?hd (cs := #[.slice A0_0 l0_0.length c0_0, .int .i64 a0_1, .int .i64 a0_2, .int .i64 a0_3, .slice A0_4 l0_4.length c0_4]) (t := 29) ?hr ?_; (case hd => rfl); (case hg => rfl); (case hr => first | (go_simp; done) | (go_simp; rfl)); intro g hg w2 hbox hb; have BX := Zs0.mk hbox; have GE := Zs0.mk (show w.heap.size ≤ g by rw [hg]; exact Nat.le_refl _); have HB2 := Zs0.mk (blT HB.out hb); clear HB hb hbox hg)
    | ((with_reducible refine gtD (N := 14) rfl ?_); refine Kd.S_lit dd _ 54 ?hg (N := 14) ?hd (xs := ([] : List (List Bool))) (inner := []) (ok := fun _ => True) (okp := fun _ => True) ?hr ?hp (fun _ hk => hk) trivial (Below.refl _ _) (Nat.le_refl _) (by simp) ?_; (case hd => rfl); (case hg => rfl); (case hr => first | (go_simp; done) | (go_simp; rfl)); (case hp => exact (Reps.none _ _)); intro v14 w14 hs14 hb hg_ hnew_; clear hg_ hnew_; have S14 := Zs0.mk (Kd.S_lower hs14 HB2.out.size); have BX14 := Zs0.mk (bkB BX.out hb); have HB14 := Zs0.mk (blT HB2.out hb); clear hb hs14 BX HB2)
    | ((with_reducible refine gtD (N := 15) rfl ?_); refine Kd.S_lit dd _ 54 ?hg (N := 15) ?hd (xs := ([] : List (List Bool))) (inner := []) (ok := fun _ => True) (okp := fun _ => True) ?hr ?hp (fun _ hk => hk) trivial (Below.refl _ _) (Nat.le_refl _) (by simp) ?_; (case hd => rfl); (case hg => rfl); (case hr => first | (go_simp; done) | (go_simp; rfl)); (case hp => exact (Reps.none _ _)); intro v15 w15 hs15 hb hg_ hnew_; clear hg_ hnew_; have T15 := Zs0.mk (Two.mk0 (w := w) S14.out hb hs15 (Nat.le_refl _) HB14.out.size); have BX15 := Zs0.mk (bkB BX14.out hb); have HB15 := Zs0.mk (blT HB14.out hb); clear hb hs15 S14 BX14 HB14; obtain ⟨y0, y1, y2, y3, y4, z0, z1, z2, z3, z4⟩ := bx5 BX15.out))
  go_loopg [3, 4, 19] l0_4.length (fun gg s3 s4 s19 wr => ∃ x : Int, s19 = .int .i64 x ∧ Zs0 (Inv0 w g #[.slice A0_0 l0_0.length c0_0, .int .i64 a0_1, .int .i64 a0_2, .int .i64 a0_3, .slice A0_4 l0_4.length c0_4] l0_4.length Z x gg s3 s4 wr))
  case atStart => exact ⟨0, rfl, ⟨⟨0, rfl, Nat.zero_le _, by omega, T15.out, BX15.out, HB15.out⟩⟩⟩
  case round =>
    clear T15 BX15 HB15 y0 y1 y2 y3 y4 z0 z1 z2 z3 z4
    obtain ⟨x, rfl, HI⟩ := hrel
    by_cases hlt : x < (l0_4.length : Int)
    · have c4b0 : decide (x < (l0_4.length : Int)) = true := decide_eq_true hlt
      clear hlt
      obtain ⟨j, hjx, hj1, hj2, hT, hbx, hbe⟩ := HI.out
      have HJ := Zs0.mk (show (j : Int) = x ∧ j < l0_4.length ∧ l0_4.length - j ≤ gk from ⟨hjx, by have := of_decide_eq_true c4b0; omega, hj2⟩)
      have T0 := Zs0.mk hT
      have BX := Zs0.mk hbx
      have HB := Zs0.mk hbe
      have h0 : decide (0 ≤ a0_3) = true := decide_eq_true HS.out.1
      clear hjx hj1 hj2 hT hbx hbe HI
      obtain ⟨y0, y1, y2, y3, y4, z0, z1, z2, z3, z4⟩ := bx5 BX.out
      go_wp2_with (first
        | ((with_reducible refine gtD (N := 24) rfl ?_); refine Kd.R_make Kd.bool _ 4 rfl (N := 24) rfl 54 _ _ rfl a0_3 rfl rfl Try.underlying54 (.bool false) 1 info4 rfl (by decide) (by omega) false (ok := fun _ => True) (okp := fun _ => True) rfl (fun _ hk => hk) trivial HS.out.1 (by have := HS.out; omega) (Below.refl _ _) (Nat.le_refl _) ?_; intro v24 w24 ho hb hg hn; rw [← HZ.out] at ho; obtain ⟨A24, c24, rfl⟩ := Kd.R_slice ho; obtain ⟨ok24, okp24, a1, a2, a3, a4, a5⟩ := T0.out.add hb HB.out.size ho; have P1 := Zs0.mk a1; have P2 := Zs0.mk a2; have P3 := Zs0.mk a3; have P4 := Zs0.mk a4; have P5 := Zs0.mk a5; have HB24 := Zs0.mk (blT HB.out hb); have BX24 := Zs0.mk (bkB BX.out hb); clear a1 a2 a3 a4 a5 ho hb hg hn T0 HB BX)
        | ((with_reducible refine gate_builtin (b := .append) (xs := #[.tmp 21, .tmp 25]) rfl ?_); at_builtin; refine Kd.S_append dd (w0 := w) w.heap.size rfl (.tmp 21) (.tmp 25) 52 54 (.slice none 0 0) 24 rfl Try.underlying52 info54 rfl (by decide) (by omega) u3 (List.replicate j Z) Z [.slice A24 Z.length c24] ok24 okp24 rfl rfl P1.out P2.out P3.out P4.out HB24.out HB24.out.size (by have := HJ.out; have := HN.out; rw [List.length_replicate]; omega) ?_; intro v26 w26 hs hb hg hat; have T26 := Zs0.mk (P5.out v26 w26 hs hg).swap; have BX26 := Zs0.mk (blk_grown BX24.out hg (Kd.S_ne P4.out BX24.out (by decide))); have HB26 := Zs0.mk hb; clear hs hb hg hat P1 P2 P3 P4 P5 HB24 BX24; obtain ⟨y0, y1, y2, y3, y4, z0, z1, z2, z3, z4⟩ := bx5 BX26.out)
        | ((with_reducible refine gtD (N := 30) rfl ?_); refine Kd.R_make Kd.bool _ 4 rfl (N := 30) rfl 54 _ _ rfl a0_3 rfl rfl Try.underlying54 (.bool false) 1 info4 rfl (by decide) (by omega) false (ok := fun _ => True) (okp := fun _ => True) rfl (fun _ hk => hk) trivial HS.out.1 (by have := HS.out; omega) (Below.refl _ _) (Nat.le_refl _) ?_; intro v30 w30 ho hb hg hn; rw [← HZ.out] at ho; obtain ⟨A30, c30, rfl⟩ := Kd.R_slice ho; obtain ⟨ok30, okp30, a1, a2, a3, a4, a5⟩ := T26.out.add hb HB26.out.size ho; have P1 := Zs0.mk a1; have P2 := Zs0.mk a2; have P3 := Zs0.mk a3; have P4 := Zs0.mk a4; have P5 := Zs0.mk a5; have HB30 := Zs0.mk (blT HB26.out hb); have BX30 := Zs0.mk (bkB BX26.out hb); clear a1 a2 a3 a4 a5 ho hb hg hn T26 HB26 BX26)
        | ((with_reducible refine gate_builtin (b := .append) (xs := #[.tmp 27, .tmp 31]) rfl ?_); at_builtin; refine Kd.S_append dd (w0 := w) w.heap.size rfl (.tmp 27) (.tmp 31) 52 54 (.slice none 0 0) 24 rfl Try.underlying52 info54 rfl (by decide) (by omega) u4 (List.replicate j Z) Z [.slice A30 Z.length c30] ok30 okp30 rfl rfl P1.out P2.out P3.out P4.out HB30.out HB30.out.size (by have := HJ.out; have := HN.out; rw [List.length_replicate]; omega) ?_; intro v32 w32 hs hb hg hat; have T32 := Zs0.mk (P5.out v32 w32 hs hg).swap; have BX32 := Zs0.mk (blk_grown BX30.out hg (Kd.S_ne P4.out BX30.out (by decide))); have HB32 := Zs0.mk hb; clear hs hb hg hat P1 P2 P3 P4 P5 HB30 BX30; obtain ⟨y0, y1, y2, y3, y4, z0, z1, z2, z3, z4⟩ := bx5 BX32.out))
      go_roundg (gk - 1)
      case measure => have := HJ.out; omega
      case rel =>
        have hj := HJ.out
        refine ⟨_, rfl, ⟨⟨j + 1, ?_, by omega, by omega, ?_, BX32.out, HB32.out⟩⟩⟩
        · have := HN.out
          rw [wrap_ok (by omega) (by omega)]
          omega
        · have hT := T32.out
          rw [rep_snoc] at hT
          exact hT
    · have c4b0 : decide (x < (l0_4.length : Int)) = false := decide_eq_false hlt
      have HLT := Zs0.mk hlt
      clear hlt
      obtain ⟨j, hjx, hj1, hj2, hT, hbx, hbe⟩ := HI.out
      obtain rfl : j = l0_4.length := by have := HLT.out; omega
      have T0 := Zs0.mk hT
      have BX := Zs0.mk hbx
      have HB := Zs0.mk hbe
      clear HI hjx hj1 hj2 hT hbx hbe HLT
      obtain ⟨gB, cB, hB0⟩ : ∃ gB cB, u3 = .slice (some ⟨gB, 0, none⟩) l0_4.length cB := by
        obtain ⟨gB, cB, e, _⟩ := T0.out.form (by rw [List.length_replicate]; exact HN.out.1)
        rw [List.length_replicate] at e
        exact ⟨gB, cB, e⟩
      obtain ⟨gA, cA, hA0⟩ : ∃ gA cA, u4 = .slice (some ⟨gA, 0, none⟩) l0_4.length cA := by
        obtain ⟨gA, cA, e, _⟩ := T0.out.swap.form (by rw [List.length_replicate]; exact HN.out.1)
        rw [List.length_replicate] at e
        exact ⟨gA, cA, e⟩
      subst hB0 hA0
      have SZ := Zs0.mk (show Shp l0_4.length a0_3.toNat (List.replicate l0_4.length Z) by rw [HZ.out]; exact shp_rep _ _)
      go_wp2
      go_loopg [5] k (fun gg s5 wr => ∃ b : Bool, s5 = .bool b ∧ Zs0 (Inv2 w g #[.slice A0_0 l0_0.length c0_0, .int .i64 a0_1, .int .i64 a0_2, .int .i64 a0_3, .slice A0_4 l0_4.length c0_4] l0_4 a0_3.toNat r (.slice (some ⟨gB, 0, none⟩) l0_4.length cB) (.slice (some ⟨gA, 0, none⟩) l0_4.length cA) b gg wr))
      case atStart => exact ⟨true, rfl, ⟨⟨_, _, T0.out, BX.out, HB.out, SZ.out, SZ.out, .inl ⟨rfl, k, Nat.le_refl _, HL.out⟩⟩⟩⟩
      case round =>
        clear T0 BX HB SZ HL HZ
        obtain ⟨b, rfl, HI⟩ := hrel
        cases b with
        | false =>
          obtain ⟨B, A, hT, hbx, hbe, hSB, hSA, hcase⟩ := HI.out
          rcases hcase with ⟨h, _⟩ | ⟨_, hBr⟩
          · cases h
          subst hBr
          have T0 := Zs0.mk hT
          have HB := Zs0.mk hbe
          clear HI hT hbx hbe hSB hSA
          go_wp2
          go_ret
          obtain ⟨P, _, hS, _⟩ := T0.out
          exact ⟨_, rfl, Kd.S_mono hS fun _ _ => trivial, HB.out⟩
        | true =>
          obtain ⟨B, A, hT, hbx, hbe, hSB, hSA, hcase⟩ := HI.out
          obtain ⟨kk, hkk, hlv⟩ : ∃ kk, kk + 1 ≤ gk ∧ liveI l0_4 (kk + 1) (B, A) = some r := by
            rcases hcase with ⟨_, kk, h1, h2⟩ | ⟨h, _⟩
            · cases kk with
              | zero => cases h2
              | succ kk => exact ⟨kk, h1, h2⟩
            · cases h
          have HK := Zs0.mk hkk
          have HLV := Zs0.mk hlv
          have T0 := Zs0.mk hT
          have BX := Zs0.mk hbx
          have HB := Zs0.mk hbe
          have SB := Zs0.mk hSB
          have SA := Zs0.mk hSA
          obtain ⟨y0, y1, y2, y3, y4, z0, z1, z2, z3, z4⟩ := bx5 hbx
          clear HI hT hbx hbe hSB hSA hcase hkk hlv
          go_wp2
          obtain ⟨R, hR⟩ : ∃ R, R = roundI l0_4 l0_4.length (B, A, false) := ⟨_, rfl⟩
          have HR := Zs0.mk hR
          clear hR
          go_loopg [5, 6] l0_4.length (fun gg s5 s6 wr => ∃ (b : Bool) (x6 : Int), s5 = .bool b ∧ s6 = .int .i64 x6 ∧ Zs0 (Inv4 w g #[.slice A0_0 l0_0.length c0_0, .int .i64 a0_1, .int .i64 a0_2, .int .i64 a0_3, .slice A0_4 l0_4.length c0_4] l0_4 a0_3.toNat R (.slice (some ⟨gB, 0, none⟩) l0_4.length cB) (.slice (some ⟨gA, 0, none⟩) l0_4.length cA) b x6 gg wr))
          case atStart => exact ⟨false, _, rfl, rfl, ⟨⟨l0_4.length, B, A, (by have := HN.out; rw [wrap_ok (by omega) (by omega)]), Nat.le_refl _, Nat.le_refl _, T0.out, BX.out, HB.out, SB.out, SA.out, HR.out.symm⟩⟩⟩
          case round =>
            clear T0 BX HB SB SA y0 y1 y2 y3 y4 z0 z1 z2 z3 z4
            obtain ⟨b, x6, rfl, rfl, HI⟩ := hrel
            by_cases hlt : 0 ≤ x6
            · have c6b0 : decide (0 ≤ x6) = true := decide_eq_true hlt
              obtain ⟨m, B1, A1, hm, hm1, hm2, hT, hbx, hbe, hSB, hSA, hrd⟩ := HI.out
              obtain ⟨i, rfl⟩ : ∃ i, m = i + 1 := ⟨m - 1, by omega⟩
              have hq : x6 < (l0_4.length : Int) := by omega
              obtain ⟨ad, Ac, cc, e0, hx0, hx1, hx2, hx3, hx4, hlc, hcc⟩ := at_T47 HR4.out x6 hlt hq
              replace hx0 := pw_cell_below hbe hx0
              replace hx1 := pw_cell_below hbe hx1
              replace hx2 := pw_cell_below hbe hx2
              replace hx3 := pw_cell_below hbe hx3
              replace hx4 := pw_cell_below hbe hx4
              subst e0
              have HM := Zs0.mk (show (i : Int) = x6 ∧ i < l0_4.length ∧ i + 1 ≤ gk from ⟨by omega, by omega, hm2⟩)
              have T0 := Zs0.mk hT
              have BX := Zs0.mk hbx
              have HB := Zs0.mk hbe
              have SB := Zs0.mk hSB
              have SA := Zs0.mk hSA
              have HRD := Zs0.mk hrd
              have hbk0 : r47 l0_4 x6 = l0_4.getD i z47 := by
                unfold r47
                rw [show x6.toNat = i by omega]
              have hok : BlkOk a0_3 l0_4.length (r47 l0_4 x6) := by
                rw [hbk0, List.getD_eq_getElem?_getD, List.getElem?_eq_getElem (show i < l0_4.length by omega)]
                exact HBK.out _ (List.getElem_mem _)
              have HOK := Zs0.mk hok
              have HB0 := Zs0.mk hbk0
              have HCC := Zs0.mk hcc
              have HLC := Zs0.mk hlc
              clear hok hbk0 hcc hlc
              generalize r47 l0_4 x6 = bk at *
              obtain ⟨y0, y1, y2, y3, y4, z0, z1, z2, z3, z4⟩ := bx5 hbx
              have q6 := eq_true hq
              have p6 := eq_true hlt
              clear HI hT hbx hbe hSB hSA hm hm1 hm2 hrd hlt hq
              go_wp2_with fail
              go_at_call 57
              refine (impl_nextOf.calls _ _ bk.f0 bk.f1 bk.f2 bk.f3 bk.f4 (nextL bk) _ (Kd.cA1 (Kd.cB1 HCC.out HB.out) _) HLC.out (next_i bk)).mono ?_
              rintro e w49 ⟨v49, rfl, ho, hb⟩
              obtain ⟨A49, c49, rfl⟩ := Kd.R_slice ho
              have F49 := Zs0.mk (show Fr w g wr.heap.size _ _ w49 from ⟨bkB (bkA BX.out _) hb, bkB (heap_alloc_new wr (.cells #[.slice Ac bk.f0.length cc, .int .i64 bk.f1, .int .i64 bk.f2, .int .i64 bk.f3, .int .i64 bk.f4] 47)) hb, blT (blA HB.out _) hb⟩)
              have T49 := Zs0.mk ((T0.out.below (blA (Below.refl _ _) _)).below hb)
              have R49 := Zs0.mk (Kd.R_lower ho (blA HB.out _).size)
              clear ho hb T0 BX HB hx0 hx1 hx2 hx3 hx4 y0 y1 y2 y3 y4 z0 z1 z2 z3 z4
              have HW := Zs0.mk (show wr.heap.size = wr.heap.size from rfl)
              generalize wr.heap.size = gy at F49 T49 HW ⊢
              obtain ⟨J, hJ⟩ : ∃ J, J = joinI A1 (row B1 i) (nxs l0_4 i) := ⟨_, rfl⟩
              have HJ := Zs0.mk hJ
              clear hJ
              go_wp2
              have hx6 : nxs l0_4 i = (nextL bk).map Int.toNat := by rw [HB0.out]; rfl
              have HJ0 := Zs0.mk HJ.out
              rw [hx6] at HJ
              have NX := Zs0.mk HOK.out.2.2.2
              go_loopg [51] (nextL bk).length (fun gg s51 wr => ∃ x : Int, s51 = .int .i64 x ∧ Zs0 (Inv6 w g gy gy #[.slice A0_0 l0_0.length c0_0, .int .i64 a0_1, .int .i64 a0_2, .int .i64 a0_3, .slice (some ad) l0_4.length c0_4] #[.slice Ac bk.f0.length cc, .int .i64 bk.f1, .int .i64 bk.f2, .int .i64 bk.f3, .int .i64 bk.f4] l0_4 a0_3.toNat i B1 A1 (nextL bk) J (.slice (some ⟨gB, 0, none⟩) l0_4.length cB) (.slice (some ⟨gA, 0, none⟩) l0_4.length cA) (.slice A49 (nextL bk).length c49) x gg wr))
              case atStart => exact ⟨0, rfl, ⟨⟨0, row B1 i, rfl, Nat.zero_le _, by omega, by rw [set_row]; exact T49.out, SB.out.2 i HM.out.2.1, by rw [List.drop_zero]; exact HJ.out.symm, R49.out, F49.out⟩⟩⟩
              case round =>
                clear T49 R49 F49 hx6
                obtain ⟨x51, rfl, HI⟩ := hrel
                by_cases hlt : x51 < ((nextL bk).length : Int)
                · have c51b0 : decide (x51 < ((nextL bk).length : Int)) = true := decide_eq_true hlt
                  obtain ⟨jj, X, hj, hj1, hj2, hT, hX, hjo, hR, hF⟩ := HI.out
                  have hp : 0 ≤ x51 := by omega
                  obtain ⟨an, en, hn0⟩ := Kd.at_int (Kd.R_reads' hR).2.2 x51 hp hlt
                  subst en
                  have hjl : jj < (nextL bk).length := by omega
                  obtain ⟨tx, htx⟩ : ∃ tx, tx = rd (nextL bk) x51 := ⟨_, rfl⟩
                  have htm : tx = (nextL bk)[jj] := by rw [htx, ← hj]; exact rd_lt _ _ hjl
                  obtain ⟨ht0, ht1⟩ := NX.out tx (by rw [htm]; exact List.getElem_mem _)
                  obtain ⟨At, ct, hA, _, hAl, hAC⟩ := hT.swap.at tx.toNat (by omega)
                  rw [← htx] at hn0
                  obtain ⟨Y, hY⟩ : ∃ Y, Y = row A1 tx.toNat := ⟨_, rfl⟩
                  rw [← hY] at hA
                  have HJJ := Zs0.mk (show (jj : Int) = x51 ∧ jj < (nextL bk).length ∧ (nextL bk).length - jj ≤ gk from ⟨hj, hjl, hj2⟩)
                  have HX := Zs0.mk hX
                  have HYY := Zs0.mk hY
                  have HTM := Zs0.mk (show ((nextL bk).map Int.toNat).drop jj = tx.toNat :: ((nextL bk).map Int.toNat).drop (jj + 1) by
                    rw [List.drop_eq_getElem_cons (by rw [List.length_map]; exact hjl), List.getElem_map, ← htm])
                  have HJO := Zs0.mk hjo
                  have HYL := Zs0.mk (show Y.length = a0_3.toNat by rw [hY]; exact SA.out.2 tx.toNat (by omega))
                  have HY1 := Zs0.mk (show Y.length ≤ 1000 by rw [HYL.out]; have := HS.out; omega)
                  have T0 := Zs0.mk hT
                  have R0 := Zs0.mk hR
                  have F0 := Zs0.mk hF
                  have p51 := eq_true hp
                  have q51 := eq_true hlt
                  have ptx := eq_true ht0
                  have qtx := eq_true ht1
                  have HTX := Zs0.mk (show 0 ≤ tx ∧ tx < (l0_4.length : Int) from ⟨ht0, ht1⟩)
                  have HA0 := Zs0.mk hA
                  clear HI hj hj1 hj2 hT hX hjo hR hF hp hlt hjl htx htm ht0 ht1 hAl hAC hY
                  go_wp2
                  go_loopg [60] Y.length (fun gg s60 wr => ∃ x : Int, s60 = .int .i64 x ∧ Zs0 (Inv8 w g gy gy gA tx.toNat (.slice At Y.length ct) #[.slice A0_0 l0_0.length c0_0, .int .i64 a0_1, .int .i64 a0_2, .int .i64 a0_3, .slice (some ad) l0_4.length c0_4] #[.slice Ac bk.f0.length cc, .int .i64 bk.f1, .int .i64 bk.f2, .int .i64 bk.f3, .int .i64 bk.f4] Y.length i B1 A1 (nextL bk) X Y (.slice (some ⟨gB, 0, none⟩) l0_4.length cB) (.slice (some ⟨gA, 0, none⟩) l0_4.length cA) (.slice (some an) (nextL bk).length c49) x gg wr))
                  case atStart => exact ⟨0, rfl, ⟨⟨0, rfl, Nat.zero_le _, by omega, T0.out, HA0.out, R0.out, F0.out⟩⟩⟩
                  case round =>
                    clear T0 R0 F0 HA0 hA hn0
                    obtain ⟨x60, rfl, HI⟩ := hrel
                    by_cases hlt : x60 < (Y.length : Int)
                    · have c60b0 : decide (x60 < (Y.length : Int)) = true := decide_eq_true hlt
                      obtain ⟨s, hsx, hs1, hs2, hT, hA, hR, hF⟩ := HI.out
                      have hp : 0 ≤ x60 := by omega
                      have hil : i < l0_4.length := HM.out.2.1
                      have hrow : row (B1.set i (orTo s X Y)) i = orTo s X Y := by rw [row_set, if_pos ⟨rfl, by rw [SB.out.1]; exact hil⟩]
                      have hol : (orTo s X Y).length = Y.length := by rw [orTo_len, HX.out, HYL.out]
                      obtain ⟨Ai, ci, hBc, _, _, _⟩ := hT.at i hil
                      rw [hrow, hol] at hBc
                      obtain ⟨q, rfl, hq1, hq2, hq3, hq4, hq5, hq6, hq7⟩ := hT.put i hil hBc x60.toNat (by rw [hrow]; omega) (gb (orTo s X Y) s || gb Y s)
                      rw [hrow] at hq5 hq7
                      have hes : x60.toNat = s := by omega
                      have hgg : gb (orTo s X Y) x60.toNat = gb (orTo s X Y) s := by rw [hes]
                      rw [hgg] at hq5
                      obtain ⟨At2, ct2, hA2, _, _, hAC⟩ := hT.swap.at tx.toNat (by have := HTX.out; omega)
                      rw [← HYY.out] at hA2 hAC
                      rw [hA] at hA2
                      obtain ⟨rfl, rfl⟩ : At = At2 ∧ ct = ct2 := by
                        injection hA2 with hA2
                        injection hA2 with h1 _ h2
                        exact ⟨h1, h2⟩
                      obtain ⟨at_, eat, hy0⟩ := Kd.at_bool hAC x60 hp hlt
                      subst eat
                      have hov : rdOf false Y x60 = gb Y s := by
                        unfold rdOf gb
                        rw [show x60.toNat = s by omega]
                      rw [hov] at hy0
                      have hei : x6.toNat = i := by have := HM.out.1; omega
                      rw [← hei] at hBc
                      have HQ := Zs0.mk hq7
                      have HF := Zs0.mk (hF.put (s := x60.toNat) (u := .bool (gb (orTo s X Y) s || gb Y s)) hq4 hq3)
                      obtain ⟨qcs, hqc⟩ := hq4
                      have HRR := Zs0.mk (Kd.R_set hR hqc (by decide) x60.toNat (.bool (gb (orTo s X Y) s || gb Y s)))
                      have HAA := Zs0.mk (show (wr.setCell ⟨q, x60.toNat, none⟩ (.bool (gb (orTo s X Y) s || gb Y s))).cell? ⟨gA, tx.toNat, none⟩ = some (.slice (some at_) Y.length ct) from (cell_far (fun e => hq2 e.symm) _).trans hA)
                      have HSX := Zs0.mk (show (s : Int) = x60 ∧ s < Y.length ∧ Y.length - s ≤ gk from ⟨hsx, by omega, hs2⟩)
                      have p60 := eq_true hp
                      have q60 := eq_true hlt
                      clear HI hsx hs1 hs2 hT hA hR hF hp hlt hil hrow hol hq1 hq2 hq3 hq7 hqc hAC hov hA2 hei hes hgg
                      have HOS := Zs0.mk (show orTo (s + 1) X Y = (orTo s X Y).set s (gb (orTo s X Y) s || gb Y s) from rfl)
                      generalize gb (orTo s X Y) s = o1 at hq5 HQ HF HRR HAA HOS ⊢
                      generalize gb Y s = o2 at hy0 HQ HF HRR HAA HOS ⊢
                      cases o1 with
                      | true =>
                        go_wp2
                        go_region
                        go_wp2
                        go_roundg (gk - 1)
                        case measure => exact Nat.sub_lt (Nat.lt_of_lt_of_le (Nat.sub_pos_of_lt HSX.out.2.1) HSX.out.2.2) Nat.one_pos
                        case rel => exact ⟨_, rfl, ⟨inv8_next (o := true) HSX.out HY1.out HQ.out HOS.out HAA.out HRR.out HF.out⟩⟩
                      | false =>
                        go_wp2
                        go_region
                        go_wp2
                        go_roundg (gk - 1)
                        case measure => exact Nat.sub_lt (Nat.lt_of_lt_of_le (Nat.sub_pos_of_lt HSX.out.2.1) HSX.out.2.2) Nat.one_pos
                        case rel => exact ⟨_, rfl, ⟨inv8_next (o := o2) HSX.out HY1.out HQ.out HOS.out HAA.out HRR.out HF.out⟩⟩
                    · have c60b0 : decide (x60 < (Y.length : Int)) = false := decide_eq_false hlt
                      obtain ⟨s, hsx, hs1, hs2, hT, hA, hR, hF⟩ := HI.out
                      obtain rfl : s = Y.length := by omega
                      have HNX := Zs0.mk (inv6_next (bs := l0_4) HJJ.out (nextL_length bk) hT HX.out HYL.out HTM.out HYY.out HJO.out hR hF)
                      clear HI hsx hs1 hs2 hT hA hR hF hlt
                      go_wp2
                      go_roundg ((nextL bk).length - (jj + 1))
                      case measure => exact Nat.lt_of_lt_of_le (Nat.sub_lt_sub_left HJJ.out.2.1 (Nat.lt_succ_self jj)) HJJ.out.2.2
                      case rel => exact ⟨_, rfl, HNX⟩
                · have c51b0 : decide (x51 < ((nextL bk).length : Int)) = false := decide_eq_false hlt
                  obtain ⟨jj, X, hj, hj1, hj2, hT, hX, hjo, hR, hF⟩ := HI.out
                  obtain rfl : jj = (nextL bk).length := by omega
                  rw [List.drop_of_length_le (by rw [List.length_map]; exact Nat.le_refl _)] at hjo
                  obtain rfl : X = J := hjo
                  obtain ⟨Ai, ci, hBc, _, hJc, hJC⟩ := hT.at i HM.out.2.1
                  have hrow : row (B1.set i X) i = X := by rw [row_set, if_pos ⟨rfl, by rw [SB.out.1]; exact HM.out.2.1⟩]
                  rw [hrow] at hBc hJc hJC
                  rw [show i = x6.toNat by have := HM.out.1; omega] at hBc
                  have HX := Zs0.mk hX
                  have T0 := Zs0.mk hT
                  have F0 := Zs0.mk hF
                  have HJC := Zs0.mk hJC
                  have HNL := Zs0.mk (blk_lt hF.2.1)
                  have HNG := Zs0.mk (blk_lt hF.1)
                  clear HI hj hj1 hj2 hT hX hR hF hrow hJc hJC hlt
                  go_upto_if 91 with (first
                    | ((with_reducible refine gtD (N := 83) rfl ?_); refine Kd.R_lit Kd.bool _ 4 ?hg (N := 83) ?hd (xs := ([] : List Bool)) (inner := []) (ok := fun _ => True) (okp := fun _ => True) ?hr ?hp (fun _ hk => hk) trivial (Below.refl _ _) (Nat.le_refl _) (by simp) ?_; (case hd => rfl); (case hg => rfl); (case hr => first | (go_simp; done) | (go_simp; rfl)); (case hp => exact (Reps.none _ _)); intro v83 w83 ho hb hg_ hnew_; clear hg_ hnew_; have R83 := Zs0.mk ho; have HB83 := Zs0.mk hb; replace hBc := pw_cell_below hb hBc; have C83 := Zs0.mk (Kd.cB1 HJC.out hb); clear ho hb HJC)
                    | ((with_reducible refine gate_builtin (b := .append) (xs := #[.tmp 83, .tmp 87]) rfl ?_); at_builtin; refine Kd.R_append_rows Kd.bool (w0 := wr) wr.heap.size rfl (.tmp 83) (.tmp 87) 54 4 (.bool false) 1 rfl Try.underlying54 info4 rfl (by decide) (by omega) v83 ([] : List Bool) X _ _ _ (fun _ => True) (fun _ => False) rfl rfl R83.out C83.out (fun _ _ h => h) (fun _ h => h.elim) (fun _ _ => trivial) HB83.out HB83.out.size (by have := HX.out; have := HS.out; rw [List.length_nil]; omega) ?_; intro v88 w88 ho hb hg hat; rw [List.nil_append] at ho; have R88 := Zs0.mk (Kd.R_lower (Kd.R_mono (ok' := fun q => wr.heap.size ≤ q) (Kd.R_bound ho) fun q h => h.2.1) F0.out.2.2.size); have T88 := Zs0.mk ((T0.out.raise (Nat.le_of_lt HNL.out)).below hb); have F88 := Zs0.mk (F0.out.below hb); have HB88 := Zs0.mk hb.size; clear ho hb hg hat R83 HB83 C83 T0 F0 hBc; obtain ⟨y0, y1, y2, y3, y4, z0, z1, z2, z3, z4⟩ := bx5 F88.out.2.1))
                  have M88 := Zs0.mk (show MidS w g gy wr.heap.size #[.slice A0_0 l0_0.length c0_0, .int .i64 a0_1, .int .i64 a0_2, .int .i64 a0_3, .slice (some ad) l0_4.length c0_4] #[.slice Ac bk.f0.length cc, .int .i64 bk.f1, .int .i64 bk.f2, .int .i64 bk.f3, .int .i64 bk.f4] (.slice (some ⟨gB, 0, none⟩) l0_4.length cB) (.slice (some ⟨gA, 0, none⟩) l0_4.length cA) v88 (B1.set i X) A1 X w88 from ⟨T88.out, R88.out, F88.out, HB88.out, HNG.out, HNL.out⟩)
                  clear R88 T88 F88 HB88 HNG HNL
                  generalize wr.heap.size = N5 at M88
                  go_cut [] (fun wc => Zs0 (MidS w g gy N5 #[.slice A0_0 l0_0.length c0_0, .int .i64 a0_1, .int .i64 a0_2, .int .i64 a0_3, .slice (some ad) l0_4.length c0_4] #[.slice Ac bk.f0.length cc, .int .i64 bk.f1, .int .i64 bk.f2, .int .i64 bk.f3, .int .i64 bk.f4] (.slice (some ⟨gB, 0, none⟩) l0_4.length cB) (.slice (some ⟨gA, 0, none⟩) l0_4.length cA) v88 (B1.set i X) A1 (jumpL bk X) wc))
                  case first =>
                    by_cases hj0 : bk.f1 = 0
                    · have c91 : (bk.f1 != 0) = false := bne_eq_false_iff_eq.mpr hj0
                      have HJP := Zs0.mk (show jumpL bk X = X by unfold jumpL; rw [if_pos hj0])
                      clear hj0
                      go_wp2
                      go_meet
                      case rel => rw [HJP.out]; exact M88
                    · have c91 : (bk.f1 != 0) = true := bne_iff_ne.mpr hj0
                      obtain ⟨b0, b1⟩ := HOK.out.2.2.1 hj0
                      have HJP := Zs0.mk (show jumpL bk X = X.set bk.f2.toNat true by unfold jumpL; rw [if_neg hj0])
                      obtain ⟨q, cq, rfl, hq1, hq2, hM⟩ := M88.out.put bk.f2 b0 (by have := HX.out; have := HS.out; omega) true
                      have M89 := Zs0.mk hM
                      have pb := eq_true b0
                      have qb := eq_true (show bk.f2 < (X.length : Int) by have := HX.out; have := HS.out; omega)
                      clear hj0 b0 b1 hM
                      go_wp2
                      go_meet
                      case rel => rw [HJP.out]; exact M89
                  case rest =>
                    obtain ⟨A88, c88, e88⟩ := Kd.R_slice hcut.out.2.1
                    subst e88
                    have M0 := Zs0.mk hcut.out
                    clear hcut M88
                    obtain ⟨y0, y1, y2, y3, y4, z0, z1, z2, z3, z4⟩ := bx5 M0.out.2.2.1.2.1
                    go_wp2
                    go_loopg [13] bk.f0.length (fun gg s13 wr => ∃ x : Int, s13 = .int .i64 x ∧ Zs0 (Inv10 w g gy N5 #[.slice A0_0 l0_0.length c0_0, .int .i64 a0_1, .int .i64 a0_2, .int .i64 a0_3, .slice (some ad) l0_4.length c0_4] #[.slice Ac bk.f0.length cc, .int .i64 bk.f1, .int .i64 bk.f2, .int .i64 bk.f3, .int .i64 bk.f4] bk.f0 (.slice (some ⟨gB, 0, none⟩) l0_4.length cB) (.slice (some ⟨gA, 0, none⟩) l0_4.length cA) (.slice A88 (jumpL bk X).length c88) (B1.set i X) A1 (jumpL bk X) x gg wr))
                    case atStart => exact ⟨_, rfl, ⟨⟨bk.f0.length, (by have := HOK.out.2.1; rw [wrap_ok (by omega) (by omega)]), Nat.le_refl _, Nat.le_refl _, by rw [List.drop_length]; exact M0.out⟩⟩⟩
                    case round =>
                      clear M0 y0 y1 y2 y3 y4 z0 z1 z2 z3 z4
                      obtain ⟨x13, rfl, HI⟩ := hrel
                      by_cases hlt : 0 ≤ x13
                      · have c13b0 : decide (0 ≤ x13) = true := decide_eq_true hlt
                        obtain ⟨m, hm, hm1, hm2, hM⟩ := HI.out
                        obtain ⟨i2, rfl⟩ : ∃ i2, m = i2 + 1 := ⟨m - 1, by omega⟩
                        have hq : x13 < (bk.f0.length : Int) := by omega
                        obtain ⟨y0, y1, y2, y3, y4, z0, z1, z2, z3, z4⟩ := bx5 hM.2.2.1.2.1
                        obtain ⟨adc, eac, hx0, hx1, hx2, hx3, hx4, hx5, hx6⟩ := at_T57 (Kd.cB1 HCC.out hM.2.2.1.2.2) x13 hlt hq
                        subst eac
                        have hil : i2 < bk.f0.length := by omega
                        have hrd : r57 bk.f0 x13 = bk.f0[i2] := by rw [show x13 = (i2 : Int) by omega]; exact rdIIt _ _ hil
                        have hYl : ((codeL (bk.f0.drop (i2 + 1)) (jumpL bk X)).length : Int) = a0_3 := by rw [codeL_len, jumpL_len]; have := HX.out; have := HS.out; omega
                        have hstep : StepOk a0_3 (r57 bk.f0 x13) := by rw [hrd]; exact HOK.out.1 _ (List.getElem_mem _)
                        obtain ⟨k2, hk2⟩ := (back_ev hstep _ hYl).rounds
                        have HK2 := Zs0.mk hk2
                        have HM2 := Zs0.mk (show (i2 : Int) = x13 ∧ i2 < bk.f0.length ∧ i2 + 1 ≤ gk from ⟨by omega, hil, hm2⟩)
                        have HCD := Zs0.mk (show backL (r57 bk.f0 x13) (codeL (bk.f0.drop (i2 + 1)) (jumpL bk X)) = codeL (bk.f0.drop i2) (jumpL bk X) by rw [hrd, List.drop_eq_getElem_cons hil]; rfl)
                        have HM := Zs0.mk hM
                        have p13 := eq_true hlt
                        have q13 := eq_true hq
                        clear HI hlt hq hm hm1 hm2 hM hil hrd hYl hstep hk2
                        go_wp2_with fail
                        go_at_call 47
                        refine (impl_back.calls k2 (fun q => N5 ≤ q) _ _ _ _ _ _ _ _ _ _ w wr HM.out.2.2.1.2.2 HM.out.2.1 HK2.out).mono ?_
                        rintro e w1 ⟨rfl, hR1, hB1, hK1⟩
                        have HMM := Zs0.mk (HM.out.kept hK1 hB1 hR1)
                        clear hR1 hB1 hK1 HM HK2 hx0 hx1 hx2 hx3 hx4 hx5 hx6 y0 y1 y2 y3 y4 z0 z1 z2 z3 z4
                        rw [HCD.out] at HMM
                        go_wp2
                        go_roundg i2
                        case measure => exact HM2.out.2.2
                        case rel => exact ⟨_, rfl, ⟨⟨i2, by have := HM2.out; have := HOK.out.2.1; rw [wrap_ok (by omega) (by omega)]; omega, Nat.le_of_lt HM2.out.2.1, Nat.le_refl _, HMM.out⟩⟩⟩
                      · have c13b0 : decide (0 ≤ x13) = false := decide_eq_false hlt
                        obtain ⟨m, hm, hm1, hm2, hM⟩ := HI.out
                        obtain rfl : m = 0 := by omega
                        rw [List.drop_zero] at hM
                        have HM0 := Zs0.mk (show MidS w g gy N5 _ _ _ _ _ (B1.set i X) A1 (trL bk X) wr from hM)
                        obtain ⟨Aa, ca, ha0, haf, hal, haC⟩ := hM.1.swap.at i HM.out.2.1
                        obtain ⟨Ya, hYa⟩ : ∃ Ya, Ya = row A1 i := ⟨_, rfl⟩
                        rw [← hYa] at ha0 hal haC
                        rw [show i = x6.toNat by have := HM.out.1; omega] at ha0 haf
                        have HEI := Zs0.mk (show i = x6.toNat by have := HM.out.1; omega)
                        have HAC := Zs0.mk haC
                        have HAL := Zs0.mk hal
                        have HRL := Zs0.mk (show Ya.length = a0_3.toNat by rw [hYa]; exact SA.out.2 i HM.out.2.1)
                        have HYA := Zs0.mk hYa
                        have HTL := Zs0.mk (show (trL bk X).length = a0_3.toNat by rw [trL_len]; exact HX.out)
                        have e88 : (jumpL bk X).length = (trL bk X).length := by rw [jumpL_len, trL_len]
                        rw [e88] at HM0 ⊢
                        have HVC := Zs0.mk (Kd.R_reads' HM0.out.2.1)
                        clear HI hm hm1 hm2 hM hlt haC hal e88 hYa
                        cases b with
                        | true =>
                          go_wp2
                          go_roundg i
                          case measure => exact HM.out.2.2
                          case rel => exact inv4_t HM.out HN.out.2 HM0.out HB0.out HJ0.out HRD.out SB.out SA.out HX.out
                        | false =>
                          obtain ⟨k3, hk3⟩ := (equalB_ev (trL bk X) Ya (HTL.out.trans HRL.out.symm) (by rw [HTL.out]; exact HS3.out)).rounds
                          have HK3 := Zs0.mk hk3
                          clear hk3
                          go_wp2_with fail
                          go_at_call 63
                          refine (slices_Equal_bool_bool.calls k3 _ _ _ _ _ _ _ _ HVC.out.2.2 HVC.out.2.1 HAC.out HAL.out HK3.out).mono ?_
                          rintro e w1 ⟨rfl, hd⟩
                          have HD := Zs0.mk (show MidS w g gy N5 _ _ _ _ _ (B1.set i X) A1 (trL bk X) w1 from HM0.out.drew hd.below)
                          clear ha0 haf hd
                          obtain ⟨Ab, cb, hb0, hbf, _, _⟩ := HD.out.1.swap.at i HM.out.2.1
                          rw [HEI.out] at hb0 hbf
                          go_wp2
                          go_roundg i
                          case measure => exact HM.out.2.2
                          case rel =>
                            rw [HYA.out]
                            exact inv4_f HM.out HN.out.2 HD.out HB0.out HJ0.out HRD.out SB.out SA.out HX.out
            · have c6b0 : decide (0 ≤ x6) = false := decide_eq_false hlt
              obtain ⟨m, B1, A1, hm, hm1, hm2, hT, hbx, hbe, hSB, hSA, hrd⟩ := HI.out
              obtain rfl : m = 0 := by omega
              have T0 := Zs0.mk hT
              have BX := Zs0.mk hbx
              have HB := Zs0.mk hbe
              have SB := Zs0.mk hSB
              have SA := Zs0.mk hSA
              have HRD := Zs0.mk (show (B1, A1, b) = R from hrd)
              clear HI hT hbx hbe hSB hSA hm hm1 hm2 hrd hlt
              go_wp2
              go_roundg kk
              case measure => have := HK.out; omega
              case rel =>
                refine ⟨b, rfl, ⟨⟨B1, A1, T0.out, BX.out, HB.out, SB.out, SA.out, ?_⟩⟩⟩
                have h1 := HLV.out
                rw [liveI] at h1
                rw [← HR.out, ← HRD.out] at h1
                cases b with
                | true => exact .inl ⟨rfl, kk, Nat.le_refl _, h1⟩
                | false => exact .inr ⟨rfl, Option.some.inj h1⟩
theorem impl_liveOf.calls (k : Nat) (A0_0 : Option Addr) (c0_0 : Nat) (l0_0 : List Int) (a0_1 : Int) (a0_2 : Int) (a0_3 : Int) (A0_4 : Option Addr) (c0_4 : Nat) (l0_4 : List S47) (r : List (List Bool)) (w : World) (hr0_0 : Kd.C (Kd.int .i64) w A0_0 l0_0.length l0_0) (hc0_0 : l0_0.length ≤ c0_0) (hr0_4 : Kd.C k47 w A0_4 l0_4.length l0_4) (hc0_4 : l0_4.length ≤ c0_4) (h : impl_liveOf.f k l0_0 a0_1 a0_2 a0_3 l0_4 = some r) :
    Calls Try.prog 42 #[.agg #[.slice A0_0 l0_0.length c0_0, .int .i64 a0_1, .int .i64 a0_2, .int .i64 a0_3, .slice A0_4 l0_4.length c0_4]] w fun e w' => ∃ v0_ : Value, e = .returned (v0_) ∧ Kd.S (Kd.slice 4 Kd.bool) 54 w' w.heap.size (fun _ => True) v0_ r ∧ Below w.heap.size w w' := by
  unfold impl_liveOf.f at h
  split at h
  · rename_i hG
    obtain ⟨hs, hn, hb⟩ := okG_blk hG
    exact live_walk k A0_0 c0_0 l0_0 a0_1 a0_2 a0_3 A0_4 c0_4 l0_4 r w hr0_4 hc0_4 hs hn hb _ rfl h
  · cases h
end Go.Proofs.Ytcbpbnkoolpibaa.P
