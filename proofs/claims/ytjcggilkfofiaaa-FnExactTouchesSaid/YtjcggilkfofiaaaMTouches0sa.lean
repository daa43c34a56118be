/- Functions of the program and of the reference as plain functions, and that the Go code comes to their answers; several texts in one. No conditions beyond what each theorem says. -/
import Derived.Test.YtjcggilkfofiaaaMTouches0xa
import Derived.Test.YtjcggilkfofiaaaMTouches0ta
namespace Go.Proofs.Ytjcggilkfofiaaa.P
open Go.RowKit Go.Proofs.Ytjcggilkfofiaaa.Ex Go.Proofs.YtjcggilkfofiaaaW.PrintWords Go.Proofs.YtjcggilkfofiaaaW.PrintLast Go.Proofs.YtjcggilkfofiaaaW.PrintMore Go.Proofs.Ytjcggilkfofiaaa.Aux
set_option linter.unusedVariables false
set_option linter.unusedSimpArgs false
/-- The row that is collected: the variable's own block (b), and the row it leads to. -/
def OutI (w0 : World) (b : Nat) (s : List Int) (W : World) : Prop := Below w0.heap.size w0 W ∧ w0.heap.size ≤ b ∧ ∃ g cap, W.heap[b]? = some (.cells #[.slice (some ⟨g, 0, none⟩) s.length cap] 32 (0, 0)) ∧ w0.heap.size ≤ g ∧ OwnI W g cap s
theorem OwnI.below {w w' : World} {g cap : Nat} {zs : List Int} (h : OwnI w g cap zs) (hb : Below w.heap.size w w') : OwnI w' g cap zs := by
  obtain ⟨cur, h1, h2⟩ := h
  exact ⟨cur, blk_below h1 hb, h2⟩
theorem OutI.mono {w0 : World} {b : Nat} {s : List Int} {W W' : World} (h : OutI w0 b s W) (hb : Below W.heap.size W W') : OutI w0 b s W' := by
  obtain ⟨h1, h2, g, cap, h3, h4, h5⟩ := h
  exact ⟨blT h1 hb, h2, g, cap, blk_below h3 hb, h4, h5.below hb⟩
theorem KeepT.set {w : World} {b : Nat} {cs : Array Value} {t : TypeId} (hb : w.heap[b]? = some (.cells cs t (0, 0))) (ht : t = 3 ∨ t = 32) (j : Nat) (u : Value) : KeepT w (w.setCell ⟨b, j, none⟩ u) :=
  ⟨by simp [World.setCell], fun k cs' t' hk h3 h32 => by
    have hne : k ≠ b := by
      rintro rfl
      rw [hk] at hb
      injection hb with hb
      injection hb with _ hb
      rcases ht with rfl | rfl
      · exact h3 hb
      · exact h32 hb
    exact (Below.heap_setCell w ⟨b, j, none⟩ u k hne).trans hk⟩
theorem KeepT.grown {w w1 : World} {g : Nat} {cur : Array Value} (hg : w.heap[g]? = some (.cells cur 3 (0, 0))) (h : w.grownBy w1 (some g)) : KeepT w w1 :=
  ⟨h.size, fun k cs t hk h3 h32 => by
    have hne : some k ≠ some g := by
      intro e
      obtain rfl := Option.some.inj e
      rw [hk] at hg
      injection hg with hg
      injection hg with _ hg
      exact h3 hg
    exact (h.block k (blk_lt hk) hne).trans hk⟩
/-- Behind an append to the row, and the store of the row into the variable. -/
theorem OutI.app {w0 W w1 : World} {b : Nat} {s : List Int} {x : Int} {g cap : Nat} {v1 : Value} (h1 : Below w0.heap.size w0 W) (h2 : w0.heap.size ≤ b) (hb : W.heap[b]? = some (.cells #[.slice (some ⟨g, 0, none⟩) s.length cap] 32 (0, 0))) (hg : w0.heap.size ≤ g) (ho : OwnI W g cap s)
    (hR : Kd.R (Kd.int .i64) 3 w1 w0.heap.size (fun _ => True) v1 (s ++ [x])) (hB : Below w0.heap.size w0 w1) (hgr : W.grownBy w1 (some g)) : ∃ g1 cap1, v1 = .slice (some ⟨g1, 0, none⟩) (s.length + 1) cap1 ∧ OutI w0 b (s ++ [x]) (w1.setCell ⟨b, 0, none⟩ v1) ∧ KeepT W (w1.setCell ⟨b, 0, none⟩ v1) ∧ w1.frozen? ⟨b, 0, none⟩ = false ∧ w1.cell? ⟨b, 0, none⟩ = some (.slice (some ⟨g, 0, none⟩) s.length cap) := by
  obtain ⟨cur, hcur, hrest⟩ := ho
  have hne : b ≠ g := by
    rintro rfl
    rw [hb] at hcur
    injection hcur with hcur
    injection hcur with _ hcur
    exact absurd hcur (by decide)
  have hb1 : w1.heap[b]? = some (.cells #[.slice (some ⟨g, 0, none⟩) s.length cap] 32 (0, 0)) := (hgr.block b (blk_lt hb) (fun e => hne (Option.some.inj e))).trans hb
  obtain ⟨h0, inner, hown, hr⟩ := hR
  have hform : ∃ g1 cap1, v1 = .slice (some ⟨g1, 0, none⟩) (s ++ [x]).length cap1 := by
    rcases hown.2 with ⟨_, hz⟩ | ⟨g1, cap1, _, rfl, _⟩
    · rw [List.length_append, List.length_singleton] at hz
      omega
    · exact ⟨g1, cap1, rfl⟩
  obtain ⟨g1, cap1, rfl⟩ := hform
  have hoi := (OwnI.of_R ⟨h0, inner, hown, hr⟩).2
  have hgb : w0.heap.size ≤ g1 := own_base hown g1 (by simp [Value.ownBlock])
  obtain ⟨cur1, hc1, hc2⟩ := hoi
  have hne1 : g1 ≠ b := by
    rintro rfl
    rw [hb1] at hc1
    injection hc1 with hc1
    injection hc1 with _ hc1
    exact absurd hc1 (by decide)
  refine ⟨g1, cap1, by rw [List.length_append, List.length_singleton], ⟨blS hB h2, h2, g1, cap1, ?_, hgb, cur1, (Below.heap_setCell w1 ⟨b, 0, none⟩ _ g1 hne1).trans hc1, hc2⟩, (KeepT.grown hcur hgr).trans (KeepT.set hb1 (.inr rfl) _ _), blk_frozen hb1 0, by rw [blk_cell hb1]; rfl⟩
  have h5 := blk_set hb1 0 (.slice (some ⟨g1, 0, none⟩) (s ++ [x]).length cap1)
  simpa using h5
def stepV (x : S29) (s : List Int) : List Int := if x.f0 = 1 then s ++ [x.f1] else if x.f0 = 2 ∧ 0 ≤ x.f2 then s ++ [x.f2] else s
theorem enterV (args : Array Value) (w : World) : (callFunc 55 args).run Try.prog w = .ok (.enter 55 args) w := enters_of Try.func55 (by kernel_rfl) rfl _ _
set_option maxRecDepth 100000 in
set_option maxHeartbeats 4000000 in
theorem vars1_calls (w0 : World) (b : Nat) (x : S29) (s : List Int) (W : World) (A : Option Addr) (c : Nat) (hI : OutI w0 b s W) (hM : s.length + 1 ≤ 1099511627776) :
    Calls Try.prog 55 (#[.agg #[.int .i64 x.f0, .int .i64 x.f1, .int .i64 x.f2, .string x.f3, .slice A x.f4.length c]] ++ #[.pointer (some ⟨b, 0, none⟩)]) W fun e w' => e = .returned (.tuple #[]) ∧ OutI w0 b (stepV x s) w' ∧ KeepT W w' := by
  have hu29 := Try.underlying29
  obtain ⟨h1, h2, g, cap, hb, hg, ho⟩ := hI
  have hc0 : W.cell? ⟨b, 0, none⟩ = some (.slice (some ⟨g, 0, none⟩) s.length cap) := by rw [blk_cell hb]; rfl
  have hlt := blk_lt hb
  have hne : b ≠ W.heap.size := by omega
  have hwb := blA h1
  have HO := Zs0.mk (show ∀ o : Obj, OwnI (W.alloc o) g cap s from fun o => ho.below (blA (Below.refl _ _) o))
  have HBL := Zs0.mk (show ∀ o : Obj, Below w0.heap.size w0 (W.alloc o) from fun o => h1.alloc h1.size o)
  have HBB := Zs0.mk (show ∀ o : Obj, (W.alloc o).heap[b]? = some (.cells #[.slice (some ⟨g, 0, none⟩) s.length cap] 32 (0, 0)) from fun o => bkA hb o)
  have HI := Zs0.mk (show OutI w0 b s W from ⟨h1, h2, g, cap, hb, hg, ho⟩)
  have HM := Zs0.mk hM
  have H2 := Zs0.mk h2
  have HG := Zs0.mk hg
  clear h1 h2 hb hg ho hM hwb
  by_cases e1 : x.f0 = 1
  · have hst : stepV x s = s ++ [x.f1] := by unfold stepV; rw [if_pos e1]
    rw [hst]
    clear hst
    rw [e1]
    clear e1
    go_enter Try.func55, Try.ntmps55
    go_wp2_with (at_builtin; refine Kd.R_append (Kd.int .i64) (w0 := w0) w0.heap.size rfl (.tmp 6) (.tmp 9) 32 3 (.int .i64 0) 8 rfl Try.underlying32 info3 rfl (by decide) (by omega) (.slice (some ⟨g, 0, none⟩) s.length cap) s x.f1 [.int .i64 x.f1] (fun _ => True) (fun _ => False) rfl (by first | rfl | (go_simp; done) | (simp; done)) rfl (fun _ hk => hk.elim) (fun _ _ => trivial) ((HO.out _).to_R HG.out trivial) (HBL.out _) (HBL.out _).size (by have := HM.out; omega) ?_; intro v1 w1 hR hB hgr _; obtain ⟨g1, cap1, rfl, hA, hK, hF, hC⟩ := OutI.app (HBL.out _) H2.out (HBB.out _) HG.out (HO.out _) hR hB hgr; have HA := Zs0.mk hA; have HK := Zs0.mk hK; clear hR hB hgr hA hK)
    go_end0
    exact ⟨rfl, HA.out, (KeepT.of_below (blA (Below.refl _ _) _)).trans HK.out⟩
  · by_cases e2 : x.f0 = 2
    · by_cases e3 : 0 ≤ x.f2
      · have hst : stepV x s = s ++ [x.f2] := by unfold stepV; rw [if_neg e1, if_pos ⟨e2, e3⟩]
        rw [hst]
        clear hst
        rw [e2]
        clear e1 e2
        have q3 : decide (0 ≤ x.f2) = true := decide_eq_true e3
        go_enter Try.func55, Try.ntmps55
        go_wp2_with (at_builtin; refine Kd.R_append (Kd.int .i64) (w0 := w0) w0.heap.size rfl (.tmp 19) (.tmp 22) 32 3 (.int .i64 0) 8 rfl Try.underlying32 info3 rfl (by decide) (by omega) (.slice (some ⟨g, 0, none⟩) s.length cap) s x.f2 [.int .i64 x.f2] (fun _ => True) (fun _ => False) rfl (by first | rfl | (go_simp; done) | (simp; done)) rfl (fun _ hk => hk.elim) (fun _ _ => trivial) ((HO.out _).to_R HG.out trivial) (HBL.out _) (HBL.out _).size (by have := HM.out; omega) ?_; intro v1 w1 hR hB hgr _; obtain ⟨g1, cap1, rfl, hA, hK, hF, hC⟩ := OutI.app (HBL.out _) H2.out (HBB.out _) HG.out (HO.out _) hR hB hgr; have HA := Zs0.mk hA; have HK := Zs0.mk hK; clear hR hB hgr hA hK)
        go_end0
        exact ⟨rfl, HA.out, (KeepT.of_below (blA (Below.refl _ _) _)).trans HK.out⟩
      · have hst : stepV x s = s := by unfold stepV; rw [if_neg e1, if_neg (fun h => e3 h.2)]
        rw [hst]
        clear hst
        rw [e2]
        clear e1 e2
        have q3 : decide (0 ≤ x.f2) = false := decide_eq_false e3
        have q4 : x.f2 < 0 := by omega
        go_enter Try.func55, Try.ntmps55
        go_wp2
        go_end0
        exact ⟨rfl, HI.out.mono (blA (Below.refl _ _) _), KeepT.of_below (blA (Below.refl _ _) _)⟩
    · have hst : stepV x s = s := by unfold stepV; rw [if_neg e1, if_neg (fun h => e2 h.1)]
      rw [hst]
      clear hst
      have q1 : (x.f0 == 1) = false := beq_eq_false_iff_ne.2 e1
      have q2 : (x.f0 == 2) = false := beq_eq_false_iff_ne.2 e2
      clear e1 e2
      go_enter Try.func55, Try.ntmps55
      go_wp2
      go_end0
      exact ⟨rfl, HI.out.mono (blA (Below.refl _ _) _), KeepT.of_below (blA (Below.refl _ _) _)⟩
theorem stepV_room (x : S29) (s : List Int) : (stepV x s).length ≤ s.length + 1 := by
  unfold stepV
  split
  · simp
  · split
    · simp
    · omega
theorem cloV (w0 : World) (b : Nat) : CloE 55 #[.pointer (some ⟨b, 0, none⟩)] (OutI w0 b) stepV List.length 1099511627776 w0 where
  enter := enterV
  below := fun s W h => h.1
  mono := fun s W W' h hb => h.mono hb
  room := stepV_room
  call := fun x s W A c hI hM => vars1_calls w0 b x s W A c hI hM
theorem outStart (w : World) (o : Obj) : OutI w (w.heap.size + 1 + 1) [] (((w.alloc o).alloc (.cells #[] 3)).alloc (.cells #[.slice (some ⟨w.heap.size + 1, 0, none⟩) 0 0] 32)) := by
  have h1 : ((w.alloc o).alloc (.cells #[] 3)).heap[w.heap.size + 1]? = some (.cells #[] 3) := by
    have h := heap_alloc_new (w.alloc o) (.cells #[] 3)
    simpa using h
  have h2 : (((w.alloc o).alloc (.cells #[] 3)).alloc (.cells #[.slice (some ⟨w.heap.size + 1, 0, none⟩) 0 0] 32)).heap[w.heap.size + 1 + 1]? = some (.cells #[.slice (some ⟨w.heap.size + 1, 0, none⟩) 0 0] 32) := by
    have h := heap_alloc_new ((w.alloc o).alloc (.cells #[] 3)) (.cells #[.slice (some ⟨w.heap.size + 1, 0, none⟩) 0 0] 32)
    simpa using h
  exact ⟨blA (blA (blA (Below.refl _ _) _) _) _, by omega, w.heap.size + 1, 0, h2, by omega, #[], bkA h1 _, rfl, Nat.le_refl _, Nat.zero_le _, rfl⟩
def impl_VarsOf.f (a b c : Int) (s : ByteArray) (l : List S29) : Option (List Int) := if nEs l < 1099511627775 then some (ascL (fol stepV [] (preE ⟨a, b, c, s, l⟩))) else none
set_option maxRecDepth 100000 in
set_option maxHeartbeats 4000000 in
theorem impl_VarsOf.calls (a0_0 a0_1 a0_2 : Int) (a0_3 : ByteArray) (A0_4 : Option Addr) (c0_4 : Nat) (l0_4 : List S29) (r : List Int) (w : World) (hr0_4 : Kd.C k29 w A0_4 l0_4.length l0_4) (hc0_4 : l0_4.length ≤ c0_4) (h : impl_VarsOf.f a0_0 a0_1 a0_2 a0_3 l0_4 = some r) :
    Calls Try.prog 22 #[.agg #[.int .i64 a0_0, .int .i64 a0_1, .int .i64 a0_2, .string a0_3, .slice A0_4 l0_4.length c0_4]] w fun e w' => ∃ v0_ : Value, e = .returned v0_ ∧ Kd.R (Kd.int .i64) 3 w' w.heap.size (fun _ => True) v0_ r ∧ Below w.heap.size w w' := by
  have hu29 := Try.underlying29
  unfold impl_VarsOf.f at h
  by_cases hn : nEs l0_4 < 1099511627775
  · rw [if_pos hn] at h
    obtain rfl := Option.some.inj h
    have hlen : (fol stepV [] (preE ⟨a0_0, a0_1, a0_2, a0_3, l0_4⟩)).length ≤ 1099511627775 := by
      have h1 := fol_room (sz := List.length) stepV_room (preE ⟨a0_0, a0_1, a0_2, a0_3, l0_4⟩) []
      rw [preE_len, nE_eq] at h1
      dsimp only at h1
      simp only [List.length_nil] at h1
      omega
    have hcall := Zs0.mk (fun (o : Obj) => eachE (cloV w (w.heap.size + 1 + 1)) _ ⟨a0_0, a0_1, a0_2, a0_3, l0_4⟩ [] _ A0_4 c0_4 (Nat.lt_succ_self _) (outStart w o) (by rw [nE_eq]; dsimp only; simp only [List.length_nil]; omega) hc0_4 hr0_4)
    have HLN := Zs0.mk hlen
    clear hlen h hr0_4 hn
    go_enter Try.func22, Try.ntmps22
    go_wp2_with fail
    go_at_call 45
    refine (hcall.out _).mono ?_
    rintro e w1 ⟨rfl, ⟨hb1, hb2, g, cap, hb, hg, ho⟩, hk1⟩
    have hc1 : w1.cell? ⟨w.heap.size + 1 + 1, 0, none⟩ = some (.slice (some ⟨g, 0, none⟩) (fol stepV [] (preE ⟨a0_0, a0_1, a0_2, a0_3, l0_4⟩)).length cap) := by rw [blk_cell hb]; rfl
    have HA := Zs0.mk (asc_calls w1 g cap _ ho (by have := HLN.out; omega))
    have HB := Zs0.mk hb1
    have HG := Zs0.mk hg
    clear hb1 hb2 hb hg ho hk1 hcall
    generalize hz : fol stepV [] (preE ⟨a0_0, a0_1, a0_2, a0_3, l0_4⟩) = zs at *
    have HZ := Zs0.mk hz
    clear hz
    go_wp2_with fail
    go_at_call 56
    refine HA.out.mono ?_
    rintro e w2 ⟨rfl, ho2, hg2⟩
    have HR := Zs0.mk (ho2.to_R (base := w.heap.size) (ok := fun _ => True) HG.out trivial)
    have HB2 := Zs0.mk (HB.out.grown hg2 HB.out.size (fun k hk => by obtain rfl := Option.some.inj hk; exact HG.out))
    clear ho2 hg2
    go_wp2
    go_ret
    exact ⟨_, rfl, by rw [HZ.out]; exact HR.out, HB2.out⟩
  · rw [if_neg hn] at h
    cases h
end Go.Proofs.Ytjcggilkfofiaaa.P
namespace Go.Proofs.Ytjcggilkfofiaaa.P
open Go.RowKit Go.Proofs.Ytjcggilkfofiaaa.Ex Go.Proofs.YtjcggilkfofiaaaW.PrintWords Go.Proofs.YtjcggilkfofiaaaW.PrintLast Go.Proofs.YtjcggilkfofiaaaW.PrintMore Go.Proofs.Ytjcggilkfofiaaa.Aux
set_option linter.unusedVariables false
set_option linter.unusedSimpArgs false
def stepT (x : S62) (s : List Int) : List Int := if x.f0 = 0 then s ++ [x.f1] else s
theorem enter_sets1 (args : Array Value) (w : World) : (callFunc 58 args).run Try.prog w = .ok (.enter 58 args) w := enters_of Try.func58 (by kernel_rfl) rfl _ _
theorem stepT_room (x : S62) (s : List Int) : (stepT x s).length ≤ s.length + 1 := by
  unfold stepT
  split
  · simp
  · omega
set_option maxRecDepth 100000 in
set_option maxHeartbeats 4000000 in
theorem sets1_calls (w0 : World) (b : Nat) (x : S62) (s : List Int) (W : World) (A3 : Option Addr) (c3 : Nat) (A4 : Option Addr) (c4 : Nat) (A5 : Option Addr) (c5 : Nat) (hI : OutI w0 b s W) (hM : s.length + 1 ≤ 1099511627776) :
    Calls Try.prog 58 (#[.agg #[.int .i64 x.f0, .int .i64 x.f1, .int .i64 x.f2, .slice A3 x.f3.length c3, .slice A4 x.f4.length c4, .slice A5 x.f5.length c5]] ++ #[.pointer (some ⟨b, 0, none⟩)]) W fun e w' => e = .returned (.tuple #[]) ∧ OutI w0 b (stepT x s) w' ∧ KeepT W w' := by
  have hu := Try.underlying62
  obtain ⟨h1, h2, g, cap, hb, hg, ho⟩ := hI
  have hc0 : W.cell? ⟨b, 0, none⟩ = some (.slice (some ⟨g, 0, none⟩) s.length cap) := by rw [blk_cell hb]; rfl
  have hlt := blk_lt hb
  have hne : b ≠ W.heap.size := by omega
  have HO := Zs0.mk (show ∀ o : Obj, OwnI (W.alloc o) g cap s from fun o => ho.below (blA (Below.refl _ _) o))
  have HBL := Zs0.mk (show ∀ o : Obj, Below w0.heap.size w0 (W.alloc o) from fun o => h1.alloc h1.size o)
  have HBB := Zs0.mk (show ∀ o : Obj, (W.alloc o).heap[b]? = some (.cells #[.slice (some ⟨g, 0, none⟩) s.length cap] 32 (0, 0)) from fun o => bkA hb o)
  have HI := Zs0.mk (show OutI w0 b s W from ⟨h1, h2, g, cap, hb, hg, ho⟩)
  have HM := Zs0.mk hM
  have H2 := Zs0.mk h2
  have HG := Zs0.mk hg
  clear h1 h2 hb hg ho hM
  by_cases e1 : x.f0 = 0
  · have hst : stepT x s = s ++ [x.f1] := by unfold stepT; rw [if_pos e1]
    rw [hst]
    clear hst
    rw [e1]
    clear e1
    go_enter Try.func58, Try.ntmps58
    go_wp2_with (at_builtin; refine Kd.R_append (Kd.int .i64) (w0 := w0) w0.heap.size rfl (.tmp 6) (.tmp 9) 32 3 (.int .i64 0) 8 rfl Try.underlying32 info3 rfl (by decide) (by omega) (.slice (some ⟨g, 0, none⟩) s.length cap) s x.f1 [.int .i64 x.f1] (fun _ => True) (fun _ => False) rfl (by first | rfl | (go_simp; done) | (simp; done)) rfl (fun _ hk => hk.elim) (fun _ _ => trivial) ((HO.out _).to_R HG.out trivial) (HBL.out _) (HBL.out _).size (by have := HM.out; omega) ?_; intro v1 w1 hR hB hgr _; obtain ⟨g1, cap1, rfl, hA, hK, hF, hC⟩ := OutI.app (HBL.out _) H2.out (HBB.out _) HG.out (HO.out _) hR hB hgr; have HA := Zs0.mk hA; have HK := Zs0.mk hK; clear hR hB hgr hA hK)
    go_end0
    exact ⟨rfl, HA.out, (KeepT.of_below (blA (Below.refl _ _) _)).trans HK.out⟩
  · have hst : stepT x s = s := by unfold stepT; rw [if_neg e1]
    rw [hst]
    clear hst
    have q1 : (x.f0 == 0) = false := beq_eq_false_iff_ne.2 e1
    clear e1
    go_enter Try.func58, Try.ntmps58
    go_wp2
    go_end0
    exact ⟨rfl, HI.out.mono (blA (Below.refl _ _) _), KeepT.of_below (blA (Below.refl _ _) _)⟩
theorem stepT_roomS (x : S62) (s : List Int) : (stepT x s).length ≤ s.length + wS x := by
  have := stepT_room x s
  have h : wS x = 1 + nEs x.f3 := rfl
  omega
theorem cloT (w0 : World) (b : Nat) : CloS 58 #[.pointer (some ⟨b, 0, none⟩)] (OutI w0 b) stepT List.length 1099511627776 w0 where
  enter := enter_sets1
  below := fun s W h => h.1
  mono := fun s W W' h hb => h.mono hb
  room := stepT_roomS
  call := fun x s W A3 c3 A4 c4 A5 c5 hI hM _ _ => sets1_calls w0 b x s W A3 c3 A4 c4 A5 c5 hI (by have h : wS x = 1 + nEs x.f3 := rfl; omega)
def impl_Sets.f (zs : List Int) (p v : Int) (l : List S62) : Option (List Int) := if nSs l < 1099511627775 then some (ascL (fol stepT [] (preSs l))) else none
set_option maxRecDepth 100000 in
set_option maxHeartbeats 4000000 in
theorem impl_Sets.calls (A0_0 : Option Addr) (c0_0 : Nat) (l0_0 : List Int) (a0_1 a0_2 : Int) (A0_3 : Option Addr) (c0_3 : Nat) (l0_3 : List S62) (r : List Int) (w : World) (hr0_0 : Kd.C (Kd.int .i64) w A0_0 l0_0.length l0_0) (hc0_0 : l0_0.length ≤ c0_0) (hr0_3 : Kd.C k62 w A0_3 l0_3.length l0_3) (hc0_3 : l0_3.length ≤ c0_3) (h : impl_Sets.f l0_0 a0_1 a0_2 l0_3 = some r) :
    Calls Try.prog 28 #[.agg #[.slice A0_0 l0_0.length c0_0, .int .i64 a0_1, .int .i64 a0_2, .slice A0_3 l0_3.length c0_3]] w fun e w' => ∃ v0_ : Value, e = .returned v0_ ∧ Kd.R (Kd.int .i64) 3 w' w.heap.size (fun _ => True) v0_ r ∧ Below w.heap.size w w' := by
  have hu40 := Try.underlying40
  unfold impl_Sets.f at h
  by_cases hn : nSs l0_3 < 1099511627775
  · rw [if_pos hn] at h
    obtain rfl := Option.some.inj h
    have hlen : (fol stepT [] (preSs l0_3)).length ≤ 1099511627775 := by
      have h1 := fol_roomS (sz := List.length) stepT_roomS (preSs l0_3) []
      rw [sumW_preSs] at h1
      simp only [List.length_nil] at h1
      omega
    have hcall := Zs0.mk (fun (o : Obj) => eachS (cloT w (w.heap.size + 1 + 1)) _ l0_3 [] _ A0_3 c0_3 (fun x hx => Nat.lt_succ_of_lt (List.sizeOf_lt_of_mem hx)) (outStart w o) (by simp only [List.length_nil]; omega) hc0_3 hr0_3)
    have HLN := Zs0.mk hlen
    clear hlen h hr0_0 hr0_3 hn
    go_enter Try.func28, Try.ntmps28
    go_wp2_with fail
    go_at_call 43
    refine (hcall.out _).mono ?_
    rintro e w1 ⟨rfl, ⟨hb1, hb2, g, cap, hb, hg, ho⟩, hk1⟩
    have hc1 : w1.cell? ⟨w.heap.size + 1 + 1, 0, none⟩ = some (.slice (some ⟨g, 0, none⟩) (fol stepT [] (preSs l0_3)).length cap) := by rw [blk_cell hb]; rfl
    have HA := Zs0.mk (asc_calls w1 g cap _ ho (by have := HLN.out; omega))
    have HB := Zs0.mk hb1
    have HG := Zs0.mk hg
    clear hb1 hb2 hb hg ho hk1 hcall
    generalize hz : fol stepT [] (preSs l0_3) = zs at *
    have HZ := Zs0.mk hz
    clear hz
    go_wp2_with fail
    go_at_call 56
    refine HA.out.mono ?_
    rintro e w2 ⟨rfl, ho2, hg2⟩
    have HR := Zs0.mk (ho2.to_R (base := w.heap.size) (ok := fun _ => True) HG.out trivial)
    have HB2 := Zs0.mk (HB.out.grown hg2 HB.out.size (fun k hk => by obtain rfl := Option.some.inj hk; exact HG.out))
    clear ho2 hg2
    go_wp2
    go_ret
    exact ⟨_, rfl, by rw [HZ.out]; exact HR.out, HB2.out⟩
  · rw [if_neg hn] at h
    cases h
end Go.Proofs.Ytjcggilkfofiaaa.P
