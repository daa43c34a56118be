/- How many statements and expressions a program has: the contract of impl.SizeOf. No conditions. -/
import Derived.Test.YtjcggilkfofiaaaMSizeOf0ya
namespace Go.Proofs.Ytjcggilkfofiaaa.P
open Go.RowKit Go.Proofs.Ytjcggilkfofiaaa.Ex Go.Proofs.YtjcggilkfofiaaaW.PrintWords Go.Proofs.YtjcggilkfofiaaaW.PrintLast Go.Proofs.YtjcggilkfofiaaaW.PrintMore Go.Proofs.Ytjcggilkfofiaaa.Aux
set_option linter.unusedVariables false
set_option linter.unusedSimpArgs false
theorem KeepT.set {w : World} {b : Nat} {cs : Array Value} {t : TypeId} (hb : w.heap[b]? = some (.cells cs t (0, 0))) (ht : t = 3 ∨ t = 32) (j : Nat) (u : Value) : KeepT w (w.setCell ⟨b, j, none⟩ u) :=
  ⟨by simp [World.setCell], fun k cs' t' hk h3 h32 => by
    have hne : k ≠ b := by
      rintro rfl
      rw [hk] at hb
      injection hb with hb
      injection hb with _ hb
      rcases ht with rfl | rfl
      · exact h3 hb
      · exact h32 hb
    exact (Below.heap_setCell w ⟨b, j, none⟩ u k hne).trans hk⟩
/-- The number that is counted, in its own block. -/
def CntI (w0 : World) (b : Nat) (s : Int) (W : World) : Prop := Below w0.heap.size w0 W ∧ w0.heap.size ≤ b ∧ W.heap[b]? = some (.cells #[.int .i64 s] 3 (0, 0))
theorem CntI.mono {w0 : World} {b : Nat} {s : Int} {W W' : World} (h : CntI w0 b s W) (hb : Below W.heap.size W W') : CntI w0 b s W' := ⟨blT h.1 hb, h.2.1, blk_below h.2.2 hb⟩
theorem CntI.set {w0 : World} {b : Nat} {s : Int} {W : World} (h : CntI w0 b s W) (v : Int) : CntI w0 b v (W.setCell ⟨b, 0, none⟩ (.int .i64 v)) := ⟨blS h.1 h.2.1, h.2.1, by have h1 := blk_set h.2.2 0 (.int .i64 v); simpa using h1⟩
theorem enter1 (args : Array Value) (w : World) : (callFunc 46 args).run Try.prog w = .ok (.enter 46 args) w := enters_of Try.func46 (by kernel_rfl) rfl _ _
theorem enter2 (args : Array Value) (w : World) : (callFunc 44 args).run Try.prog w = .ok (.enter 44 args) w := enters_of Try.func44 (by kernel_rfl) rfl _ _
def stepC (x : S29) (s : Int) : Int := wrap64 (s + 1)
set_option maxRecDepth 100000 in
set_option maxHeartbeats 2000000 in
theorem size11_calls (w0 : World) (b : Nat) (x : S29) (s : Int) (W : World) (A : Option Addr) (c : Nat) (hI : CntI w0 b s W) :
    Calls Try.prog 46 (#[.agg #[.int .i64 x.f0, .int .i64 x.f1, .int .i64 x.f2, .string x.f3, .slice A x.f4.length c]] ++ #[.pointer (some ⟨b, 0, none⟩)]) W fun e w' => e = .returned (.tuple #[]) ∧ CntI w0 b (stepC x s) w' ∧ KeepT W w' := by
  have hu29 := Try.underlying29
  have hb := hI.2.2
  have hc0 : W.cell? ⟨b, 0, none⟩ = some (.int .i64 s) := by rw [blk_cell hb]; rfl
  have hf0 : W.frozen? ⟨b, 0, none⟩ = false := blk_frozen hb 0
  have hlt := blk_lt hb
  have hne : b ≠ W.heap.size := by omega
  have HI := Zs0.mk hI
  clear hI hb
  go_enter Try.func46, Try.ntmps46
  go_wp2
  go_end0
  have h1 := HI.out.set (wrap64 (s + 1))
  exact ⟨rfl, h1.mono (blA (Below.refl _ _) _), (KeepT.set HI.out.2.2 (.inl rfl) _ _).trans (KeepT.of_below (blA (Below.refl _ _) _))⟩
theorem cloC (w0 : World) (b M : Nat) : CloE 46 #[.pointer (some ⟨b, 0, none⟩)] (CntI w0 b) stepC (fun _ => 0) M w0 where
  enter := enter1
  below := fun s W h => h.1
  mono := fun s W W' h hb => h.mono hb
  room := fun x s => Nat.zero_le _
  call := fun x s W A c hI _ => size11_calls w0 b x s W A c hI
/-- What the function value does to the number: one more for the statement, and for each expression in it. -/
def stepD (x : S62) (s : Int) : Int := fol stepC (wrap64 (s + 1)) (preEs x.f3)
set_option maxRecDepth 100000 in
set_option maxHeartbeats 4000000 in
theorem size1_calls (w0 : World) (b : Nat) (x : S62) (s : Int) (W : World) (A3 : Option Addr) (c3 : Nat) (A4 : Option Addr) (c4 : Nat) (A5 : Option Addr) (c5 : Nat) (hI : CntI w0 b s W) (hc : x.f3.length ≤ c3) (hr : Kd.C k29 w0 A3 x.f3.length x.f3) :
    Calls Try.prog 44 (#[.agg #[.int .i64 x.f0, .int .i64 x.f1, .int .i64 x.f2, .slice A3 x.f3.length c3, .slice A4 x.f4.length c4, .slice A5 x.f5.length c5]] ++ #[.pointer (some ⟨b, 0, none⟩)]) W fun e w' => e = .returned (.tuple #[]) ∧ CntI w0 b (stepD x s) w' ∧ KeepT W w' := by
  have hu62 := Try.underlying62
  have hb := hI.2.2
  have hc0 : W.cell? ⟨b, 0, none⟩ = some (.int .i64 s) := by rw [blk_cell hb]; rfl
  have hf0 : W.frozen? ⟨b, 0, none⟩ = false := blk_frozen hb 0
  have hlt := blk_lt hb
  have hne : b ≠ W.heap.size := by omega
  have hm : x.f3.length ≤ 9223372036854775807 := Kd.C_max hr
  have HI := Zs0.mk hI
  have HR := Zs0.mk hr
  have HL := Zs0.mk hm
  clear hI hb hr hm
  go_enter Try.func44, Try.ntmps44
  go_wp2
  go_loopg [10] x.f3.length (fun gg s10 wr => ∃ y : Int, s10 = .int .i64 y ∧ Zs0 (∃ kk : Nat, (kk : Int) = y ∧ kk ≤ x.f3.length ∧ x.f3.length - kk ≤ gg ∧ CntI w0 b (fol stepC (wrap64 (s + 1)) (preEs (x.f3.take kk))) wr ∧ KeepT W wr))
  case atStart => exact ⟨0, rfl, ⟨⟨0, rfl, Nat.zero_le _, by omega, by rw [List.take_zero, preEs]; exact (HI.out.set _).mono (blA (Below.refl _ _) _), (KeepT.set HI.out.2.2 (.inl rfl) _ _).trans (KeepT.of_below (blA (Below.refl _ _) _))⟩⟩⟩
  case round =>
    obtain ⟨y, rfl, A2⟩ := hrel
    clear hc0 hf0 hlt hne
    by_cases hlt : y < (x.f3.length : Int)
    · have c4b0 : decide (y < (x.f3.length : Int)) = true := decide_eq_true hlt
      have p101 : 0 ≤ y := by obtain ⟨kk, h1, _⟩ := A2.out; omega
      obtain ⟨kk, hkk, hk1, hk2, hi, hkt⟩ := A2.out
      have hbel := hi.1
      have hkl : kk < x.f3.length := by omega
      obtain ⟨ad1, A1, c1, e1, h1_0, h1_1, h1_2, h1_3, h1_4, l1, g1⟩ := at_T29 (Kd.C_below HR.out hbel) y p101 hlt
      cases e1
      have hg1 : Kd.C k29 w0 A1 (rd_T29 x.f3 y).f4.length (rd_T29 x.f3 y).f4 := by
        obtain ⟨ad2, A2', c2, e2, _, _, _, _, h2_4, _, g2⟩ := at_T29 HR.out y p101 hlt
        cases e2
        exact C_same (ad := ad1) hbel h1_4 h2_4 g2
      have hcall := Zs0.mk (fun (o : Obj) => eachE (cloC w0 b (nE (rd_T29 x.f3 y))) _ (rd_T29 x.f3 y) (fol stepC (wrap64 (s + 1)) (preEs (x.f3.take kk))) (wr.alloc o) A1 c1 (Nat.lt_succ_self _) (hi.mono (blA (Below.refl _ _) o)) (by omega) l1 hg1)
      have HKK := Zs0.mk hkk
      have HKT := Zs0.mk hkt
      have HK2 := Zs0.mk hk2
      have HKL := Zs0.mk hkl
      clear hkk hk1 hk2 hi hkt hbel g1 hg1 hkl
      replace p101 := eq_true p101
      replace hlt := eq_true hlt
      go_wp2_with fail
      go_at_call 45
      (with_reducible refine (hcall.out _).mono ?_)
      rintro e w2 ⟨rfl, hi2, hk2⟩
      have HI2 := Zs0.mk hi2
      have HK2' := Zs0.mk ((KeepT.of_below (blA (Below.refl _ _) _)).trans hk2)
      clear hi2 hk2
      go_wp2
      go_roundg (gk - 1)
      case measure => have h1 := HK2.out; have h2 := HKL.out; omega
      case rel =>
        refine ⟨wrap64 (y + 1), by first | rfl | (simp; done), ⟨?_⟩⟩
        have h1 := HKK.out
        have h2 := HKL.out
        have h3 := HK2.out
        have h4 := HL.out
        refine ⟨kk + 1, by rw [wrap_ok (by omega) (by omega)]; omega, by omega, by omega, ?_, HKT.out.trans HK2'.out⟩
        have h5 := HI2.out
        rw [← h1, rd_IE x.f3 kk h2] at h5
        rw [preEs_snoc x.f3 kk h2, fol_append]
        exact h5
    · have c4b0 : decide (y < (x.f3.length : Int)) = false := decide_eq_false hlt
      have HLT := Zs0.mk hlt
      clear hlt
      go_wp2
      go_end0
      obtain ⟨kk, rfl, h1, h2, h3, h4⟩ := A2.out
      have h5 := HLT.out
      rw [List.take_of_length_le (by omega)] at h3
      exact ⟨rfl, h3, h4⟩
theorem cloD (w0 : World) (b M : Nat) : CloS 44 #[.pointer (some ⟨b, 0, none⟩)] (CntI w0 b) stepD (fun _ => 0) M w0 where
  enter := enter2
  below := fun s W h => h.1
  mono := fun s W W' h hb => h.mono hb
  room := fun x s => Nat.zero_le _
  call := fun x s W A3 c3 A4 c4 A5 c5 hI _ hc hr => size1_calls w0 b x s W A3 c3 A4 c4 A5 c5 hI hc hr
def impl_SizeOf.f (zs : List Int) (p v : Int) (l : List S62) : Option Int := some (fol stepD 0 (preSs l))
set_option maxRecDepth 100000 in
set_option maxHeartbeats 4000000 in
theorem impl_SizeOf.calls (A0_0 : Option Addr) (c0_0 : Nat) (l0_0 : List Int) (a0_1 a0_2 : Int) (A0_3 : Option Addr) (c0_3 : Nat) (l0_3 : List S62) (r : Int) (w : World) (hr0_0 : Kd.C (Kd.int .i64) w A0_0 l0_0.length l0_0) (hc0_0 : l0_0.length ≤ c0_0) (hr0_3 : Kd.C k62 w A0_3 l0_3.length l0_3) (hc0_3 : l0_3.length ≤ c0_3) (h : impl_SizeOf.f l0_0 a0_1 a0_2 l0_3 = some r) :
    Calls Try.prog 17 #[.agg #[.slice A0_0 l0_0.length c0_0, .int .i64 a0_1, .int .i64 a0_2, .slice A0_3 l0_3.length c0_3]] w fun e w' => e = .returned (.int .i64 r) ∧ Below w.heap.size w w' := by
  have hu40 := Try.underlying40
  obtain rfl := Option.some.inj h
  have hI : ∀ o : Obj, CntI w (w.heap.size + 1) 0 ((w.alloc o).alloc (.cells #[.int .i64 0] 3)) := fun o => ⟨blA (blA (Below.refl _ _) _) _, by omega, by have := heap_alloc_new (w.alloc o) (.cells #[.int .i64 0] 3); simpa using this⟩
  have hcall := Zs0.mk (fun (o : Obj) => eachS (cloD w (w.heap.size + 1) (nSs l0_3)) _ l0_3 0 _ A0_3 c0_3 (fun x hx => Nat.lt_succ_of_lt (List.sizeOf_lt_of_mem hx)) (hI o) (by omega) hc0_3 hr0_3)
  clear hr0_0 hr0_3 h hI
  go_enter Try.func17, Try.ntmps17
  go_wp2_with fail
  go_at_call 43
  refine (hcall.out _).mono ?_
  rintro e w1 ⟨rfl, hi1, hk1⟩
  have hc1 : w1.cell? ⟨w.heap.size + 1, 0, none⟩ = some (.int .i64 (fol stepD 0 (preSs l0_3))) := by rw [blk_cell hi1.2.2]; rfl
  have HB := Zs0.mk hi1.1
  clear hi1 hk1
  go_wp2
  go_ret
  exact ⟨rfl, HB.out⟩
end Go.Proofs.Ytjcggilkfofiaaa.P
