/- Functions of the program and of the reference as plain functions, and that the Go code comes to their answers; several texts in one. No conditions beyond what each theorem says. -/
import Derived.Test.YtcbpbnkoolpibaaMClean1va
import Derived.Shelf.Abstract
import Derived.Test.YtcbpbnkoolpibaaMClean0a
set_option maxHeartbeats 2000000
set_option maxRecDepth 100000
set_option linter.unusedVariables false
set_option linter.unusedSimpArgs false
namespace Go.Proofs.Ytcbpbnkoolpibaa.P
open RowKit YtcbpbnkoolpibaaW.wA YtcbpbnkoolpibaaW.wB YtcbpbnkoolpibaaW.wC Aux
theorem any_hit (p : S57 → Bool) (xs : List S57) (k : Nat) (h : k < xs.length) (hp : p (r57 xs (k : Int)) = true) : xs.any p = true := by
  have hr : r57 xs (k : Int) = xs[k] := by simp [r57, List.getD_eq_getElem?_getD, List.getElem?_eq_getElem h]
  rw [hr] at hp
  exact List.any_eq_true.2 ⟨_, List.getElem_mem h, hp⟩
theorem any_miss (p : S57 → Bool) (xs : List S57) (hp : ∀ k : Nat, k < xs.length → p (r57 xs (k : Int)) = false) : xs.any p = false := by
  refine List.any_eq_false.2 fun x hx => ?_
  obtain ⟨k, h, rfl⟩ := List.getElem_of_mem hx
  have := hp k h
  rw [show r57 xs (k : Int) = xs[k] by simp [r57, List.getD_eq_getElem?_getD, List.getElem?_eq_getElem h]] at this
  simp [this]
theorem indexI_calls (g : Nat) (lb : Array Value) (p : S57 → Bool) (eg : ∀ args w, (callFunc g args).run Try.prog w = .ok (.enter g args) w) (A : Option Addr) (c : Nat) (l : List S57) (w : World)
    (hr : Kd.C k57 w A l.length l) (hc : l.length ≤ c)
    (hp : ∀ (W : World) (x : S57), Below w.heap.size w W → Calls Try.prog g (#[.agg #[.int .i64 x.f0, .int .i64 x.f1, .int .i64 x.f2, .int .i64 x.f3, .int .i64 x.f4, .int .i64 x.f5, .string x.f6]] ++ lb) W fun e w' => e = .returned (.bool (p x)) ∧ Below w.heap.size w w') :
    Calls Try.prog 89 #[.slice A l.length c, .func (.func g) #[] lb] w fun e w' => (∃ r : Int, e = .returned (.int .i64 r) ∧ decide (r ≥ 0) = l.any p) ∧ Below w.heap.size w w' := by
  have hu39 := Try.underlying57
  have hm : l.length ≤ 9223372036854775807 := Kd.C_max hr
  have HP := Zs0.mk hp
  have HR := Zs0.mk hr
  clear hp hr
  have HN := Zs0.mk hm
  clear hm
  go_enter Try.func89, Try.ntmps89
  go_wp2
  go_loopg [5, 8] l.length (fun gg _ s8 wr => ∃ x : Int, s8 = .int .i64 x ∧ Zs0 (Below w.heap.size w wr) ∧ Zs0 (∃ kk : Nat, (kk : Int) = x ∧ kk ≤ l.length ∧ l.length - kk ≤ gg ∧ ∀ j : Nat, j < kk → p (r57 l (j : Int)) = false))
  case atStart => exact ⟨0, rfl, ⟨Below.refl _ w⟩, ⟨⟨0, rfl, Nat.zero_le _, by omega, fun j hj => absurd hj (Nat.not_lt_zero _)⟩⟩⟩
  case round =>
    obtain ⟨x, rfl, BW, A2⟩ := hrel
    by_cases hlt : x < (l.length : Int)
    · have c4b0 : decide (x < (l.length : Int)) = true := decide_eq_true hlt
      have p101 : 0 ≤ x := by obtain ⟨kk, h1, _⟩ := A2.out; omega
      obtain ⟨ad101, e101, hx101_0, hx101_1, hx101_2, hx101_3, hx101_4, hx101_5, hx101_6⟩ := at_T57 HR.out x p101 hlt
      cases e101
      replace hx101_0 := (BW.out.cell (World.block_lt_of_cell? w _ hx101_0)).trans hx101_0
      replace hx101_1 := (BW.out.cell (World.block_lt_of_cell? w _ hx101_1)).trans hx101_1
      replace hx101_2 := (BW.out.cell (World.block_lt_of_cell? w _ hx101_2)).trans hx101_2
      replace hx101_3 := (BW.out.cell (World.block_lt_of_cell? w _ hx101_3)).trans hx101_3
      replace hx101_4 := (BW.out.cell (World.block_lt_of_cell? w _ hx101_4)).trans hx101_4
      replace hx101_5 := (BW.out.cell (World.block_lt_of_cell? w _ hx101_5)).trans hx101_5
      replace hx101_6 := (BW.out.cell (World.block_lt_of_cell? w _ hx101_6)).trans hx101_6
      have hcall := Zs0.mk (HP.out wr (r57 l x) BW.out)
      replace p101 := eq_true p101
      replace hlt := eq_true hlt
      cases hq : p (r57 l x) with
      | true =>
        rw [hq] at hcall
        have HQ := Zs0.mk hq
        clear hq
        go_wp2_with (go_at_fn g; refine hcall.out.mono ?_; rintro e w' ⟨rfl, hb'⟩)
        go_ret
        obtain ⟨kk, rfl, h1, h2, h3⟩ := A2.out
        exact ⟨⟨_, rfl, by rw [any_hit p l kk (by have := of_eq_true hlt; omega) HQ.out]; exact decide_eq_true (by omega)⟩, hb'⟩
      | false =>
        rw [hq] at hcall
        have HQ := Zs0.mk hq
        clear hq
        go_wp2_with (go_at_fn g; refine hcall.out.mono ?_; rintro e w' ⟨rfl, hb'⟩)
        go_roundg (gk - 1)
        case measure => obtain ⟨kk, h0, h1, h2, h3⟩ := A2.out; have := of_eq_true hlt; omega
        case rel =>
          refine ⟨wrap64 (x + 1), by first | rfl | (simp; done), ⟨hb'⟩, ⟨?_⟩⟩
          obtain ⟨kk, rfl, h1, h2, h3⟩ := A2.out
          have h4 := of_eq_true hlt
          have h5 := HN.out
          refine ⟨kk + 1, by rw [wrap_ok (by omega) (by omega)]; omega, by omega, by omega, fun j hj => ?_⟩
          by_cases e : j = kk
          · subst e; exact HQ.out
          · exact h3 j (by omega)
    · have c4b0 : decide (x < (l.length : Int)) = false := decide_eq_false hlt
      have HL := Zs0.mk hlt
      clear hlt
      go_wp2
      go_ret
      refine ⟨⟨-1, rfl, ?_⟩, BW.out⟩
      obtain ⟨kk, rfl, h1, h2, h3⟩ := A2.out
      have h4 := HL.out
      rw [any_miss p l fun k hk => h3 k (by omega)]
      rfl
theorem containsI_calls (g : Nat) (lb : Array Value) (p : S57 → Bool) (eg : ∀ args w, (callFunc g args).run Try.prog w = .ok (.enter g args) w) (A : Option Addr) (c : Nat) (l : List S57) (w : World)
    (hr : Kd.C k57 w A l.length l) (hc : l.length ≤ c)
    (hp : ∀ (W : World) (x : S57), Below w.heap.size w W → Calls Try.prog g (#[.agg #[.int .i64 x.f0, .int .i64 x.f1, .int .i64 x.f2, .int .i64 x.f3, .int .i64 x.f4, .int .i64 x.f5, .string x.f6]] ++ lb) W fun e w' => e = .returned (.bool (p x)) ∧ Below w.heap.size w w') :
    Calls Try.prog 74 #[.slice A l.length c, .func (.func g) #[] lb] w fun e w' => e = .returned (.bool (l.any p)) ∧ Below w.heap.size w w' := by
  have HI := Zs0.mk (indexI_calls g lb p eg A c l w hr hc hp)
  clear hp hr eg
  go_enter Try.func74, Try.ntmps74
  go_wp2_with (go_at_call 89; refine HI.out.mono ?_; rintro e w' ⟨⟨r, rfl, hr⟩, hb'⟩)
  go_ret
  exact ⟨rfl, hb'⟩
theorem isBlock1_calls (b : Nat) (A0 : Option Addr) (n0 c0 : Nat) (p v s : Int) (A4 : Option Addr) (n4 c4 : Nat) (x : S57) (W : World) (hn : n0 ≤ 9223372036854775807)
    (h0 : W.cell? ⟨b, 0, none⟩ = some (.slice A0 n0 c0)) (h1 : W.cell? ⟨b, 1, none⟩ = some (.int .i64 p)) (h2 : W.cell? ⟨b, 2, none⟩ = some (.int .i64 v)) (h3 : W.cell? ⟨b, 3, none⟩ = some (.int .i64 s)) (h4 : W.cell? ⟨b, 4, none⟩ = some (.slice A4 n4 c4)) :
    Calls Try.prog 75 #[.agg #[.int .i64 x.f0, .int .i64 x.f1, .int .i64 x.f2, .int .i64 x.f3, .int .i64 x.f4, .int .i64 x.f5, .string x.f6], .pointer (some ⟨b, 0, none⟩)] W fun e w' => e = .returned (.bool (!instrB (n0 : Int) s x.f0 x.f1 x.f2 x.f3 x.f4 x.f5 x.f6)) ∧ Below W.heap.size W w' := by
  have hu30 := Try.underlying29
  have hu39 := Try.underlying57
  have hb : b < W.heap.size := World.block_lt_of_cell? W _ h0
  have hne : b ≠ W.heap.size := by omega
  go_enter Try.func75, Try.ntmps75
  go_wp2_with (go_at_call 76; refine (isInstr_calls A0 n0 c0 p v s A4 n4 c4 _ _ _ _ _ _ _ _ hn).mono ?_; rintro e w' ⟨rfl, hb'⟩)
  go_ret
  exact ⟨rfl, blT (blA (Below.refl _ _) _) hb'⟩
end Go.Proofs.Ytcbpbnkoolpibaa.P
namespace Go.Proofs.Ytcbpbnkoolpibaa.P
open RowKit YtcbpbnkoolpibaaW.wA YtcbpbnkoolpibaaW.wB YtcbpbnkoolpibaaW.wC
def impl_Instr_74.f (zs : List Int) (s : Int) (code : List S57) : Option Bool := some (code.any fun x => !instrB (zs.length : Int) s x.f0 x.f1 x.f2 x.f3 x.f4 x.f5 x.f6)
theorem eg107 (args : Array Value) (w : World) : (callFunc 75 args).run Try.prog w = .ok (.enter 75 args) w := enters_of Try.func75 (by kernel_rfl) rfl _ _
theorem con_calls (b : Nat) (A0 : Option Addr) (n0 c0 : Nat) (p v s : Int) (A4 : Option Addr) (n4 c4 : Nat) (A1 : Option Addr) (c1 : Nat) (code : List S57) (W : World) (hn : n0 ≤ 9223372036854775807) (kB : Bool) (hK : (code.any fun x => !instrB (n0 : Int) s x.f0 x.f1 x.f2 x.f3 x.f4 x.f5 x.f6) = kB)
    (hr : Kd.C k57 W A1 code.length code) (hc : code.length ≤ c1)
    (h0 : W.cell? ⟨b, 0, none⟩ = some (.slice A0 n0 c0)) (h1 : W.cell? ⟨b, 1, none⟩ = some (.int .i64 p)) (h2 : W.cell? ⟨b, 2, none⟩ = some (.int .i64 v)) (h3 : W.cell? ⟨b, 3, none⟩ = some (.int .i64 s)) (h4 : W.cell? ⟨b, 4, none⟩ = some (.slice A4 n4 c4)) :
    Calls Try.prog 74 #[.slice A1 code.length c1, .func (.func 75) #[] #[.pointer (some ⟨b, 0, none⟩)]] W fun e w' => e = .returned (.bool kB) ∧ Below W.heap.size W w' := by
  subst hK
  have hb : b < W.heap.size := World.block_lt_of_cell? W _ h0
  exact containsI_calls _ _ _ eg107 A1 c1 code W hr hc fun W' x hw => (isBlock1_calls b A0 n0 c0 p v s A4 n4 c4 x W' hn ((hw.cell (p := ⟨b, 0, none⟩) hb).trans h0) ((hw.cell (p := ⟨b, 1, none⟩) hb).trans h1) ((hw.cell (p := ⟨b, 2, none⟩) hb).trans h2) ((hw.cell (p := ⟨b, 3, none⟩) hb).trans h3) ((hw.cell (p := ⟨b, 4, none⟩) hb).trans h4)).mono fun e w' h => ⟨h.1, blT hw h.2⟩
theorem impl_Instr_74.calls (b : Nat) (A0 : Option Addr) (c0 : Nat) (l0 : List Int) (p v s : Int) (A4 : Option Addr) (c4 : Nat) (l4 : List S47) (A1 : Option Addr) (c1 : Nat) (code : List S57) (r : Bool) (W : World) (hn : l0.length ≤ 9223372036854775807)
    (hr : Kd.C k57 W A1 code.length code) (hc : code.length ≤ c1)
    (h0 : W.cell? ⟨b, 0, none⟩ = some (.slice A0 l0.length c0)) (h1 : W.cell? ⟨b, 1, none⟩ = some (.int .i64 p)) (h2 : W.cell? ⟨b, 2, none⟩ = some (.int .i64 v)) (h3 : W.cell? ⟨b, 3, none⟩ = some (.int .i64 s)) (h4 : W.cell? ⟨b, 4, none⟩ = some (.slice A4 l4.length c4)) (h : impl_Instr_74.f l0 s code = some r) :
    Calls Try.prog 74 #[.slice A1 code.length c1, .func (.func 75) #[] #[.pointer (some ⟨b, 0, none⟩)]] W fun e w' => e = .returned (.bool r) ∧ Below W.heap.size W w' :=
  con_calls b A0 l0.length c0 p v s A4 l4.length c4 A1 c1 code W hn r (Option.some.inj h) hr hc h0 h1 h2 h3 h4
end Go.Proofs.Ytcbpbnkoolpibaa.P
