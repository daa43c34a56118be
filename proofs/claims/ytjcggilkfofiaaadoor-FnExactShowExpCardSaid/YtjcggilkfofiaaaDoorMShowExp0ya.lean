/- slices.ContainsFunc over expressions, whatever the predicate; the closure of impl.isExp. No conditions. -/
import Derived.Test.YtjcggilkfofiaaaDoorMShowExp0c
import Derived.Shelf.Abstract
namespace Go.Proofs.YtjcggilkfofiaaaDoor.P
open Go.RowKit Go.Proofs.YtjcggilkfofiaaaDoor.Ex Go.Proofs.YtjcggilkfofiaaaDoorW.PrintWords Go.Proofs.YtjcggilkfofiaaaDoorW.PrintLast Go.Proofs.YtjcggilkfofiaaaDoorW.PrintMore Go.Proofs.YtjcggilkfofiaaaDoor.Aux
set_option linter.unusedVariables false
set_option linter.unusedSimpArgs false
theorem anyX_hit (p : S38 → Bool) (xs : List S38) (k : Nat) (h : k < xs.length) (hp : p (rd_T38 xs (k : Int)) = true) : xs.any p = true := by
  rw [rd_IE xs k h] at hp
  exact List.any_eq_true.2 ⟨_, List.getElem_mem h, hp⟩
theorem anyX_miss (p : S38 → Bool) (xs : List S38) (hp : ∀ k : Nat, k < xs.length → p (rd_T38 xs (k : Int)) = false) : xs.any p = false := by
  refine List.any_eq_false.2 fun x hx => ?_
  obtain ⟨k, h, rfl⟩ := List.getElem_of_mem hx
  have := hp k h
  rw [rd_IE xs k h] at this
  simp [this]
/-- What is asked of a predicate over expressions. -/
def PredX (g : Nat) (lb : Array Value) (p : S38 → Bool) (l : List S38) (w : World) : Prop := ∀ (W : World) (x : S38) (A : Option Addr) (c : Nat), Below w.heap.size w W → x ∈ l → Kd.C k38 W A x.f4.length x.f4 → x.f4.length ≤ c → Calls Tryd.prog g (#[.agg #[.int .i64 x.f0, .int .i64 x.f1, .int .i64 x.f2, .string x.f3, .slice A x.f4.length c]] ++ lb) W fun e w' => e = .returned (.bool (p x)) ∧ Below W.heap.size W w'
set_option maxRecDepth 100000 in
set_option maxHeartbeats 2000000 in
theorem indexX_calls (g : Nat) (lb : Array Value) (p : S38 → Bool) (eg : ∀ args w, (callFunc g args).run Tryd.prog w = .ok (.enter g args) w) (A : Option Addr) (c : Nat) (l : List S38) (w : World)
    (hr : Kd.C k38 w A l.length l) (hc : l.length ≤ c) (hp : PredX g lb p l w) :
    Calls Tryd.prog 42 #[.slice A l.length c, .func (.func g) #[] lb] w fun e w' => (∃ r : Int, e = .returned (.int .i64 r) ∧ decide (r ≥ 0) = l.any p) ∧ Below w.heap.size w w' := by
  have huIE := Tryd.underlying38
  have hm : l.length ≤ 9223372036854775807 := Kd.C_max hr
  have HP := Zs0.mk hp
  have HR := Zs0.mk hr
  clear hp hr
  have HN := Zs0.mk hm
  clear hm
  go_enter Tryd.func42, Tryd.ntmps42
  go_wp2
  go_loopg [5, 8] l.length (fun gg _ s8 wr => ∃ x : Int, s8 = .int .i64 x ∧ Zs0 (Below w.heap.size w wr) ∧ Zs0 (∃ kk : Nat, (kk : Int) = x ∧ kk ≤ l.length ∧ l.length - kk ≤ gg ∧ ∀ j : Nat, j < kk → p (rd_T38 l (j : Int)) = false))
  case atStart => exact ⟨0, rfl, ⟨Below.refl _ w⟩, ⟨⟨0, rfl, Nat.zero_le _, by omega, fun j hj => absurd hj (Nat.not_lt_zero _)⟩⟩⟩
  case round =>
    obtain ⟨x, rfl, BW, A2⟩ := hrel
    by_cases hlt : x < (l.length : Int)
    · have c4b0 : decide (x < (l.length : Int)) = true := decide_eq_true hlt
      have p101 : 0 ≤ x := by obtain ⟨kk, h1, _⟩ := A2.out; omega
      obtain ⟨ad1, A4, c4, e1, h1_0, h1_1, h1_2, h1_3, h1_4, l1, g1⟩ := at_T38 HR.out x p101 hlt
      cases e1
      replace h1_0 := (BW.out.cell (World.block_lt_of_cell? w _ h1_0)).trans h1_0
      replace h1_1 := (BW.out.cell (World.block_lt_of_cell? w _ h1_1)).trans h1_1
      replace h1_2 := (BW.out.cell (World.block_lt_of_cell? w _ h1_2)).trans h1_2
      replace h1_3 := (BW.out.cell (World.block_lt_of_cell? w _ h1_3)).trans h1_3
      replace h1_4 := (BW.out.cell (World.block_lt_of_cell? w _ h1_4)).trans h1_4
      have hmem : rd_T38 l x ∈ l := by obtain ⟨kk, rfl, h1, _⟩ := A2.out; rw [rd_IE l kk (by omega)]; exact List.getElem_mem _
      have hcall := Zs0.mk (HP.out wr (rd_T38 l x) A4 c4 BW.out hmem (Kd.C_below g1 BW.out) l1)
      clear g1 hmem
      replace p101 := eq_true p101
      replace hlt := eq_true hlt
      cases hq : p (rd_T38 l x) with
      | true =>
        rw [hq] at hcall
        have HQ := Zs0.mk hq
        clear hq
        go_wp2_with (go_at_fn g; refine hcall.out.mono ?_; rintro e w' ⟨rfl, hb'⟩)
        go_ret
        obtain ⟨kk, rfl, h1, h2, h3⟩ := A2.out
        exact ⟨⟨_, rfl, by rw [anyX_hit p l kk (by have := of_eq_true hlt; omega) HQ.out]; exact decide_eq_true (by omega)⟩, blT BW.out hb'⟩
      | false =>
        rw [hq] at hcall
        have HQ := Zs0.mk hq
        clear hq
        go_wp2_with (go_at_fn g; refine hcall.out.mono ?_; rintro e w' ⟨rfl, hb'⟩)
        go_roundg (gk - 1)
        case measure => obtain ⟨kk, h0, h1, h2, h3⟩ := A2.out; have := of_eq_true hlt; omega
        case rel =>
          refine ⟨wrap64 (x + 1), by first | rfl | (simp; done), ⟨blT BW.out hb'⟩, ⟨?_⟩⟩
          obtain ⟨kk, rfl, h1, h2, h3⟩ := A2.out
          have h4 := of_eq_true hlt
          have h5 := HN.out
          refine ⟨kk + 1, by rw [wrap_ok (by omega) (by omega)]; omega, by omega, by omega, fun j hj => ?_⟩
          by_cases e : j = kk
          · subst e; exact HQ.out
          · exact h3 j (by omega)
    · have c4b0 : decide (x < (l.length : Int)) = false := decide_eq_false hlt
      have HL := Zs0.mk hlt
      clear hlt
      go_wp2
      go_ret
      refine ⟨⟨-1, rfl, ?_⟩, BW.out⟩
      obtain ⟨kk, rfl, h1, h2, h3⟩ := A2.out
      have h4 := HL.out
      rw [anyX_miss p l fun k hk => h3 k (by omega)]
      rfl
theorem containsX_calls (g : Nat) (lb : Array Value) (p : S38 → Bool) (eg : ∀ args w, (callFunc g args).run Tryd.prog w = .ok (.enter g args) w) (A : Option Addr) (c : Nat) (l : List S38) (w : World)
    (hr : Kd.C k38 w A l.length l) (hc : l.length ≤ c) (hp : PredX g lb p l w) :
    Calls Tryd.prog 33 #[.slice A l.length c, .func (.func g) #[] lb] w fun e w' => e = .returned (.bool (l.any p)) ∧ Below w.heap.size w w' := by
  have HI := Zs0.mk (indexX_calls g lb p eg A c l w hr hc hp)
  clear hp hr eg
  go_enter Tryd.func33, Tryd.ntmps33
  go_wp2_with (go_at_call 42; refine HI.out.mono ?_; rintro e w' ⟨⟨r, rfl, hr⟩, hb'⟩)
  go_ret
  exact ⟨by rw [← hr]; rfl, hb'⟩
/-- The contract of impl.isExp at expressions less deep than n. -/
def IsX (n : Nat) : Prop := ∀ (A0 : Option Addr) (n0 c0 : Nat) (p v : Int) (A3 : Option Addr) (n3 c3 : Nat) (x : S38) (A : Option Addr) (c : Nat) (d : Int) (w : World), SizeOf.sizeOf x < n → n0 ≤ 9223372036854775807 → 0 ≤ d → d ≤ 31 → Kd.C k38 w A x.f4.length x.f4 → x.f4.length ≤ c →
  Calls Tryd.prog 20 #[.agg #[.slice A0 n0 c0, .int .i64 p, .int .i64 v, .slice A3 n3 c3], .agg #[.int .i64 x.f0, .int .i64 x.f1, .int .i64 x.f2, .string x.f3, .slice A x.f4.length c], .int .i64 d] w fun e w' => e = .returned (.bool (okX (n0 : Int) v d x)) ∧ Below w.heap.size w w'
theorem enter_isx1 (args : Array Value) (w : World) : (callFunc 34 args).run Tryd.prog w = .ok (.enter 34 args) w := enters_of Tryd.func34 (by kernel_rfl) rfl _ _
set_option maxRecDepth 100000 in
set_option maxHeartbeats 2000000 in
theorem isx1_calls (n : Nat) (hX : IsX n) (b3 b5 : Nat) (A0 : Option Addr) (n0 c0 : Nat) (p v : Int) (A3 : Option Addr) (n3 c3 : Nat) (x : S38) (A : Option Addr) (c : Nat) (d : Int) (W : World) (hx : SizeOf.sizeOf x < n) (hn : n0 ≤ 9223372036854775807) (h0 : 0 ≤ d) (h1 : d ≤ 30) (hr : Kd.C k38 W A x.f4.length x.f4) (hc : x.f4.length ≤ c)
    (k0 : W.cell? ⟨b3, 0, none⟩ = some (.slice A0 n0 c0)) (k1 : W.cell? ⟨b3, 1, none⟩ = some (.int .i64 p)) (k2 : W.cell? ⟨b3, 2, none⟩ = some (.int .i64 v)) (k3 : W.cell? ⟨b3, 3, none⟩ = some (.slice A3 n3 c3)) (k4 : W.cell? ⟨b5, 0, none⟩ = some (.int .i64 d)) :
    Calls Tryd.prog 34 (#[.agg #[.int .i64 x.f0, .int .i64 x.f1, .int .i64 x.f2, .string x.f3, .slice A x.f4.length c]] ++ #[.pointer (some ⟨b3, 0, none⟩), .pointer (some ⟨b5, 0, none⟩)]) W fun e w' => e = .returned (.bool (!okX (n0 : Int) v (d + 1) x)) ∧ Below W.heap.size W w' := by
  have huIR := Tryd.underlying34
  have huIE := Tryd.underlying38
  have hb3 : b3 < W.heap.size := World.block_lt_of_cell? W _ k0
  have hb5 : b5 < W.heap.size := World.block_lt_of_cell? W _ k4
  have hne3 : b3 ≠ W.heap.size := by omega
  have hne5 : b5 ≠ W.heap.size := by omega
  have hw : wrap64 (d + 1) = d + 1 := wrap_ok (by omega) (by omega)
  have hcall := Zs0.mk (fun (o : Obj) => hX A0 n0 c0 p v A3 n3 c3 x A c (d + 1) (W.alloc o) hx hn (by omega) (by omega) (Kd.C_alloc hr o) hc)
  clear hX hx hn hr hc h0
  go_enter Tryd.func34, Tryd.ntmps34
  go_wp2_with (go_at_call 20; rw [hw]; refine (hcall.out _).mono ?_; rintro e w' ⟨rfl, hb'⟩)
  go_ret
  exact ⟨rfl, blT (blA (Below.refl _ _) _) hb'⟩
set_option maxRecDepth 100000 in
set_option maxHeartbeats 2000000 in
theorem base_calls (A0 : Option Addr) (n0 c0 : Nat) (p v : Int) (A3 : Option Addr) (n3 c3 : Nat) (m : Int) (w : World) :
    Calls Tryd.prog 31 #[.agg #[.slice A0 n0 c0, .int .i64 p, .int .i64 v, .slice A3 n3 c3], .int .i64 m] w fun e w' => e = .returned (.bool (baseB v m)) ∧ w.alloc (.cells #[.slice A0 n0 c0, .int .i64 p, .int .i64 v, .slice A3 n3 c3] 34) = w' := by
  have huIR := Tryd.underlying34
  unfold baseB
  by_cases h : m = -1
  · have c3b0 : (m == (-1)) = true := beq_iff_eq.mpr h
    clear h
    go_enter Tryd.func31, Tryd.ntmps31
    go_wp2
    go_ret
    exact ⟨by rw [c3b0]; rfl, rfl⟩
  · have c3b0 : (m == (-1)) = false := beq_eq_false_iff_ne.mpr h
    clear h
    by_cases h : 0 ≤ m
    · have c5b0 : decide (0 ≤ m) = true := decide_eq_true h
      clear h
      go_enter Tryd.func31, Tryd.ntmps31
      go_wp2
      go_ret
      exact ⟨by rw [c3b0, c5b0]; rfl, rfl⟩
    · have c5b0 : decide (0 ≤ m) = false := decide_eq_false h
      clear h
      go_enter Tryd.func31, Tryd.ntmps31
      go_wp2
      go_ret
      exact ⟨by rw [c3b0, c5b0]; rfl, rfl⟩
theorem in_b {x a b : Int} {r : Bool} (h : inR x a b = r) (w : World) : Calls Tryd.prog 30 #[.int .i64 x, .int .i64 a, .int .i64 b] w fun e w' => e = .returned (.bool r) ∧ w = w' := h ▸ in_calls2 x a b w
theorem base_b {A0 : Option Addr} {n0 c0 : Nat} {p v : Int} {A3 : Option Addr} {n3 c3 : Nat} {m : Int} {r : Bool} (h : baseB v m = r) (w : World) : Calls Tryd.prog 31 #[.agg #[.slice A0 n0 c0, .int .i64 p, .int .i64 v, .slice A3 n3 c3], .int .i64 m] w fun e w' => e = .returned (.bool r) ∧ w.alloc (.cells #[.slice A0 n0 c0, .int .i64 p, .int .i64 v, .slice A3 n3 c3] 34) = w' := h ▸ base_calls A0 n0 c0 p v A3 n3 c3 m w
theorem sign_b {t : ByteArray} {r : Bool} (h : signB t = r) (w : World) : Calls Tryd.prog 32 #[.string t] w fun e w' => e = .returned (.bool r) ∧ ∃ n, (w.alloc (.cells #[.string ⟨#[61, 61]⟩, .string ⟨#[60]⟩, .string ⟨#[38]⟩, .string ⟨#[43]⟩, .string ⟨#[45]⟩, .string ⟨#[42]⟩] 9)).drewN n = w' := h ▸ sign_calls t w
end Go.Proofs.YtjcggilkfofiaaaDoor.P
