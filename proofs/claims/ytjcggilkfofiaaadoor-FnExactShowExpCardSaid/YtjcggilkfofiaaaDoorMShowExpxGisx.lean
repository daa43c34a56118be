/- Whether an expression is one of a program, as_ the program says it: the contract of impl.isExp. Conditions: fewer regions than a machine's numbers. -/
import Derived.Test.YtjcggilkfofiaaaDoorMShowExp0ya
namespace Go.Proofs.YtjcggilkfofiaaaDoor.P
open Go.RowKit Go.Proofs.YtjcggilkfofiaaaDoor.Ex Go.Proofs.YtjcggilkfofiaaaDoorW.PrintWords Go.Proofs.YtjcggilkfofiaaaDoorW.PrintLast Go.Proofs.YtjcggilkfofiaaaDoorW.PrintMore Go.Proofs.YtjcggilkfofiaaaDoor.Aux
set_option linter.unusedVariables false
set_option linter.unusedSimpArgs false
/-- What is asked of the predicate's call: where the variables lie. -/
def BoxX (n0 : Nat) (v : Int) (A : Option Addr) (c : Nat) (d : Int) (l : List S38) (w W3 : World) : Prop := ∀ W : World, Below W3.heap.size W3 W → d ≤ 30 → Calls Tryd.prog 33 #[.slice A l.length c, .func (.func 34) #[] #[.pointer (some ⟨w.heap.size, 0, none⟩), .pointer (some ⟨w.heap.size + 1 + 1, 0, none⟩)]] W fun e w' => e = .returned (.bool (l.any fun x => !okX (n0 : Int) v (d + 1) x)) ∧ Below W.heap.size W w'
theorem boxX (n : Nat) (ih : IsX n) (A0 : Option Addr) (n0 c0 : Nat) (p v : Int) (A3 : Option Addr) (n3 c3 : Nat) (x : S38) (A : Option Addr) (c : Nat) (d : Int) (w : World) (hx : SizeOf.sizeOf x < n + 1) (hn : n0 ≤ 9223372036854775807) (h0 : 0 ≤ d) (hr : Kd.C k38 w A x.f4.length x.f4) (hc : x.f4.length ≤ c) :
    BoxX n0 v A c d x.f4 w (((w.alloc (.cells #[.slice A0 n0 c0, .int .i64 p, .int .i64 v, .slice A3 n3 c3] 34)).alloc (.cells #[.int .i64 x.f0, .int .i64 x.f1, .int .i64 x.f2, .string x.f3, .slice A x.f4.length c] 38)).alloc (.cells #[.int .i64 d] 3)) := by
  intro W hW hd
  refine containsX_calls _ _ _ enter_isx1 A c x.f4 W (Kd.C_below (Kd.C_alloc (Kd.C_alloc (Kd.C_alloc hr _) _) _) hW) hc fun W' y A' c' hW' hy hr' hc' => ?_
  have hs3 : (((w.alloc (.cells #[.slice A0 n0 c0, .int .i64 p, .int .i64 v, .slice A3 n3 c3] 34)).alloc (.cells #[.int .i64 x.f0, .int .i64 x.f1, .int .i64 x.f2, .string x.f3, .slice A x.f4.length c] 38)).alloc (.cells #[.int .i64 d] 3)).heap.size = w.heap.size + 1 + 1 + 1 := by simp
  have hsz := hW.size
  rw [hs3] at hsz
  have cl : ∀ k o u, k < w.heap.size + 1 + 1 + 1 → (((w.alloc (.cells #[.slice A0 n0 c0, .int .i64 p, .int .i64 v, .slice A3 n3 c3] 34)).alloc (.cells #[.int .i64 x.f0, .int .i64 x.f1, .int .i64 x.f2, .string x.f3, .slice A x.f4.length c] 38)).alloc (.cells #[.int .i64 d] 3)).cell? ⟨k, o, none⟩ = some u → W'.cell? ⟨k, o, none⟩ = some u :=
    fun k o u hk hu => ((hW'.cell (p := ⟨k, o, none⟩) (by show k < _; omega)).trans (hW.cell (p := ⟨k, o, none⟩) (by show k < _; omega))).trans hu
  have b0 : (((w.alloc (.cells #[.slice A0 n0 c0, .int .i64 p, .int .i64 v, .slice A3 n3 c3] 34)).alloc (.cells #[.int .i64 x.f0, .int .i64 x.f1, .int .i64 x.f2, .string x.f3, .slice A x.f4.length c] 38)).alloc (.cells #[.int .i64 d] 3)).heap[w.heap.size]? = some (.cells #[.slice A0 n0 c0, .int .i64 p, .int .i64 v, .slice A3 n3 c3] 34) := bkA (bkA (heap_alloc_new w _) _) _
  have b5 : (((w.alloc (.cells #[.slice A0 n0 c0, .int .i64 p, .int .i64 v, .slice A3 n3 c3] 34)).alloc (.cells #[.int .i64 x.f0, .int .i64 x.f1, .int .i64 x.f2, .string x.f3, .slice A x.f4.length c] 38)).alloc (.cells #[.int .i64 d] 3)).heap[w.heap.size + 1 + 1]? = some (.cells #[.int .i64 d] 3) := by
    have h := heap_alloc_new ((w.alloc (.cells #[.slice A0 n0 c0, .int .i64 p, .int .i64 v, .slice A3 n3 c3] 34)).alloc (.cells #[.int .i64 x.f0, .int .i64 x.f1, .int .i64 x.f2, .string x.f3, .slice A x.f4.length c] 38)) (.cells #[.int .i64 d] 3)
    simpa using h
  have k0 := cl w.heap.size 0 (.slice A0 n0 c0) (by omega) (by rw [blk_cell b0]; rfl)
  have k1 := cl w.heap.size 1 (.int .i64 p) (by omega) (by rw [blk_cell b0]; rfl)
  have k2 := cl w.heap.size 2 (.int .i64 v) (by omega) (by rw [blk_cell b0]; rfl)
  have k3 := cl w.heap.size 3 (.slice A3 n3 c3) (by omega) (by rw [blk_cell b0]; rfl)
  have k4 := cl (w.heap.size + 1 + 1) 0 (.int .i64 d) (by omega) (by rw [blk_cell b5]; rfl)
  exact isx1_calls n ih w.heap.size (w.heap.size + 1 + 1) A0 n0 c0 p v A3 n3 c3 y A' c' d W' (by have := kid_lt hy; omega) hn h0 hd hr' hc' k0 k1 k2 k3 k4
set_option maxRecDepth 100000 in
set_option maxHeartbeats 8000000 in
theorem isX_num (A0 : Option Addr) (n0 c0 : Nat) (p v : Int) (A3 : Option Addr) (n3 c3 : Nat) (n b : Int) (t : ByteArray) (l : List S38) (A : Option Addr) (c : Nat) (d : Int) (w : World) (hn : n0 ≤ 9223372036854775807) (h0 : 0 ≤ d) (h31 : d ≤ 31) (hc : l.length ≤ c) (hl : l.length ≤ 9223372036854775807) (hbox : BoxX n0 v A c d l w (((w.alloc (.cells #[.slice A0 n0 c0, .int .i64 p, .int .i64 v, .slice A3 n3 c3] 34)).alloc (.cells #[.int .i64 0, .int .i64 n, .int .i64 b, .string t, .slice A l.length c] 38)).alloc (.cells #[.int .i64 d] 3))) :
    Calls Tryd.prog 20 #[.agg #[.slice A0 n0 c0, .int .i64 p, .int .i64 v, .slice A3 n3 c3], .agg #[.int .i64 0, .int .i64 n, .int .i64 b, .string t, .slice A l.length c], .int .i64 d] w fun e w' => e = .returned (.bool (okX (n0 : Int) v d ⟨0, n, b, t, l⟩)) ∧ Below w.heap.size w w' := by
  have huIR := Tryd.underlying34
  have huIE := Tryd.underlying38
  have hcall := Zs0.mk hbox
  clear hbox
  cases hT : (t.toList == []) with
  | false =>
    have hh : headX (n0 : Int) v 0 n b t = false := by simp [headX, txE, hT]
    have hv : okX (n0 : Int) v d ⟨0, n, b, t, l⟩ = false := by rw [okX_eq]; show (headX (n0 : Int) v 0 n b t && decide (d ≤ 30) && decide ((l.length : Int) = kidX 0) && okXs (n0 : Int) v (d + 1) l) = _; rw [hh]; rfl
    rw [hv]
    clear hv
    go_enter Tryd.func20, Tryd.ntmps20
    go_wp2
    go_ret
    exact ⟨by first | rfl | (simp; done) | (simp [*]; done), (by with_reducible repeat (first | exact Below.refl _ _ | apply blA | apply pbN | apply bl1))⟩
  | true =>
    cases hB : (b == 0) with
    | false =>
      have hh : headX (n0 : Int) v 0 n b t = false := by simp [headX, txE, hT, hB]
      have hv : okX (n0 : Int) v d ⟨0, n, b, t, l⟩ = false := by rw [okX_eq]; show (headX (n0 : Int) v 0 n b t && decide (d ≤ 30) && decide ((l.length : Int) = kidX 0) && okXs (n0 : Int) v (d + 1) l) = _; rw [hh]; rfl
      rw [hv]
      clear hv
      go_enter Tryd.func20, Tryd.ntmps20
      go_wp2
      go_ret
      exact ⟨by first | rfl | (simp; done) | (simp [*]; done), (by with_reducible repeat (first | exact Below.refl _ _ | apply blA | apply pbN | apply bl1))⟩
    | true =>
      cases hI : inR n 0 999999999 with
      | false =>
        have hh : headX (n0 : Int) v 0 n b t = false := by simp [headX, txE, hT, hB, hI]
        have hv : okX (n0 : Int) v d ⟨0, n, b, t, l⟩ = false := by rw [okX_eq]; show (headX (n0 : Int) v 0 n b t && decide (d ≤ 30) && decide ((l.length : Int) = kidX 0) && okXs (n0 : Int) v (d + 1) l) = _; rw [hh]; rfl
        rw [hv]
        clear hv
        go_enter Tryd.func20, Tryd.ntmps20
        go_wp2_with (first | (go_at_call 30; refine (in_b hI _).mono ?_; rintro e w' ⟨rfl, rfl⟩))
        go_ret
        exact ⟨by first | rfl | (simp; done) | (simp [*]; done), (by with_reducible repeat (first | exact Below.refl _ _ | apply blA | apply pbN | apply bl1))⟩
      | true =>
        by_cases hd : d ≤ 30
        · have cd : decide (d ≤ 30) = true := decide_eq_true hd
          by_cases hk : (l.length : Int) = 0
          · have ck : ((l.length : Int) == 0) = true := beq_iff_eq.mpr hk
            have ck2 : decide ((l.length : Int) = 0) = true := decide_eq_true hk
            have hh : headX (n0 : Int) v 0 n b t = true := by simp [headX, txE, hT, hB, hI]
            have ck3 : decide ((l.length : Int) = kidX 0) = true := ck2
            have hv : okX (n0 : Int) v d ⟨0, n, b, t, l⟩ = okXs (n0 : Int) v (d + 1) l := by rw [okX_eq]; show (headX (n0 : Int) v 0 n b t && decide (d ≤ 30) && decide ((l.length : Int) = kidX 0) && okXs (n0 : Int) v (d + 1) l) = _; rw [hh, cd, ck3]; rfl
            rw [hv]
            clear hv
            go_enter Tryd.func20, Tryd.ntmps20
            go_wp2_with (first | (go_at_call 30; refine (in_b hI _).mono ?_; rintro e w' ⟨rfl, rfl⟩) | (go_at_call 33; refine (hcall.out _ (by with_reducible repeat (first | exact Below.refl _ _ | apply blA | apply pbN | apply bl1)) hd).mono ?_; rintro e w' ⟨rfl, hb'⟩; have HB' := Zs0.mk (show Below w.heap.size w w' from blT (by with_reducible repeat (first | exact Below.refl _ _ | apply blA | apply pbN | apply bl1)) hb'); clear hb'))
            go_ret
            exact ⟨by rw [okXs_any]; simp, HB'.out⟩
          · have ck : ((l.length : Int) == 0) = false := beq_eq_false_iff_ne.mpr hk
            have ck2 : decide ((l.length : Int) = 0) = false := decide_eq_false hk
            have hh : headX (n0 : Int) v 0 n b t = true := by simp [headX, txE, hT, hB, hI]
            have ck3 : decide ((l.length : Int) = kidX 0) = false := ck2
            have hv : okX (n0 : Int) v d ⟨0, n, b, t, l⟩ = false := by rw [okX_eq]; show (headX (n0 : Int) v 0 n b t && decide (d ≤ 30) && decide ((l.length : Int) = kidX 0) && okXs (n0 : Int) v (d + 1) l) = _; rw [hh, cd, ck3]; rfl
            rw [hv]
            clear hv
            go_enter Tryd.func20, Tryd.ntmps20
            go_wp2_with (first | (go_at_call 30; refine (in_b hI _).mono ?_; rintro e w' ⟨rfl, rfl⟩))
            go_ret
            exact ⟨by first | rfl | (simp; done) | (simp [*]; done), (by with_reducible repeat (first | exact Below.refl _ _ | apply blA | apply pbN | apply bl1))⟩
        · have cd : decide (d ≤ 30) = false := decide_eq_false hd
          have hh : headX (n0 : Int) v 0 n b t = true := by simp [headX, txE, hT, hB, hI]
          have hv : okX (n0 : Int) v d ⟨0, n, b, t, l⟩ = false := by rw [okX_eq]; show (headX (n0 : Int) v 0 n b t && decide (d ≤ 30) && decide ((l.length : Int) = kidX 0) && okXs (n0 : Int) v (d + 1) l) = _; rw [hh, cd]; rfl
          rw [hv]
          clear hv
          go_enter Tryd.func20, Tryd.ntmps20
          go_wp2_with (first | (go_at_call 30; refine (in_b hI _).mono ?_; rintro e w' ⟨rfl, rfl⟩))
          go_ret
          exact ⟨by first | rfl | (simp; done) | (simp [*]; done), (by with_reducible repeat (first | exact Below.refl _ _ | apply blA | apply pbN | apply bl1))⟩
set_option maxRecDepth 100000 in
set_option maxHeartbeats 8000000 in
theorem isX_var (A0 : Option Addr) (n0 c0 : Nat) (p v : Int) (A3 : Option Addr) (n3 c3 : Nat) (n b : Int) (t : ByteArray) (l : List S38) (A : Option Addr) (c : Nat) (d : Int) (w : World) (hn : n0 ≤ 9223372036854775807) (h0 : 0 ≤ d) (h31 : d ≤ 31) (hc : l.length ≤ c) (hl : l.length ≤ 9223372036854775807) (hbox : BoxX n0 v A c d l w (((w.alloc (.cells #[.slice A0 n0 c0, .int .i64 p, .int .i64 v, .slice A3 n3 c3] 34)).alloc (.cells #[.int .i64 1, .int .i64 n, .int .i64 b, .string t, .slice A l.length c] 38)).alloc (.cells #[.int .i64 d] 3))) :
    Calls Tryd.prog 20 #[.agg #[.slice A0 n0 c0, .int .i64 p, .int .i64 v, .slice A3 n3 c3], .agg #[.int .i64 1, .int .i64 n, .int .i64 b, .string t, .slice A l.length c], .int .i64 d] w fun e w' => e = .returned (.bool (okX (n0 : Int) v d ⟨1, n, b, t, l⟩)) ∧ Below w.heap.size w w' := by
  have huIR := Tryd.underlying34
  have huIE := Tryd.underlying38
  have hcall := Zs0.mk hbox
  clear hbox
  cases hT : (t.toList == []) with
  | false =>
    have hh : headX (n0 : Int) v 1 n b t = false := by simp [headX, txE, hT]
    have hv : okX (n0 : Int) v d ⟨1, n, b, t, l⟩ = false := by rw [okX_eq]; show (headX (n0 : Int) v 1 n b t && decide (d ≤ 30) && decide ((l.length : Int) = kidX 1) && okXs (n0 : Int) v (d + 1) l) = _; rw [hh]; rfl
    rw [hv]
    clear hv
    go_enter Tryd.func20, Tryd.ntmps20
    go_wp2
    go_ret
    exact ⟨by first | rfl | (simp; done) | (simp [*]; done), (by with_reducible repeat (first | exact Below.refl _ _ | apply blA | apply pbN | apply bl1))⟩
  | true =>
    cases hB : (b == 0) with
    | false =>
      have hh : headX (n0 : Int) v 1 n b t = false := by simp [headX, txE, hT, hB]
      have hv : okX (n0 : Int) v d ⟨1, n, b, t, l⟩ = false := by rw [okX_eq]; show (headX (n0 : Int) v 1 n b t && decide (d ≤ 30) && decide ((l.length : Int) = kidX 1) && okXs (n0 : Int) v (d + 1) l) = _; rw [hh]; rfl
      rw [hv]
      clear hv
      go_enter Tryd.func20, Tryd.ntmps20
      go_wp2
      go_ret
      exact ⟨by first | rfl | (simp; done) | (simp [*]; done), (by with_reducible repeat (first | exact Below.refl _ _ | apply blA | apply pbN | apply bl1))⟩
    | true =>
      cases hG : decide (0 ≤ n) with
      | false =>
        have hh : headX (n0 : Int) v 1 n b t = false := by simp [headX, txE, hT, hB, hG]
        have hv : okX (n0 : Int) v d ⟨1, n, b, t, l⟩ = false := by rw [okX_eq]; show (headX (n0 : Int) v 1 n b t && decide (d ≤ 30) && decide ((l.length : Int) = kidX 1) && okXs (n0 : Int) v (d + 1) l) = _; rw [hh]; rfl
        rw [hv]
        clear hv
        go_enter Tryd.func20, Tryd.ntmps20
        go_wp2
        go_ret
        exact ⟨by first | rfl | (simp; done) | (simp [*]; done), (by with_reducible repeat (first | exact Below.refl _ _ | apply blA | apply pbN | apply bl1))⟩
      | true =>
        cases hL : decide (n < v) with
        | false =>
          have hh : headX (n0 : Int) v 1 n b t = false := by simp [headX, txE, hT, hB, hG, hL]
          have hv : okX (n0 : Int) v d ⟨1, n, b, t, l⟩ = false := by rw [okX_eq]; show (headX (n0 : Int) v 1 n b t && decide (d ≤ 30) && decide ((l.length : Int) = kidX 1) && okXs (n0 : Int) v (d + 1) l) = _; rw [hh]; rfl
          rw [hv]
          clear hv
          go_enter Tryd.func20, Tryd.ntmps20
          go_wp2
          go_ret
          exact ⟨by first | rfl | (simp; done) | (simp [*]; done), (by with_reducible repeat (first | exact Below.refl _ _ | apply blA | apply pbN | apply bl1))⟩
        | true =>
          by_cases hd : d ≤ 30
          · have cd : decide (d ≤ 30) = true := decide_eq_true hd
            by_cases hk : (l.length : Int) = 0
            · have ck : ((l.length : Int) == 0) = true := beq_iff_eq.mpr hk
              have ck2 : decide ((l.length : Int) = 0) = true := decide_eq_true hk
              have hh : headX (n0 : Int) v 1 n b t = true := by simp [headX, txE, hT, hB, hG, hL]
              have ck3 : decide ((l.length : Int) = kidX 1) = true := ck2
              have hv : okX (n0 : Int) v d ⟨1, n, b, t, l⟩ = okXs (n0 : Int) v (d + 1) l := by rw [okX_eq]; show (headX (n0 : Int) v 1 n b t && decide (d ≤ 30) && decide ((l.length : Int) = kidX 1) && okXs (n0 : Int) v (d + 1) l) = _; rw [hh, cd, ck3]; rfl
              rw [hv]
              clear hv
              go_enter Tryd.func20, Tryd.ntmps20
              go_wp2_with (first | (go_at_call 33; refine (hcall.out _ (by with_reducible repeat (first | exact Below.refl _ _ | apply blA | apply pbN | apply bl1)) hd).mono ?_; rintro e w' ⟨rfl, hb'⟩; have HB' := Zs0.mk (show Below w.heap.size w w' from blT (by with_reducible repeat (first | exact Below.refl _ _ | apply blA | apply pbN | apply bl1)) hb'); clear hb'))
              go_ret
              exact ⟨by rw [okXs_any]; simp, HB'.out⟩
            · have ck : ((l.length : Int) == 0) = false := beq_eq_false_iff_ne.mpr hk
              have ck2 : decide ((l.length : Int) = 0) = false := decide_eq_false hk
              have hh : headX (n0 : Int) v 1 n b t = true := by simp [headX, txE, hT, hB, hG, hL]
              have ck3 : decide ((l.length : Int) = kidX 1) = false := ck2
              have hv : okX (n0 : Int) v d ⟨1, n, b, t, l⟩ = false := by rw [okX_eq]; show (headX (n0 : Int) v 1 n b t && decide (d ≤ 30) && decide ((l.length : Int) = kidX 1) && okXs (n0 : Int) v (d + 1) l) = _; rw [hh, cd, ck3]; rfl
              rw [hv]
              clear hv
              go_enter Tryd.func20, Tryd.ntmps20
              go_wp2
              go_ret
              exact ⟨by first | rfl | (simp; done) | (simp [*]; done), (by with_reducible repeat (first | exact Below.refl _ _ | apply blA | apply pbN | apply bl1))⟩
          · have cd : decide (d ≤ 30) = false := decide_eq_false hd
            have hh : headX (n0 : Int) v 1 n b t = true := by simp [headX, txE, hT, hB, hG, hL]
            have hv : okX (n0 : Int) v d ⟨1, n, b, t, l⟩ = false := by rw [okX_eq]; show (headX (n0 : Int) v 1 n b t && decide (d ≤ 30) && decide ((l.length : Int) = kidX 1) && okXs (n0 : Int) v (d + 1) l) = _; rw [hh, cd]; rfl
            rw [hv]
            clear hv
            go_enter Tryd.func20, Tryd.ntmps20
            go_wp2
            go_ret
            exact ⟨by first | rfl | (simp; done) | (simp [*]; done), (by with_reducible repeat (first | exact Below.refl _ _ | apply blA | apply pbN | apply bl1))⟩
set_option maxRecDepth 100000 in
set_option maxHeartbeats 8000000 in
theorem isX_load (A0 : Option Addr) (n0 c0 : Nat) (p v : Int) (A3 : Option Addr) (n3 c3 : Nat) (n b : Int) (t : ByteArray) (l : List S38) (A : Option Addr) (c : Nat) (d : Int) (w : World) (hn : n0 ≤ 9223372036854775807) (h0 : 0 ≤ d) (h31 : d ≤ 31) (hc : l.length ≤ c) (hl : l.length ≤ 9223372036854775807) (hbox : BoxX n0 v A c d l w (((w.alloc (.cells #[.slice A0 n0 c0, .int .i64 p, .int .i64 v, .slice A3 n3 c3] 34)).alloc (.cells #[.int .i64 2, .int .i64 n, .int .i64 b, .string t, .slice A l.length c] 38)).alloc (.cells #[.int .i64 d] 3))) :
    Calls Tryd.prog 20 #[.agg #[.slice A0 n0 c0, .int .i64 p, .int .i64 v, .slice A3 n3 c3], .agg #[.int .i64 2, .int .i64 n, .int .i64 b, .string t, .slice A l.length c], .int .i64 d] w fun e w' => e = .returned (.bool (okX (n0 : Int) v d ⟨2, n, b, t, l⟩)) ∧ Below w.heap.size w w' := by
  have huIR := Tryd.underlying34
  have huIE := Tryd.underlying38
  have hcall := Zs0.mk hbox
  clear hbox
  have hz : wrap64 ((n0 : Int) - 1) = (n0 : Int) - 1 := wrap_ok (by omega) (by omega)
  cases hT : (t.toList == []) with
  | false =>
    have hh : headX (n0 : Int) v 2 n b t = false := by simp [headX, txE, hT]
    have hv : okX (n0 : Int) v d ⟨2, n, b, t, l⟩ = false := by rw [okX_eq]; show (headX (n0 : Int) v 2 n b t && decide (d ≤ 30) && decide ((l.length : Int) = kidX 2) && okXs (n0 : Int) v (d + 1) l) = _; rw [hh]; rfl
    rw [hv]
    clear hv
    go_enter Tryd.func20, Tryd.ntmps20
    go_wp2
    go_ret
    exact ⟨by first | rfl | (simp; done) | (simp [*]; done), (by with_reducible repeat (first | exact Below.refl _ _ | apply blA | apply pbN | apply bl1))⟩
  | true =>
    cases hI : inR n 0 ((n0 : Int) - 1) with
    | false =>
      have hh : headX (n0 : Int) v 2 n b t = false := by simp [headX, txE, hT, hI]
      have hv : okX (n0 : Int) v d ⟨2, n, b, t, l⟩ = false := by rw [okX_eq]; show (headX (n0 : Int) v 2 n b t && decide (d ≤ 30) && decide ((l.length : Int) = kidX 2) && okXs (n0 : Int) v (d + 1) l) = _; rw [hh]; rfl
      rw [hv]
      clear hv
      go_enter Tryd.func20, Tryd.ntmps20
      go_wp2_with (first | (go_at_call 30; refine (in_b hI _).mono ?_; rintro e w' ⟨rfl, rfl⟩))
      go_ret
      exact ⟨by first | rfl | (simp; done) | (simp [*]; done), (by with_reducible repeat (first | exact Below.refl _ _ | apply blA | apply pbN | apply bl1))⟩
    | true =>
      cases hS : baseB v b with
      | false =>
        have hh : headX (n0 : Int) v 2 n b t = false := by simp [headX, txE, hT, hI, hS]
        have hv : okX (n0 : Int) v d ⟨2, n, b, t, l⟩ = false := by rw [okX_eq]; show (headX (n0 : Int) v 2 n b t && decide (d ≤ 30) && decide ((l.length : Int) = kidX 2) && okXs (n0 : Int) v (d + 1) l) = _; rw [hh]; rfl
        rw [hv]
        clear hv
        go_enter Tryd.func20, Tryd.ntmps20
        go_wp2_with (first | (go_at_call 30; refine (in_b hI _).mono ?_; rintro e w' ⟨rfl, rfl⟩) | (go_at_call 31; refine (base_b hS _).mono ?_; rintro e w' ⟨rfl, rfl⟩))
        go_ret
        exact ⟨by first | rfl | (simp; done) | (simp [*]; done), (by with_reducible repeat (first | exact Below.refl _ _ | apply blA | apply pbN | apply bl1))⟩
      | true =>
        by_cases hd : d ≤ 30
        · have cd : decide (d ≤ 30) = true := decide_eq_true hd
          by_cases hk : (l.length : Int) = 1
          · have ck : ((l.length : Int) == 1) = true := beq_iff_eq.mpr hk
            have ck2 : decide ((l.length : Int) = 1) = true := decide_eq_true hk
            have hh : headX (n0 : Int) v 2 n b t = true := by simp [headX, txE, hT, hI, hS]
            have ck3 : decide ((l.length : Int) = kidX 2) = true := ck2
            have hv : okX (n0 : Int) v d ⟨2, n, b, t, l⟩ = okXs (n0 : Int) v (d + 1) l := by rw [okX_eq]; show (headX (n0 : Int) v 2 n b t && decide (d ≤ 30) && decide ((l.length : Int) = kidX 2) && okXs (n0 : Int) v (d + 1) l) = _; rw [hh, cd, ck3]; rfl
            rw [hv]
            clear hv
            go_enter Tryd.func20, Tryd.ntmps20
            go_wp2_with (first | (go_at_call 30; refine (in_b hI _).mono ?_; rintro e w' ⟨rfl, rfl⟩) | (go_at_call 31; refine (base_b hS _).mono ?_; rintro e w' ⟨rfl, rfl⟩) | (go_at_call 33; refine (hcall.out _ (by with_reducible repeat (first | exact Below.refl _ _ | apply blA | apply pbN | apply bl1)) hd).mono ?_; rintro e w' ⟨rfl, hb'⟩; have HB' := Zs0.mk (show Below w.heap.size w w' from blT (by with_reducible repeat (first | exact Below.refl _ _ | apply blA | apply pbN | apply bl1)) hb'); clear hb'))
            go_ret
            exact ⟨by rw [okXs_any]; simp, HB'.out⟩
          · have ck : ((l.length : Int) == 1) = false := beq_eq_false_iff_ne.mpr hk
            have ck2 : decide ((l.length : Int) = 1) = false := decide_eq_false hk
            have hh : headX (n0 : Int) v 2 n b t = true := by simp [headX, txE, hT, hI, hS]
            have ck3 : decide ((l.length : Int) = kidX 2) = false := ck2
            have hv : okX (n0 : Int) v d ⟨2, n, b, t, l⟩ = false := by rw [okX_eq]; show (headX (n0 : Int) v 2 n b t && decide (d ≤ 30) && decide ((l.length : Int) = kidX 2) && okXs (n0 : Int) v (d + 1) l) = _; rw [hh, cd, ck3]; rfl
            rw [hv]
            clear hv
            go_enter Tryd.func20, Tryd.ntmps20
            go_wp2_with (first | (go_at_call 30; refine (in_b hI _).mono ?_; rintro e w' ⟨rfl, rfl⟩) | (go_at_call 31; refine (base_b hS _).mono ?_; rintro e w' ⟨rfl, rfl⟩))
            go_ret
            exact ⟨by first | rfl | (simp; done) | (simp [*]; done), (by with_reducible repeat (first | exact Below.refl _ _ | apply blA | apply pbN | apply bl1))⟩
        · have cd : decide (d ≤ 30) = false := decide_eq_false hd
          have hh : headX (n0 : Int) v 2 n b t = true := by simp [headX, txE, hT, hI, hS]
          have hv : okX (n0 : Int) v d ⟨2, n, b, t, l⟩ = false := by rw [okX_eq]; show (headX (n0 : Int) v 2 n b t && decide (d ≤ 30) && decide ((l.length : Int) = kidX 2) && okXs (n0 : Int) v (d + 1) l) = _; rw [hh, cd]; rfl
          rw [hv]
          clear hv
          go_enter Tryd.func20, Tryd.ntmps20
          go_wp2_with (first | (go_at_call 30; refine (in_b hI _).mono ?_; rintro e w' ⟨rfl, rfl⟩) | (go_at_call 31; refine (base_b hS _).mono ?_; rintro e w' ⟨rfl, rfl⟩))
          go_ret
          exact ⟨by first | rfl | (simp; done) | (simp [*]; done), (by with_reducible repeat (first | exact Below.refl _ _ | apply blA | apply pbN | apply bl1))⟩
set_option maxRecDepth 100000 in
set_option maxHeartbeats 8000000 in
theorem isX_op (A0 : Option Addr) (n0 c0 : Nat) (p v : Int) (A3 : Option Addr) (n3 c3 : Nat) (n b : Int) (t : ByteArray) (l : List S38) (A : Option Addr) (c : Nat) (d : Int) (w : World) (hn : n0 ≤ 9223372036854775807) (h0 : 0 ≤ d) (h31 : d ≤ 31) (hc : l.length ≤ c) (hl : l.length ≤ 9223372036854775807) (hbox : BoxX n0 v A c d l w (((w.alloc (.cells #[.slice A0 n0 c0, .int .i64 p, .int .i64 v, .slice A3 n3 c3] 34)).alloc (.cells #[.int .i64 3, .int .i64 n, .int .i64 b, .string t, .slice A l.length c] 38)).alloc (.cells #[.int .i64 d] 3))) :
    Calls Tryd.prog 20 #[.agg #[.slice A0 n0 c0, .int .i64 p, .int .i64 v, .slice A3 n3 c3], .agg #[.int .i64 3, .int .i64 n, .int .i64 b, .string t, .slice A l.length c], .int .i64 d] w fun e w' => e = .returned (.bool (okX (n0 : Int) v d ⟨3, n, b, t, l⟩)) ∧ Below w.heap.size w w' := by
  have huIR := Tryd.underlying34
  have huIE := Tryd.underlying38
  have hcall := Zs0.mk hbox
  clear hbox
  cases hT : (t.toList == []) with
  | false =>
    cases hS : signB t with
    | false =>
      have hh : headX (n0 : Int) v 3 n b t = false := by simp [headX, txE, hS]
      have hv : okX (n0 : Int) v d ⟨3, n, b, t, l⟩ = false := by rw [okX_eq]; show (headX (n0 : Int) v 3 n b t && decide (d ≤ 30) && decide ((l.length : Int) = kidX 3) && okXs (n0 : Int) v (d + 1) l) = _; rw [hh]; rfl
      rw [hv]
      clear hv
      go_enter Tryd.func20, Tryd.ntmps20
      go_wp2_with (first | (go_at_call 32; refine (sign_b hS _).mono ?_; rintro e w' ⟨rfl, nd, rfl⟩))
      go_ret
      exact ⟨by first | rfl | (simp; done) | (simp [*]; done), (by with_reducible repeat (first | exact Below.refl _ _ | apply blA | apply pbN | apply bl1))⟩
    | true =>
      cases hB : (b == 0) with
      | false =>
        have hh : headX (n0 : Int) v 3 n b t = false := by simp [headX, txE, hS, hB]
        have hv : okX (n0 : Int) v d ⟨3, n, b, t, l⟩ = false := by rw [okX_eq]; show (headX (n0 : Int) v 3 n b t && decide (d ≤ 30) && decide ((l.length : Int) = kidX 3) && okXs (n0 : Int) v (d + 1) l) = _; rw [hh]; rfl
        rw [hv]
        clear hv
        go_enter Tryd.func20, Tryd.ntmps20
        go_wp2_with (first | (go_at_call 32; refine (sign_b hS _).mono ?_; rintro e w' ⟨rfl, nd, rfl⟩))
        go_ret
        exact ⟨by first | rfl | (simp; done) | (simp [*]; done), (by with_reducible repeat (first | exact Below.refl _ _ | apply blA | apply pbN | apply bl1))⟩
      | true =>
        cases hN : (n == 0) with
        | false =>
          have hh : headX (n0 : Int) v 3 n b t = false := by simp [headX, txE, hS, hB, hN]
          have hv : okX (n0 : Int) v d ⟨3, n, b, t, l⟩ = false := by rw [okX_eq]; show (headX (n0 : Int) v 3 n b t && decide (d ≤ 30) && decide ((l.length : Int) = kidX 3) && okXs (n0 : Int) v (d + 1) l) = _; rw [hh]; rfl
          rw [hv]
          clear hv
          go_enter Tryd.func20, Tryd.ntmps20
          go_wp2_with (first | (go_at_call 32; refine (sign_b hS _).mono ?_; rintro e w' ⟨rfl, nd, rfl⟩))
          go_ret
          exact ⟨by first | rfl | (simp; done) | (simp [*]; done), (by with_reducible repeat (first | exact Below.refl _ _ | apply blA | apply pbN | apply bl1))⟩
        | true =>
          by_cases hd : d ≤ 30
          · have cd : decide (d ≤ 30) = true := decide_eq_true hd
            by_cases hk : (l.length : Int) = 2
            · have ck : ((l.length : Int) == 2) = true := beq_iff_eq.mpr hk
              have ck2 : decide ((l.length : Int) = 2) = true := decide_eq_true hk
              have hh : headX (n0 : Int) v 3 n b t = true := by simp [headX, txE, hS, hB, hN]
              have ck3 : decide ((l.length : Int) = kidX 3) = true := ck2
              have hv : okX (n0 : Int) v d ⟨3, n, b, t, l⟩ = okXs (n0 : Int) v (d + 1) l := by rw [okX_eq]; show (headX (n0 : Int) v 3 n b t && decide (d ≤ 30) && decide ((l.length : Int) = kidX 3) && okXs (n0 : Int) v (d + 1) l) = _; rw [hh, cd, ck3]; rfl
              rw [hv]
              clear hv
              go_enter Tryd.func20, Tryd.ntmps20
              go_wp2_with (first | (go_at_call 32; refine (sign_b hS _).mono ?_; rintro e w' ⟨rfl, nd, rfl⟩) | (go_at_call 33; refine (hcall.out _ (by with_reducible repeat (first | exact Below.refl _ _ | apply blA | apply pbN | apply bl1)) hd).mono ?_; rintro e w' ⟨rfl, hb'⟩; have HB' := Zs0.mk (show Below w.heap.size w w' from blT (by with_reducible repeat (first | exact Below.refl _ _ | apply blA | apply pbN | apply bl1)) hb'); clear hb'))
              go_ret
              exact ⟨by rw [okXs_any]; simp, HB'.out⟩
            · have ck : ((l.length : Int) == 2) = false := beq_eq_false_iff_ne.mpr hk
              have ck2 : decide ((l.length : Int) = 2) = false := decide_eq_false hk
              have hh : headX (n0 : Int) v 3 n b t = true := by simp [headX, txE, hS, hB, hN]
              have ck3 : decide ((l.length : Int) = kidX 3) = false := ck2
              have hv : okX (n0 : Int) v d ⟨3, n, b, t, l⟩ = false := by rw [okX_eq]; show (headX (n0 : Int) v 3 n b t && decide (d ≤ 30) && decide ((l.length : Int) = kidX 3) && okXs (n0 : Int) v (d + 1) l) = _; rw [hh, cd, ck3]; rfl
              rw [hv]
              clear hv
              go_enter Tryd.func20, Tryd.ntmps20
              go_wp2_with (first | (go_at_call 32; refine (sign_b hS _).mono ?_; rintro e w' ⟨rfl, nd, rfl⟩))
              go_ret
              exact ⟨by first | rfl | (simp; done) | (simp [*]; done), (by with_reducible repeat (first | exact Below.refl _ _ | apply blA | apply pbN | apply bl1))⟩
          · have cd : decide (d ≤ 30) = false := decide_eq_false hd
            have hh : headX (n0 : Int) v 3 n b t = true := by simp [headX, txE, hS, hB, hN]
            have hv : okX (n0 : Int) v d ⟨3, n, b, t, l⟩ = false := by rw [okX_eq]; show (headX (n0 : Int) v 3 n b t && decide (d ≤ 30) && decide ((l.length : Int) = kidX 3) && okXs (n0 : Int) v (d + 1) l) = _; rw [hh, cd]; rfl
            rw [hv]
            clear hv
            go_enter Tryd.func20, Tryd.ntmps20
            go_wp2_with (first | (go_at_call 32; refine (sign_b hS _).mono ?_; rintro e w' ⟨rfl, nd, rfl⟩))
            go_ret
            exact ⟨by first | rfl | (simp; done) | (simp [*]; done), (by with_reducible repeat (first | exact Below.refl _ _ | apply blA | apply pbN | apply bl1))⟩
  | true =>
    cases hS : signB t with
    | false =>
      have hh : headX (n0 : Int) v 3 n b t = false := by simp [headX, txE, hS]
      have hv : okX (n0 : Int) v d ⟨3, n, b, t, l⟩ = false := by rw [okX_eq]; show (headX (n0 : Int) v 3 n b t && decide (d ≤ 30) && decide ((l.length : Int) = kidX 3) && okXs (n0 : Int) v (d + 1) l) = _; rw [hh]; rfl
      rw [hv]
      clear hv
      go_enter Tryd.func20, Tryd.ntmps20
      go_wp2_with (first | (go_at_call 32; refine (sign_b hS _).mono ?_; rintro e w' ⟨rfl, nd, rfl⟩))
      go_ret
      exact ⟨by first | rfl | (simp; done) | (simp [*]; done), (by with_reducible repeat (first | exact Below.refl _ _ | apply blA | apply pbN | apply bl1))⟩
    | true =>
      cases hB : (b == 0) with
      | false =>
        have hh : headX (n0 : Int) v 3 n b t = false := by simp [headX, txE, hS, hB]
        have hv : okX (n0 : Int) v d ⟨3, n, b, t, l⟩ = false := by rw [okX_eq]; show (headX (n0 : Int) v 3 n b t && decide (d ≤ 30) && decide ((l.length : Int) = kidX 3) && okXs (n0 : Int) v (d + 1) l) = _; rw [hh]; rfl
        rw [hv]
        clear hv
        go_enter Tryd.func20, Tryd.ntmps20
        go_wp2_with (first | (go_at_call 32; refine (sign_b hS _).mono ?_; rintro e w' ⟨rfl, nd, rfl⟩))
        go_ret
        exact ⟨by first | rfl | (simp; done) | (simp [*]; done), (by with_reducible repeat (first | exact Below.refl _ _ | apply blA | apply pbN | apply bl1))⟩
      | true =>
        cases hN : (n == 0) with
        | false =>
          have hh : headX (n0 : Int) v 3 n b t = false := by simp [headX, txE, hS, hB, hN]
          have hv : okX (n0 : Int) v d ⟨3, n, b, t, l⟩ = false := by rw [okX_eq]; show (headX (n0 : Int) v 3 n b t && decide (d ≤ 30) && decide ((l.length : Int) = kidX 3) && okXs (n0 : Int) v (d + 1) l) = _; rw [hh]; rfl
          rw [hv]
          clear hv
          go_enter Tryd.func20, Tryd.ntmps20
          go_wp2_with (first | (go_at_call 32; refine (sign_b hS _).mono ?_; rintro e w' ⟨rfl, nd, rfl⟩))
          go_ret
          exact ⟨by first | rfl | (simp; done) | (simp [*]; done), (by with_reducible repeat (first | exact Below.refl _ _ | apply blA | apply pbN | apply bl1))⟩
        | true =>
          by_cases hd : d ≤ 30
          · have cd : decide (d ≤ 30) = true := decide_eq_true hd
            by_cases hk : (l.length : Int) = 2
            · have ck : ((l.length : Int) == 2) = true := beq_iff_eq.mpr hk
              have ck2 : decide ((l.length : Int) = 2) = true := decide_eq_true hk
              have hh : headX (n0 : Int) v 3 n b t = true := by simp [headX, txE, hS, hB, hN]
              have ck3 : decide ((l.length : Int) = kidX 3) = true := ck2
              have hv : okX (n0 : Int) v d ⟨3, n, b, t, l⟩ = okXs (n0 : Int) v (d + 1) l := by rw [okX_eq]; show (headX (n0 : Int) v 3 n b t && decide (d ≤ 30) && decide ((l.length : Int) = kidX 3) && okXs (n0 : Int) v (d + 1) l) = _; rw [hh, cd, ck3]; rfl
              rw [hv]
              clear hv
              go_enter Tryd.func20, Tryd.ntmps20
              go_wp2_with (first | (go_at_call 32; refine (sign_b hS _).mono ?_; rintro e w' ⟨rfl, nd, rfl⟩) | (go_at_call 33; refine (hcall.out _ (by with_reducible repeat (first | exact Below.refl _ _ | apply blA | apply pbN | apply bl1)) hd).mono ?_; rintro e w' ⟨rfl, hb'⟩; have HB' := Zs0.mk (show Below w.heap.size w w' from blT (by with_reducible repeat (first | exact Below.refl _ _ | apply blA | apply pbN | apply bl1)) hb'); clear hb'))
              go_ret
              exact ⟨by rw [okXs_any]; simp, HB'.out⟩
            · have ck : ((l.length : Int) == 2) = false := beq_eq_false_iff_ne.mpr hk
              have ck2 : decide ((l.length : Int) = 2) = false := decide_eq_false hk
              have hh : headX (n0 : Int) v 3 n b t = true := by simp [headX, txE, hS, hB, hN]
              have ck3 : decide ((l.length : Int) = kidX 3) = false := ck2
              have hv : okX (n0 : Int) v d ⟨3, n, b, t, l⟩ = false := by rw [okX_eq]; show (headX (n0 : Int) v 3 n b t && decide (d ≤ 30) && decide ((l.length : Int) = kidX 3) && okXs (n0 : Int) v (d + 1) l) = _; rw [hh, cd, ck3]; rfl
              rw [hv]
              clear hv
              go_enter Tryd.func20, Tryd.ntmps20
              go_wp2_with (first | (go_at_call 32; refine (sign_b hS _).mono ?_; rintro e w' ⟨rfl, nd, rfl⟩))
              go_ret
              exact ⟨by first | rfl | (simp; done) | (simp [*]; done), (by with_reducible repeat (first | exact Below.refl _ _ | apply blA | apply pbN | apply bl1))⟩
          · have cd : decide (d ≤ 30) = false := decide_eq_false hd
            have hh : headX (n0 : Int) v 3 n b t = true := by simp [headX, txE, hS, hB, hN]
            have hv : okX (n0 : Int) v d ⟨3, n, b, t, l⟩ = false := by rw [okX_eq]; show (headX (n0 : Int) v 3 n b t && decide (d ≤ 30) && decide ((l.length : Int) = kidX 3) && okXs (n0 : Int) v (d + 1) l) = _; rw [hh, cd]; rfl
            rw [hv]
            clear hv
            go_enter Tryd.func20, Tryd.ntmps20
            go_wp2_with (first | (go_at_call 32; refine (sign_b hS _).mono ?_; rintro e w' ⟨rfl, nd, rfl⟩))
            go_ret
            exact ⟨by first | rfl | (simp; done) | (simp [*]; done), (by with_reducible repeat (first | exact Below.refl _ _ | apply blA | apply pbN | apply bl1))⟩
set_option maxRecDepth 100000 in
set_option maxHeartbeats 8000000 in
theorem isX_get (A0 : Option Addr) (n0 c0 : Nat) (p v : Int) (A3 : Option Addr) (n3 c3 : Nat) (n b : Int) (t : ByteArray) (l : List S38) (A : Option Addr) (c : Nat) (d : Int) (w : World) (hn : n0 ≤ 9223372036854775807) (h0 : 0 ≤ d) (h31 : d ≤ 31) (hc : l.length ≤ c) (hl : l.length ≤ 9223372036854775807) (hbox : BoxX n0 v A c d l w (((w.alloc (.cells #[.slice A0 n0 c0, .int .i64 p, .int .i64 v, .slice A3 n3 c3] 34)).alloc (.cells #[.int .i64 4, .int .i64 n, .int .i64 b, .string t, .slice A l.length c] 38)).alloc (.cells #[.int .i64 d] 3))) :
    Calls Tryd.prog 20 #[.agg #[.slice A0 n0 c0, .int .i64 p, .int .i64 v, .slice A3 n3 c3], .agg #[.int .i64 4, .int .i64 n, .int .i64 b, .string t, .slice A l.length c], .int .i64 d] w fun e w' => e = .returned (.bool (okX (n0 : Int) v d ⟨4, n, b, t, l⟩)) ∧ Below w.heap.size w w' := by
  have huIR := Tryd.underlying34
  have huIE := Tryd.underlying38
  have hcall := Zs0.mk hbox
  clear hbox
  cases hT : (t.toList == []) with
  | false =>
    have hh : headX (n0 : Int) v 4 n b t = false := by simp [headX, txE, hT]
    have hv : okX (n0 : Int) v d ⟨4, n, b, t, l⟩ = false := by rw [okX_eq]; show (headX (n0 : Int) v 4 n b t && decide (d ≤ 30) && decide ((l.length : Int) = kidX 4) && okXs (n0 : Int) v (d + 1) l) = _; rw [hh]; rfl
    rw [hv]
    clear hv
    go_enter Tryd.func20, Tryd.ntmps20
    go_wp2
    go_ret
    exact ⟨by first | rfl | (simp; done) | (simp [*]; done), (by with_reducible repeat (first | exact Below.refl _ _ | apply blA | apply pbN | apply bl1))⟩
  | true =>
    cases hB : (b == 0) with
    | false =>
      have hh : headX (n0 : Int) v 4 n b t = false := by simp [headX, txE, hT, hB]
      have hv : okX (n0 : Int) v d ⟨4, n, b, t, l⟩ = false := by rw [okX_eq]; show (headX (n0 : Int) v 4 n b t && decide (d ≤ 30) && decide ((l.length : Int) = kidX 4) && okXs (n0 : Int) v (d + 1) l) = _; rw [hh]; rfl
      rw [hv]
      clear hv
      go_enter Tryd.func20, Tryd.ntmps20
      go_wp2
      go_ret
      exact ⟨by first | rfl | (simp; done) | (simp [*]; done), (by with_reducible repeat (first | exact Below.refl _ _ | apply blA | apply pbN | apply bl1))⟩
    | true =>
      cases hN : (n == 0) with
      | false =>
        have hh : headX (n0 : Int) v 4 n b t = false := by simp [headX, txE, hT, hB, hN]
        have hv : okX (n0 : Int) v d ⟨4, n, b, t, l⟩ = false := by rw [okX_eq]; show (headX (n0 : Int) v 4 n b t && decide (d ≤ 30) && decide ((l.length : Int) = kidX 4) && okXs (n0 : Int) v (d + 1) l) = _; rw [hh]; rfl
        rw [hv]
        clear hv
        go_enter Tryd.func20, Tryd.ntmps20
        go_wp2
        go_ret
        exact ⟨by first | rfl | (simp; done) | (simp [*]; done), (by with_reducible repeat (first | exact Below.refl _ _ | apply blA | apply pbN | apply bl1))⟩
      | true =>
        by_cases hd : d ≤ 30
        · have cd : decide (d ≤ 30) = true := decide_eq_true hd
          by_cases hk : (l.length : Int) = 0
          · have ck : ((l.length : Int) == 0) = true := beq_iff_eq.mpr hk
            have ck2 : decide ((l.length : Int) = 0) = true := decide_eq_true hk
            have hh : headX (n0 : Int) v 4 n b t = true := by simp [headX, txE, hT, hB, hN]
            have ck3 : decide ((l.length : Int) = kidX 4) = true := ck2
            have hv : okX (n0 : Int) v d ⟨4, n, b, t, l⟩ = okXs (n0 : Int) v (d + 1) l := by rw [okX_eq]; show (headX (n0 : Int) v 4 n b t && decide (d ≤ 30) && decide ((l.length : Int) = kidX 4) && okXs (n0 : Int) v (d + 1) l) = _; rw [hh, cd, ck3]; rfl
            rw [hv]
            clear hv
            go_enter Tryd.func20, Tryd.ntmps20
            go_wp2_with (first | (go_at_call 33; refine (hcall.out _ (by with_reducible repeat (first | exact Below.refl _ _ | apply blA | apply pbN | apply bl1)) hd).mono ?_; rintro e w' ⟨rfl, hb'⟩; have HB' := Zs0.mk (show Below w.heap.size w w' from blT (by with_reducible repeat (first | exact Below.refl _ _ | apply blA | apply pbN | apply bl1)) hb'); clear hb'))
            go_ret
            exact ⟨by rw [okXs_any]; simp, HB'.out⟩
          · have ck : ((l.length : Int) == 0) = false := beq_eq_false_iff_ne.mpr hk
            have ck2 : decide ((l.length : Int) = 0) = false := decide_eq_false hk
            have hh : headX (n0 : Int) v 4 n b t = true := by simp [headX, txE, hT, hB, hN]
            have ck3 : decide ((l.length : Int) = kidX 4) = false := ck2
            have hv : okX (n0 : Int) v d ⟨4, n, b, t, l⟩ = false := by rw [okX_eq]; show (headX (n0 : Int) v 4 n b t && decide (d ≤ 30) && decide ((l.length : Int) = kidX 4) && okXs (n0 : Int) v (d + 1) l) = _; rw [hh, cd, ck3]; rfl
            rw [hv]
            clear hv
            go_enter Tryd.func20, Tryd.ntmps20
            go_wp2
            go_ret
            exact ⟨by first | rfl | (simp; done) | (simp [*]; done), (by with_reducible repeat (first | exact Below.refl _ _ | apply blA | apply pbN | apply bl1))⟩
        · have cd : decide (d ≤ 30) = false := decide_eq_false hd
          have hh : headX (n0 : Int) v 4 n b t = true := by simp [headX, txE, hT, hB, hN]
          have hv : okX (n0 : Int) v d ⟨4, n, b, t, l⟩ = false := by rw [okX_eq]; show (headX (n0 : Int) v 4 n b t && decide (d ≤ 30) && decide ((l.length : Int) = kidX 4) && okXs (n0 : Int) v (d + 1) l) = _; rw [hh, cd]; rfl
          rw [hv]
          clear hv
          go_enter Tryd.func20, Tryd.ntmps20
          go_wp2
          go_ret
          exact ⟨by first | rfl | (simp; done) | (simp [*]; done), (by with_reducible repeat (first | exact Below.refl _ _ | apply blA | apply pbN | apply bl1))⟩
set_option maxRecDepth 100000 in
set_option maxHeartbeats 8000000 in
theorem isX_none (A0 : Option Addr) (n0 c0 : Nat) (p v : Int) (A3 : Option Addr) (n3 c3 : Nat) (n b : Int) (t : ByteArray) (l : List S38) (A : Option Addr) (c : Nat) (d : Int) (w : World) (hn : n0 ≤ 9223372036854775807) (h0 : 0 ≤ d) (h31 : d ≤ 31) (hc : l.length ≤ c) (hl : l.length ≤ 9223372036854775807) (k : Int) (e0 : k ≠ 0) (e1 : k ≠ 1) (e2 : k ≠ 2) (e3 : k ≠ 3) (e4 : k ≠ 4) (hbox : BoxX n0 v A c d l w (((w.alloc (.cells #[.slice A0 n0 c0, .int .i64 p, .int .i64 v, .slice A3 n3 c3] 34)).alloc (.cells #[.int .i64 k, .int .i64 n, .int .i64 b, .string t, .slice A l.length c] 38)).alloc (.cells #[.int .i64 d] 3))) :
    Calls Tryd.prog 20 #[.agg #[.slice A0 n0 c0, .int .i64 p, .int .i64 v, .slice A3 n3 c3], .agg #[.int .i64 k, .int .i64 n, .int .i64 b, .string t, .slice A l.length c], .int .i64 d] w fun e w' => e = .returned (.bool (okX (n0 : Int) v d ⟨k, n, b, t, l⟩)) ∧ Below w.heap.size w w' := by
  have huIR := Tryd.underlying34
  have huIE := Tryd.underlying38
  have hcall := Zs0.mk hbox
  clear hbox
  have q0 : (k == 0) = false := beq_eq_false_iff_ne.mpr e0
  have q1 : (k == 1) = false := beq_eq_false_iff_ne.mpr e1
  have q2 : (k == 2) = false := beq_eq_false_iff_ne.mpr e2
  have q3 : (k == 3) = false := beq_eq_false_iff_ne.mpr e3
  have q4 : (k == 4) = false := beq_eq_false_iff_ne.mpr e4
  cases hT : (t.toList == []) with
  | false =>
    have hh : headX (n0 : Int) v k n b t = false := by simp [headX, txE, e0, e1, e2, e3, e4]
    have hv : okX (n0 : Int) v d ⟨k, n, b, t, l⟩ = false := by rw [okX_eq]; show (headX (n0 : Int) v k n b t && decide (d ≤ 30) && decide ((l.length : Int) = kidX k) && okXs (n0 : Int) v (d + 1) l) = _; rw [hh]; rfl
    rw [hv]
    clear hv
    go_enter Tryd.func20, Tryd.ntmps20
    go_wp2
    go_ret
    exact ⟨by first | rfl | (simp; done) | (simp [*]; done), (by with_reducible repeat (first | exact Below.refl _ _ | apply blA | apply pbN | apply bl1))⟩
  | true =>
    have hh : headX (n0 : Int) v k n b t = false := by simp [headX, txE, e0, e1, e2, e3, e4]
    have hv : okX (n0 : Int) v d ⟨k, n, b, t, l⟩ = false := by rw [okX_eq]; show (headX (n0 : Int) v k n b t && decide (d ≤ 30) && decide ((l.length : Int) = kidX k) && okXs (n0 : Int) v (d + 1) l) = _; rw [hh]; rfl
    rw [hv]
    clear hv
    go_enter Tryd.func20, Tryd.ntmps20
    go_wp2
    go_ret
    exact ⟨by first | rfl | (simp; done) | (simp [*]; done), (by with_reducible repeat (first | exact Below.refl _ _ | apply blA | apply pbN | apply bl1))⟩
theorem isX : ∀ m, IsX m
  | 0 => fun A0 n0 c0 p v A3 n3 c3 x A c d w h => absurd h (Nat.not_lt_zero _)
  | m + 1 => by
    intro A0 n0 c0 p v A3 n3 c3 x A c d w hx hn h0 h31 hr hc
    have hbox := boxX m (isX m) A0 n0 c0 p v A3 n3 c3 x A c d w hx hn h0 hr hc
    have hl : x.f4.length ≤ 9223372036854775807 := Kd.C_max hr
    obtain ⟨k, n, b, t, l⟩ := x
    dsimp only at hbox hc hl ⊢
    by_cases e0 : k = 0
    · subst e0
      exact isX_num A0 n0 c0 p v A3 n3 c3 n b t l A c d w hn h0 h31 hc hl hbox
    by_cases e1 : k = 1
    · subst e1
      exact isX_var A0 n0 c0 p v A3 n3 c3 n b t l A c d w hn h0 h31 hc hl hbox
    by_cases e2 : k = 2
    · subst e2
      exact isX_load A0 n0 c0 p v A3 n3 c3 n b t l A c d w hn h0 h31 hc hl hbox
    by_cases e3 : k = 3
    · subst e3
      exact isX_op A0 n0 c0 p v A3 n3 c3 n b t l A c d w hn h0 h31 hc hl hbox
    by_cases e4 : k = 4
    · subst e4
      exact isX_get A0 n0 c0 p v A3 n3 c3 n b t l A c d w hn h0 h31 hc hl hbox
    exact isX_none A0 n0 c0 p v A3 n3 c3 n b t l A c d w hn h0 h31 hc hl k e0 e1 e2 e3 e4 hbox
def impl_isExp.f (zs : List Int) (p v : Int) (body : List S61) (k n b : Int) (t : ByteArray) (l : List S38) (d : Int) : Option Bool := if 0 ≤ d ∧ d ≤ 31 then some (okX (zs.length : Int) v d ⟨k, n, b, t, l⟩) else none
theorem impl_isExp.calls (A0_0 : Option Addr) (c0_0 : Nat) (l0_0 : List Int) (a0_1 a0_2 : Int) (A0_3 : Option Addr) (c0_3 : Nat) (l0_3 : List S61) (a1_0 a1_1 a1_2 : Int) (a1_3 : ByteArray) (A1_4 : Option Addr) (c1_4 : Nat) (l1_4 : List S38) (a2 : Int) (r : Bool) (w : World) (hr0_0 : Kd.C (Kd.int .i64) w A0_0 l0_0.length l0_0) (hc0_0 : l0_0.length ≤ c0_0) (hr0_3 : Kd.C k61 w A0_3 l0_3.length l0_3) (hc0_3 : l0_3.length ≤ c0_3) (hr1_4 : Kd.C k38 w A1_4 l1_4.length l1_4) (hc1_4 : l1_4.length ≤ c1_4) (h : impl_isExp.f l0_0 a0_1 a0_2 l0_3 a1_0 a1_1 a1_2 a1_3 l1_4 a2 = some r) :
    Calls Tryd.prog 20 #[.agg #[.slice A0_0 l0_0.length c0_0, .int .i64 a0_1, .int .i64 a0_2, .slice A0_3 l0_3.length c0_3], .agg #[.int .i64 a1_0, .int .i64 a1_1, .int .i64 a1_2, .string a1_3, .slice A1_4 l1_4.length c1_4], .int .i64 a2] w fun e w' => e = .returned (.bool r) ∧ Below w.heap.size w w' := by
  unfold impl_isExp.f at h
  split at h
  · rename_i hd
    obtain rfl := Option.some.inj h
    exact isX _ A0_0 l0_0.length c0_0 a0_1 a0_2 A0_3 l0_3.length c0_3 ⟨a1_0, a1_1, a1_2, a1_3, l1_4⟩ A1_4 c1_4 a2 w (Nat.lt_succ_self _) (Kd.C_max hr0_0) hd.1 hd.2 hr1_4 hc1_4
  · cases h
end Go.Proofs.YtjcggilkfofiaaaDoor.P
