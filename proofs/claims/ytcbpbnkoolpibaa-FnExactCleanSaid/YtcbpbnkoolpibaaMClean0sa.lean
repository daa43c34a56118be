/- Functions of the program and of the reference as plain functions, and that the Go code comes to their answers; several texts in one. No conditions beyond what each theorem says. -/
import Derived.Test.YtcbpbnkoolpibaaMClean0b
import Derived.RegionTactic
import Derived.ChangeAlike
import Derived.Shelf.Abstract
set_option maxHeartbeats 2000000
set_option maxRecDepth 100000
set_option linter.unusedVariables false
set_option linter.unusedSimpArgs false
namespace Go.Proofs.Ytcbpbnkoolpibaa.P
open RowKit YtcbpbnkoolpibaaW.wA YtcbpbnkoolpibaaW.wB YtcbpbnkoolpibaaW.wC Aux
theorem anyN_hit (p : Int → Bool) (xs : List Int) (k : Nat) (h : k < xs.length) (hp : p (rd xs (k : Int)) = true) : xs.any p = true := by
  have hr : rd xs (k : Int) = xs[k] := by simp [rd, List.getD_eq_getElem?_getD, List.getElem?_eq_getElem h]
  rw [hr] at hp
  exact List.any_eq_true.2 ⟨_, List.getElem_mem h, hp⟩
theorem anyN_miss (p : Int → Bool) (xs : List Int) (hp : ∀ k : Nat, k < xs.length → p (rd xs (k : Int)) = false) : xs.any p = false := by
  refine List.any_eq_false.2 fun x hx => ?_
  obtain ⟨k, h, rfl⟩ := List.getElem_of_mem hx
  have := hp k h
  rw [show rd xs (k : Int) = xs[k] by simp [rd, List.getD_eq_getElem?_getD, List.getElem?_eq_getElem h]] at this
  simp [this]
theorem indexN_calls (g : Nat) (lb : Array Value) (p : Int → Bool) (eg : ∀ args w, (callFunc g args).run Try.prog w = .ok (.enter g args) w) (A : Option Addr) (c : Nat) (l : List Int) (w : World)
    (hr : Kd.C (Kd.int .i64) w A l.length l) (hc : l.length ≤ c)
    (hp : ∀ (W : World) (x : Int), Below w.heap.size w W → Calls Try.prog g (#[.int .i64 x] ++ lb) W fun e w' => e = .returned (.bool (p x)) ∧ Below w.heap.size w w') :
    Calls Try.prog 84 #[.slice A l.length c, .func (.func g) #[] lb] w fun e w' => (∃ r : Int, e = .returned (.int .i64 r) ∧ decide (r ≥ 0) = l.any p) ∧ Below w.heap.size w w' := by
  have hm : l.length ≤ 9223372036854775807 := Kd.C_max hr
  have HP := Zs0.mk hp
  have HR := Zs0.mk hr
  clear hp hr
  have HN := Zs0.mk hm
  clear hm
  go_enter Try.func84, Try.ntmps84
  go_wp2
  go_loopg [5, 8] l.length (fun gg _ s8 wr => ∃ x : Int, s8 = .int .i64 x ∧ Zs0 (Below w.heap.size w wr) ∧ Zs0 (∃ kk : Nat, (kk : Int) = x ∧ kk ≤ l.length ∧ l.length - kk ≤ gg ∧ ∀ j : Nat, j < kk → p (rd l (j : Int)) = false))
  case atStart => exact ⟨0, rfl, ⟨Below.refl _ w⟩, ⟨⟨0, rfl, Nat.zero_le _, by omega, fun j hj => absurd hj (Nat.not_lt_zero _)⟩⟩⟩
  case round =>
    obtain ⟨x, rfl, BW, A2⟩ := hrel
    by_cases hlt : x < (l.length : Int)
    · have c4b0 : decide (x < (l.length : Int)) = true := decide_eq_true hlt
      have p101 : 0 ≤ x := by obtain ⟨kk, h1, _⟩ := A2.out; omega
      obtain ⟨ad101, e101, hx101_0⟩ := Kd.at_int HR.out x p101 hlt
      cases e101
      replace hx101_0 := (BW.out.cell (World.block_lt_of_cell? w _ hx101_0)).trans hx101_0
      have hcall := Zs0.mk (HP.out wr (rd l x) BW.out)
      replace p101 := eq_true p101
      replace hlt := eq_true hlt
      cases hq : p (rd l x) with
      | true =>
        rw [hq] at hcall
        have HQ := Zs0.mk hq
        clear hq
        go_wp2_with (go_at_fn g; refine hcall.out.mono ?_; rintro e w' ⟨rfl, hb'⟩)
        go_ret
        obtain ⟨kk, rfl, h1, h2, h3⟩ := A2.out
        exact ⟨⟨_, rfl, by rw [anyN_hit p l kk (by have := of_eq_true hlt; omega) HQ.out]; exact decide_eq_true (by omega)⟩, hb'⟩
      | false =>
        rw [hq] at hcall
        have HQ := Zs0.mk hq
        clear hq
        go_wp2_with (go_at_fn g; refine hcall.out.mono ?_; rintro e w' ⟨rfl, hb'⟩)
        go_roundg (gk - 1)
        case measure => obtain ⟨kk, h0, h1, h2, h3⟩ := A2.out; have := of_eq_true hlt; omega
        case rel =>
          refine ⟨wrap64 (x + 1), by first | rfl | (simp; done), ⟨hb'⟩, ⟨?_⟩⟩
          obtain ⟨kk, rfl, h1, h2, h3⟩ := A2.out
          have h4 := of_eq_true hlt
          have h5 := HN.out
          refine ⟨kk + 1, by rw [wrap_ok (by omega) (by omega)]; omega, by omega, by omega, fun j hj => ?_⟩
          by_cases e : j = kk
          · subst e; exact HQ.out
          · exact h3 j (by omega)
    · have c4b0 : decide (x < (l.length : Int)) = false := decide_eq_false hlt
      have HL := Zs0.mk hlt
      clear hlt
      go_wp2
      go_ret
      refine ⟨⟨-1, rfl, ?_⟩, BW.out⟩
      obtain ⟨kk, rfl, h1, h2, h3⟩ := A2.out
      have h4 := HL.out
      rw [anyN_miss p l fun k hk => h3 k (by omega)]
      rfl
theorem containsN_calls (g : Nat) (lb : Array Value) (p : Int → Bool) (eg : ∀ args w, (callFunc g args).run Try.prog w = .ok (.enter g args) w) (A : Option Addr) (c : Nat) (l : List Int) (w : World)
    (hr : Kd.C (Kd.int .i64) w A l.length l) (hc : l.length ≤ c)
    (hp : ∀ (W : World) (x : Int), Below w.heap.size w W → Calls Try.prog g (#[.int .i64 x] ++ lb) W fun e w' => e = .returned (.bool (p x)) ∧ Below w.heap.size w w') :
    Calls Try.prog 71 #[.slice A l.length c, .func (.func g) #[] lb] w fun e w' => e = .returned (.bool (l.any p)) ∧ Below w.heap.size w w' := by
  have HI := Zs0.mk (indexN_calls g lb p eg A c l w hr hc hp)
  clear hp hr eg
  go_enter Try.func71, Try.ntmps71
  go_wp2_with (go_at_call 84; refine HI.out.mono ?_; rintro e w' ⟨⟨r, rfl, hr⟩, hb'⟩)
  go_ret
  exact ⟨rfl, hb'⟩
theorem isProgram1_calls (n : Int) (w : World) : Calls Try.prog 72 #[.int .i64 n] w fun e w' => e = .returned (.bool (!inR n 1 16)) ∧ w = w' := by
  go_enter Try.func72, Try.ntmps72
  go_wp2_with (go_at_call 53; refine (in_calls2 _ _ _ _).mono ?_; rintro e w' ⟨rfl, rfl⟩)
  go_ret
  exact ⟨rfl, rfl⟩
theorem eg121 (args : Array Value) (w : World) : (callFunc 72 args).run Try.prog w = .ok (.enter 72 args) w := enters_of Try.func72 (by kernel_rfl) rfl _ _
theorem sizes_calls (zs : List Int) (kB : Bool) (hK : (zs.any fun n => !inR n 1 16) = kB) (A : Option Addr) (c : Nat) (w : World) (hr : Kd.C (Kd.int .i64) w A zs.length zs) (hc : zs.length ≤ c) :
    Calls Try.prog 71 #[.slice A zs.length c, .func (.func 72) #[] #[]] w fun e w' => e = .returned (.bool kB) ∧ Below w.heap.size w w' := by
  subst hK
  exact containsN_calls _ _ _ eg121 A c zs w hr hc fun W x hb => (isProgram1_calls x W).mono fun e w' h => ⟨h.1, h.2 ▸ hb⟩
theorem areNil_calls (A0 : Option Addr) (n0 c0 : Nat) (p v : Int) (w : World) :
    Calls Try.prog 73 #[.agg #[.slice A0 n0 c0, .int .i64 p, .int .i64 v, .slice none 0 0], .slice none 0 0, .int .i64 0] w fun e w' => e = .returned (.bool true) ∧ Below w.heap.size w w' := by
  have hu100 := Try.underlying73
  go_enter Try.func73, Try.ntmps73
  go_wp2
  go_loopg [25] 1 (fun gg s25 wr => s25 = .int .i64 0 ∧ Zs0 (Below w.heap.size w wr))
  case atStart => exact ⟨rfl, ⟨by repeat (first | exact Below.refl _ _ | apply blA)⟩⟩
  case round =>
    obtain ⟨rfl, HB⟩ := hrel
    go_wp2
    go_ret
    exact ⟨rfl, HB.out⟩
attribute [local go_sem] max2_int min2_int max_two min_two
def progB (zs : List Int) (p v : Int) : Bool := inR (zs.length : Int) 1 4 && (!(zs.any fun n => !inR n 1 16) && (inR p 0 (if v < 6 then v else 6) && decide (v ≤ 20)))
section
variable (zs : List Int) (A0 : Option Addr) (c0 : Nat) (p v : Int) (w : World)
theorem prog_R (hR : inR (zs.length : Int) 1 4 = false) (hr : Zs0 (Kd.C (Kd.int .i64) w A0 zs.length zs)) (hc : zs.length ≤ c0) (hn : zs.length ≤ 9223372036854775807) :
    Calls Try.prog 52 #[.agg #[.slice A0 zs.length c0, .int .i64 p, .int .i64 v, .slice none 0 0]] w fun e w' => e = .returned (.bool false) ∧ Below w.heap.size w w' := by
  have hu100 := Try.underlying73
  have HB := Zs0.mk (blA (Below.refl w.heap.size w) (.cells #[.slice A0 zs.length c0, .int .i64 p, .int .i64 v, .slice none 0 0] 73))
  go_enter Try.func52, Try.ntmps52
  go_wp2_with (first | (go_at_call 53; refine (in_calls2 _ _ _ _).mono ?_; rintro e w' ⟨rfl, rfl⟩) | (go_at_call 71; refine (sizes_calls zs _ rfl A0 c0 _ (Kd.cA1 hr.out _) hc).mono ?_; rintro e w' ⟨rfl, hb⟩; have n0_ := Zs0.mk (blT HB.out hb); clear HB; have HB := n0_; clear n0_) | (go_at_call 73; refine (areNil_calls A0 zs.length c0 p v _).mono ?_; rintro e w' ⟨rfl, hb⟩; have n0_ := Zs0.mk (blT HB.out hb); clear HB; have HB := n0_; clear n0_))
  all_goals (go_ret; exact ⟨rfl, HB.out⟩)
theorem prog_K (hR : inR (zs.length : Int) 1 4 = true) (hK : (zs.any fun n => !inR n 1 16) = true) (hr : Zs0 (Kd.C (Kd.int .i64) w A0 zs.length zs)) (hc : zs.length ≤ c0) (hn : zs.length ≤ 9223372036854775807) :
    Calls Try.prog 52 #[.agg #[.slice A0 zs.length c0, .int .i64 p, .int .i64 v, .slice none 0 0]] w fun e w' => e = .returned (.bool false) ∧ Below w.heap.size w w' := by
  have hu100 := Try.underlying73
  have HB := Zs0.mk (blA (Below.refl w.heap.size w) (.cells #[.slice A0 zs.length c0, .int .i64 p, .int .i64 v, .slice none 0 0] 73))
  go_enter Try.func52, Try.ntmps52
  go_wp2_with (first | (go_at_call 53; refine (in_calls2 _ _ _ _).mono ?_; rintro e w' ⟨rfl, rfl⟩) | (go_at_call 71; refine (sizes_calls zs _ hK A0 c0 _ (Kd.cA1 hr.out _) hc).mono ?_; rintro e w' ⟨rfl, hb⟩; have g0 := (hb.cell (p := ⟨w.heap.size, 0, none⟩) (by simp)).trans (show _ = some (.slice A0 zs.length c0) by simp); have g1 := (hb.cell (p := ⟨w.heap.size, 1, none⟩) (by simp)).trans (show _ = some (.int .i64 p) by simp); have g2 := (hb.cell (p := ⟨w.heap.size, 2, none⟩) (by simp)).trans (show _ = some (.int .i64 v) by simp); have g3 := (hb.cell (p := ⟨w.heap.size, 3, none⟩) (by simp)).trans (show _ = some (.slice none 0 0) by simp); have n0_ := Zs0.mk (blT HB.out hb); clear HB; have HB := n0_; clear n0_) | (go_at_call 73; refine (areNil_calls A0 zs.length c0 p v _).mono ?_; rintro e w' ⟨rfl, hb⟩; have n0_ := Zs0.mk (blT HB.out hb); clear HB; have HB := n0_; clear n0_))
  all_goals (go_ret; exact ⟨rfl, HB.out⟩)
theorem prog_P (hR : inR (zs.length : Int) 1 4 = true) (hK : (zs.any fun n => !inR n 1 16) = false) (hP : inR p 0 (if v < 6 then v else 6) = false) (hr : Zs0 (Kd.C (Kd.int .i64) w A0 zs.length zs)) (hc : zs.length ≤ c0) (hn : zs.length ≤ 9223372036854775807) :
    Calls Try.prog 52 #[.agg #[.slice A0 zs.length c0, .int .i64 p, .int .i64 v, .slice none 0 0]] w fun e w' => e = .returned (.bool false) ∧ Below w.heap.size w w' := by
  have hu100 := Try.underlying73
  have HB := Zs0.mk (blA (Below.refl w.heap.size w) (.cells #[.slice A0 zs.length c0, .int .i64 p, .int .i64 v, .slice none 0 0] 73))
  go_enter Try.func52, Try.ntmps52
  go_wp2_with (first | (go_at_call 53; refine (in_calls2 _ _ _ _).mono ?_; rintro e w' ⟨rfl, rfl⟩) | (go_at_call 71; refine (sizes_calls zs _ hK A0 c0 _ (Kd.cA1 hr.out _) hc).mono ?_; rintro e w' ⟨rfl, hb⟩; have g0 := (hb.cell (p := ⟨w.heap.size, 0, none⟩) (by simp)).trans (show _ = some (.slice A0 zs.length c0) by simp); have g1 := (hb.cell (p := ⟨w.heap.size, 1, none⟩) (by simp)).trans (show _ = some (.int .i64 p) by simp); have g2 := (hb.cell (p := ⟨w.heap.size, 2, none⟩) (by simp)).trans (show _ = some (.int .i64 v) by simp); have g3 := (hb.cell (p := ⟨w.heap.size, 3, none⟩) (by simp)).trans (show _ = some (.slice none 0 0) by simp); have n0_ := Zs0.mk (blT HB.out hb); clear HB; have HB := n0_; clear n0_) | (go_at_call 73; refine (areNil_calls A0 zs.length c0 p v _).mono ?_; rintro e w' ⟨rfl, hb⟩; have n0_ := Zs0.mk (blT HB.out hb); clear HB; have HB := n0_; clear n0_))
  all_goals (go_ret; exact ⟨rfl, HB.out⟩)
theorem prog_V (hR : inR (zs.length : Int) 1 4 = true) (hK : (zs.any fun n => !inR n 1 16) = false) (hP : inR p 0 (if v < 6 then v else 6) = true) (hV : decide (v ≤ 20) = false) (hr : Zs0 (Kd.C (Kd.int .i64) w A0 zs.length zs)) (hc : zs.length ≤ c0) (hn : zs.length ≤ 9223372036854775807) :
    Calls Try.prog 52 #[.agg #[.slice A0 zs.length c0, .int .i64 p, .int .i64 v, .slice none 0 0]] w fun e w' => e = .returned (.bool false) ∧ Below w.heap.size w w' := by
  have hu100 := Try.underlying73
  have HB := Zs0.mk (blA (Below.refl w.heap.size w) (.cells #[.slice A0 zs.length c0, .int .i64 p, .int .i64 v, .slice none 0 0] 73))
  go_enter Try.func52, Try.ntmps52
  go_wp2_with (first | (go_at_call 53; refine (in_calls2 _ _ _ _).mono ?_; rintro e w' ⟨rfl, rfl⟩) | (go_at_call 71; refine (sizes_calls zs _ hK A0 c0 _ (Kd.cA1 hr.out _) hc).mono ?_; rintro e w' ⟨rfl, hb⟩; have g0 := (hb.cell (p := ⟨w.heap.size, 0, none⟩) (by simp)).trans (show _ = some (.slice A0 zs.length c0) by simp); have g1 := (hb.cell (p := ⟨w.heap.size, 1, none⟩) (by simp)).trans (show _ = some (.int .i64 p) by simp); have g2 := (hb.cell (p := ⟨w.heap.size, 2, none⟩) (by simp)).trans (show _ = some (.int .i64 v) by simp); have g3 := (hb.cell (p := ⟨w.heap.size, 3, none⟩) (by simp)).trans (show _ = some (.slice none 0 0) by simp); have n0_ := Zs0.mk (blT HB.out hb); clear HB; have HB := n0_; clear n0_) | (go_at_call 73; refine (areNil_calls A0 zs.length c0 p v _).mono ?_; rintro e w' ⟨rfl, hb⟩; have n0_ := Zs0.mk (blT HB.out hb); clear HB; have HB := n0_; clear n0_))
  all_goals (go_ret; exact ⟨rfl, HB.out⟩)
theorem prog_yes (hR : inR (zs.length : Int) 1 4 = true) (hK : (zs.any fun n => !inR n 1 16) = false) (hP : inR p 0 (if v < 6 then v else 6) = true) (hV : decide (v ≤ 20) = true) (hr : Zs0 (Kd.C (Kd.int .i64) w A0 zs.length zs)) (hc : zs.length ≤ c0) (hn : zs.length ≤ 9223372036854775807) :
    Calls Try.prog 52 #[.agg #[.slice A0 zs.length c0, .int .i64 p, .int .i64 v, .slice none 0 0]] w fun e w' => e = .returned (.bool true) ∧ Below w.heap.size w w' := by
  have hu100 := Try.underlying73
  have HB := Zs0.mk (blA (Below.refl w.heap.size w) (.cells #[.slice A0 zs.length c0, .int .i64 p, .int .i64 v, .slice none 0 0] 73))
  go_enter Try.func52, Try.ntmps52
  go_wp2_with (first | (go_at_call 53; refine (in_calls2 _ _ _ _).mono ?_; rintro e w' ⟨rfl, rfl⟩) | (go_at_call 71; refine (sizes_calls zs _ hK A0 c0 _ (Kd.cA1 hr.out _) hc).mono ?_; rintro e w' ⟨rfl, hb⟩; have g0 := (hb.cell (p := ⟨w.heap.size, 0, none⟩) (by simp)).trans (show _ = some (.slice A0 zs.length c0) by simp); have g1 := (hb.cell (p := ⟨w.heap.size, 1, none⟩) (by simp)).trans (show _ = some (.int .i64 p) by simp); have g2 := (hb.cell (p := ⟨w.heap.size, 2, none⟩) (by simp)).trans (show _ = some (.int .i64 v) by simp); have g3 := (hb.cell (p := ⟨w.heap.size, 3, none⟩) (by simp)).trans (show _ = some (.slice none 0 0) by simp); have n0_ := Zs0.mk (blT HB.out hb); clear HB; have HB := n0_; clear n0_) | (go_at_call 73; refine (areNil_calls A0 zs.length c0 p v _).mono ?_; rintro e w' ⟨rfl, hb⟩; have n0_ := Zs0.mk (blT HB.out hb); clear HB; have HB := n0_; clear n0_))
  all_goals (go_ret; exact ⟨rfl, HB.out⟩)
end
theorem isProgram_calls (zs : List Int) (A0 : Option Addr) (c0 : Nat) (p v : Int) (w : World) (hr : Kd.C (Kd.int .i64) w A0 zs.length zs) (hc : zs.length ≤ c0) :
    Calls Try.prog 52 #[.agg #[.slice A0 zs.length c0, .int .i64 p, .int .i64 v, .slice none 0 0]] w fun e w' => e = .returned (.bool (progB zs p v)) ∧ Below w.heap.size w w' := by
  have hn := Kd.C_max hr
  cases hR : inR (zs.length : Int) 1 4 with
  | false =>
    rw [show progB zs p v = false by simp [progB, hR]]
    exact prog_R zs A0 c0 p v w hR ⟨hr⟩ hc hn
  | true =>
    cases hK : (zs.any fun n => !inR n 1 16) with
    | true =>
      rw [show progB zs p v = false by unfold progB; rw [hR, hK]; rfl]
      exact prog_K zs A0 c0 p v w hR hK ⟨hr⟩ hc hn
    | false =>
      cases hP : inR p 0 (if v < 6 then v else 6) with
      | false =>
        rw [show progB zs p v = false by unfold progB; rw [hR, hK, hP]; rfl]
        exact prog_P zs A0 c0 p v w hR hK hP ⟨hr⟩ hc hn
      | true =>
        cases hV : decide (v ≤ 20) with
        | false =>
          rw [show progB zs p v = false by unfold progB; rw [hR, hK, hP, hV]; rfl]
          exact prog_V zs A0 c0 p v w hR hK hP hV ⟨hr⟩ hc hn
        | true =>
          rw [show progB zs p v = true by unfold progB; rw [hR, hK, hP, hV]; rfl]
          exact prog_yes zs A0 c0 p v w hR hK hP hV ⟨hr⟩ hc hn
end Go.Proofs.Ytcbpbnkoolpibaa.P
namespace Go.Proofs.Ytcbpbnkoolpibaa.P
open RowKit YtcbpbnkoolpibaaW.wA YtcbpbnkoolpibaaW.wB YtcbpbnkoolpibaaW.wC
def impl_isProgram.f (l0 : List Int) (a1 a2 : Int) : Option Bool := some (progB l0 a1 a2)
theorem impl_isProgram.calls (A0 : Option Addr) (c0 : Nat) (l0 : List Int) (a1 a2 : Int) (r : Bool) (w : World) (hr : Kd.C (Kd.int .i64) w A0 l0.length l0) (hc : l0.length ≤ c0) (h : impl_isProgram.f l0 a1 a2 = some r) :
    Calls Try.prog 52 #[.agg #[.slice A0 l0.length c0, .int .i64 a1, .int .i64 a2, .slice none 0 0]] w fun e w' => e = .returned (.bool r) ∧ Below w.heap.size w w' := by
  obtain rfl := Option.some.inj h
  exact isProgram_calls l0 A0 c0 a1 a2 w hr hc
end Go.Proofs.Ytcbpbnkoolpibaa.P
