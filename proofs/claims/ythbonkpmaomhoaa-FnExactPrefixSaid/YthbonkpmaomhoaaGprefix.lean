/- The contracts of spec.Prefix and impl.Prefix, for every two slices of numbers. No conditions. -/
import Derived.Test.YthbonkpmaomhoaaF0
import Derived.Test.YthbonkpmaomhoaaF61
import Derived.Test.YthbonkpmaomhoaaF62
namespace Go.Proofs.Ythbonkpmaomhoaa.P
open Go.RowKit Go.Proofs.YthbonkpmaomhoaaW.PrintWords Go.Proofs.YthbonkpmaomhoaaW.PrintLast Go.Proofs.YthbonkpmaomhoaaW.PrintMore
set_option linter.unusedVariables false
set_option linter.unusedSimpArgs false
theorem spec_l02Ints_len {n : Nat} (k : Nat) (A0 : Option Addr) (c0 : Nat) (l0 : List Int) (A1 : Option Addr) (c1 : Nat) (l1 : List Int) (r : Bool) (w : World) (hn : n = l1.length) (hr0 : Kd.C (Kd.int .i64) w A0 l0.length l0) (hc0 : l0.length ≤ c0) (hr1 : Kd.C (Kd.int .i64) w A1 l1.length l1) (hc1 : l1.length ≤ c1) (h : spec_l02Ints.f k l0 l1 = some r) :
    Calls Try.prog 61 #[.slice A0 l0.length c0, .slice A1 n c1] w fun e w' => e = .returned (.bool r) ∧ Drawn0 w w' := by
  subst hn
  exact spec_l02Ints.calls k A0 c0 l0 A1 c1 l1 r w hr0 hc0 hr1 hc1 h
theorem slices_Equal_len {n : Nat} (k : Nat) (A0 : Option Addr) (c0 : Nat) (l0 : List Int) (A1 : Option Addr) (c1 : Nat) (l1 : List Int) (r : Bool) (w : World) (hn : n = l1.length) (hr0 : Kd.C (Kd.int .i64) w A0 l0.length l0) (hc0 : l0.length ≤ c0) (hr1 : Kd.C (Kd.int .i64) w A1 l1.length l1) (hc1 : l1.length ≤ c1) (h : slices_Equal_int_int.f k l0 l1 = some r) :
    Calls Try.prog 62 #[.slice A0 l0.length c0, .slice A1 n c1] w fun e w' => e = .returned (.bool r) ∧ Drawn0 w w' := by
  subst hn
  exact slices_Equal_int_int.calls k A0 c0 l0 A1 c1 l1 r w hr0 hc0 hr1 hc1 h
/-- A row's beginning is read as the row is. -/
theorem C_take {w : World} {A : Option Addr} {l : List Int} (h : Kd.C (Kd.int .i64) w A l.length l) (m : Nat) (hm : m ≤ l.length) : Kd.C (Kd.int .i64) w A (l.take m).length (l.take m) := by
  have e : (l.take m).length = m := by rw [List.length_take]; omega
  rw [e]
  exact Kd.C_of_reads (d := (0 : Int)) (h1 := fun _ => rfl) ((Kd.reads_of_C (d := (0 : Int)) h).take_ m hm)
def spec_Prefix.f (k : Nat) (l0 : List Int) (l1 : List Int) : Option (Bool) := if l0.length ≤ l1.length then spec_l02Ints.f k l0 (l1.take l0.length) else some false
def impl_Prefix.f (k : Nat) (l0 : List Int) (l1 : List Int) : Option (Bool) := if l0.length ≤ l1.length then slices_Equal_int_int.f k l0 (l1.take l0.length) else some false
theorem spec_Prefix.mono : ∀ a0 a1 k, LeO (spec_Prefix.f k a0 a1) (spec_Prefix.f (k + 1) a0 a1) := fun a0 a1 k => LeO.ite (spec_l02Ints.mono _ _ _) (LeO.refl _)
theorem impl_Prefix.mono : ∀ a0 a1 k, LeO (impl_Prefix.f k a0 a1) (impl_Prefix.f (k + 1) a0 a1) := fun a0 a1 k => LeO.ite (slices_Equal_int_int.mono _ _ _) (LeO.refl _)
theorem spec_Prefix.calls (k : Nat) (A0 : Option Addr) (c0 : Nat) (l0 : List Int) (A1 : Option Addr) (c1 : Nat) (l1 : List Int) (r : Bool) (w : World) (hr0 : Kd.C (Kd.int .i64) w A0 l0.length l0) (hc0 : l0.length ≤ c0) (hr1 : Kd.C (Kd.int .i64) w A1 l1.length l1) (hc1 : l1.length ≤ c1) (h : spec_Prefix.f k l0 l1 = some r) :
    Calls Try.prog 28 #[.slice A0 l0.length c0, .slice A1 l1.length c1] w fun e w' => e = .returned (.bool r) ∧ Drawn0 w w' := by
  have HR0 := Aside0.mk hr0
  have HR1 := Aside0.mk hr1
  have HC0 := Aside0.mk hc0
  unfold spec_Prefix.f at h
  by_cases hle : l0.length ≤ l1.length
  · rw [if_pos hle] at h
    have H := Aside0.mk h
    have d0 : decide (l0.length ≤ l1.length) = true := decide_eq_true hle
    have d1 : (l0.length : Int) ≤ (l1.length : Int) := by omega
    have d2 : l0.length ≤ c1 := by omega
    clear h hr0 hr1 hc0
    go_enter Try.func28, Try.ntmps28
    go_wp2_with (go_at_call 61; refine (spec_l02Ints_len k _ _ l0 _ _ (l1.take l0.length) r _ ?h1 HR0.out HC0.out (C_take HR1.out _ hle) ?h2 H.out).mono ?_; (case h1 => rw [List.length_take]; omega); (case h2 => rw [List.length_take]; omega); rintro e w' ⟨rfl, ⟨nd, rfl⟩⟩)
    go_ret
    exact ⟨rfl, by repeat (first | exact Drawn0.refl _ | apply Drawn0.step)⟩
  · rw [if_neg hle] at h
    obtain rfl := Option.some.inj h
    have d0 : decide (l0.length ≤ l1.length) = false := decide_eq_false hle
    clear h hr0 hr1 hc0
    go_enter Try.func28, Try.ntmps28
    go_wp2
    go_ret
    exact ⟨rfl, by repeat (first | exact Drawn0.refl _ | apply Drawn0.step)⟩
theorem impl_Prefix.calls (k : Nat) (A0 : Option Addr) (c0 : Nat) (l0 : List Int) (A1 : Option Addr) (c1 : Nat) (l1 : List Int) (r : Bool) (w : World) (hr0 : Kd.C (Kd.int .i64) w A0 l0.length l0) (hc0 : l0.length ≤ c0) (hr1 : Kd.C (Kd.int .i64) w A1 l1.length l1) (hc1 : l1.length ≤ c1) (h : impl_Prefix.f k l0 l1 = some r) :
    Calls Try.prog 30 #[.slice A0 l0.length c0, .slice A1 l1.length c1] w fun e w' => e = .returned (.bool r) ∧ Drawn0 w w' := by
  have HR0 := Aside0.mk hr0
  have HR1 := Aside0.mk hr1
  have HC0 := Aside0.mk hc0
  unfold impl_Prefix.f at h
  by_cases hle : l0.length ≤ l1.length
  · rw [if_pos hle] at h
    have H := Aside0.mk h
    have d0 : decide (l0.length ≤ l1.length) = true := decide_eq_true hle
    have d1 : (l0.length : Int) ≤ (l1.length : Int) := by omega
    have d2 : l0.length ≤ c1 := by omega
    clear h hr0 hr1 hc0
    go_enter Try.func30, Try.ntmps30
    go_wp2_with (go_at_call 62; refine (slices_Equal_len k _ _ l0 _ _ (l1.take l0.length) r _ ?h1 HR0.out HC0.out (C_take HR1.out _ hle) ?h2 H.out).mono ?_; (case h1 => rw [List.length_take]; omega); (case h2 => rw [List.length_take]; omega); rintro e w' ⟨rfl, ⟨nd, rfl⟩⟩)
    go_ret
    exact ⟨rfl, by repeat (first | exact Drawn0.refl _ | apply Drawn0.step)⟩
  · rw [if_neg hle] at h
    obtain rfl := Option.some.inj h
    have d0 : decide (l0.length ≤ l1.length) = false := decide_eq_false hle
    clear h hr0 hr1 hc0
    go_enter Try.func30, Try.ntmps30
    go_wp2
    go_ret
    exact ⟨rfl, by repeat (first | exact Drawn0.refl _ | apply Drawn0.step)⟩
end Go.Proofs.Ythbonkpmaomhoaa.P
