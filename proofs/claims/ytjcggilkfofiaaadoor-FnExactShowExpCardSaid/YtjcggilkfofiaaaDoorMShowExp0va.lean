/- Functions of the program and of the reference as plain functions, and that the Go code comes to their answers; several texts in one. No conditions beyond what each theorem says. -/
import Derived.Test.YtjcggilkfofiaaaDoorMShowExp0a
import Derived.Test.YtjcggilkfofiaaaDoorMShowExp0wa
import Derived.Lib.SmallJoins
import Derived.Lib.LaidTab
import Derived.Lib.AppendIntMem
import Derived.Test.YtjcggilkfofiaaaDoorMShowExp0c
namespace Go.Proofs.YtjcggilkfofiaaaDoor.P
open Go.RowKit
/-- The table of powers of ten lies as_ it was laid. -/
def Tab (w : World) : Prop := Lib.TabIs Tryd.prog w "internal/strconv.uint64pow10" .u64 Lib.pow10Tab
theorem tabNo : Tryd.prog.globalNamed "internal/strconv.uint64pow10" = some 0 := by kernel_rfl
theorem tabB {w w' : World} (h : Tab w) (hb : Below w.heap.size w w') : Tab w' := Joins.tab_stays tabNo h hb (Nat.le_refl _)
def strconv_Itoa_35.f (a0 : Int) : Option ByteArray := if -9223372036854775808 ≤ a0 ∧ a0 ≤ 9223372036854775807 then some ⟨(Lib.itoa a0).toArray⟩ else none
theorem strconv_Itoa_35.calls (a0 : Int) (r : ByteArray) (w : World) (h : strconv_Itoa_35.f a0 = some r) (ht : Tab w) :
    Calls Tryd.prog 35 #[.int .i64 a0] w fun e w' => e = .returned (.string r) ∧ Below w.heap.size w w' := by
  unfold strconv_Itoa_35.f at h
  split at h
  · rename_i hn
    obtain rfl := Option.some.inj h
    refine (Tryd.strconv_Itoa a0 hn.1 hn.2 w ht).mono fun e w' hw => ?_
    obtain ⟨he, k, os, e2⟩ := hw
    subst e2
    exact ⟨he, Lib.below_grow _ w (Nat.le_refl _) k os⟩
  · cases h
end Go.Proofs.YtjcggilkfofiaaaDoor.P
namespace Go.Proofs.YtjcggilkfofiaaaDoor.P
open Go.RowKit Go.Proofs.YtjcggilkfofiaaaDoorW.PrintWords Go.Proofs.YtjcggilkfofiaaaDoorW.PrintLast Go.Proofs.YtjcggilkfofiaaaDoorW.PrintMore
attribute [local go_sem] max2_int min2_int max_two min_two max_three min_three max_four min_four   -- for this text's walks alone
set_option linter.unusedVariables false
set_option linter.unusedSimpArgs false

/-! ### impl_place: function 36 -/
def impl_place.f (a0 : Int) (a1 : Int) : Option (ByteArray) := (strconv_Itoa_35.f a0).bind fun t101 => (if 1 + t101.size ≤ 9223372036854775807 then (if a1 ≥ 0 then ((strconv_Itoa_35.f a1).bind fun t102 => (if 2 + t102.size ≤ 9223372036854775807 then (if ((⟨#[114]⟩ : ByteArray) ++ t101).size + ((⟨#[43, 118]⟩ : ByteArray) ++ t102).size ≤ 9223372036854775807 then (some (((⟨#[114]⟩ : ByteArray) ++ t101) ++ ((⟨#[43, 118]⟩ : ByteArray) ++ t102))) else (none)) else (none))) else (some ((⟨#[114]⟩ : ByteArray) ++ t101))) else (none))
set_option maxHeartbeats 8000000 in
set_option maxRecDepth 100000 in
theorem impl_place.calls (a0 : Int) (a1 : Int) (r : ByteArray) (w : World) (h : impl_place.f a0 a1 = some r) (ht : Tab w) :
    Calls Tryd.prog 36 #[.int .i64 a0, .int .i64 a1] w fun e w' => e = .returned (.string r) ∧ Below w.heap.size w w' := by
  have HB := Zs0.mk (Below.refl w.heap.size w)
  have HT := Zs0.mk ht
  clear ht
  have H : ((strconv_Itoa_35.f a0).bind fun t101 => (if 1 + t101.size ≤ 9223372036854775807 then (if a1 ≥ 0 then ((strconv_Itoa_35.f a1).bind fun t102 => (if 2 + t102.size ≤ 9223372036854775807 then (if ((⟨#[114]⟩ : ByteArray) ++ t101).size + ((⟨#[43, 118]⟩ : ByteArray) ++ t102).size ≤ 9223372036854775807 then (some (((⟨#[114]⟩ : ByteArray) ++ t101) ++ ((⟨#[43, 118]⟩ : ByteArray) ++ t102))) else (none)) else (none))) else (some ((⟨#[114]⟩ : ByteArray) ++ t101))) else (none))) = some r := h
  clear h
  replace H := Option.bind_eq_some_iff.mp H
  obtain ⟨t101, A30, H⟩ := H
  replace H : (if 1 + t101.size ≤ 9223372036854775807 then (if a1 ≥ 0 then ((strconv_Itoa_35.f a1).bind fun t102 => (if 2 + t102.size ≤ 9223372036854775807 then (if ((⟨#[114]⟩ : ByteArray) ++ t101).size + ((⟨#[43, 118]⟩ : ByteArray) ++ t102).size ≤ 9223372036854775807 then (some (((⟨#[114]⟩ : ByteArray) ++ t101) ++ ((⟨#[43, 118]⟩ : ByteArray) ++ t102))) else (none)) else (none))) else (some ((⟨#[114]⟩ : ByteArray) ++ t101))) else (none)) = some r := H
  have A3 := Zs0.mk A30
  clear A30
  have c4 := ipos H
  rw [if_pos c4] at H
  have c4b0 := eq_true c4
  have c4b1 := decide_eq_true c4
  try have c4b2 := eq_false (Nat.not_lt.2 c4)
  by_cases c5 : a1 ≥ 0
  · rw [if_pos c5] at H
    have c5b0 : decide (0 ≤ a1) = true := decide_eq_true c5
    clear c5
    replace H := Option.bind_eq_some_iff.mp H
    obtain ⟨t102, A60, H⟩ := H
    replace H : (if 2 + t102.size ≤ 9223372036854775807 then (if ((⟨#[114]⟩ : ByteArray) ++ t101).size + ((⟨#[43, 118]⟩ : ByteArray) ++ t102).size ≤ 9223372036854775807 then (some (((⟨#[114]⟩ : ByteArray) ++ t101) ++ ((⟨#[43, 118]⟩ : ByteArray) ++ t102))) else (none)) else (none)) = some r := H
    have A6 := Zs0.mk A60
    clear A60
    have c7 := ipos H
    rw [if_pos c7] at H
    have c7b0 := eq_true c7
    have c7b1 := decide_eq_true c7
    try have c7b2 := eq_false (Nat.not_lt.2 c7)
    have c8 := ipos H
    rw [if_pos c8] at H
    have c8b0 := eq_true c8
    have c8b1 := decide_eq_true c8
    try have c8b2 := eq_false (Nat.not_lt.2 c8)
    have c8n0 : 1 + t101.size + (2 + t102.size) ≤ 9223372036854775807 := by have h_ := c8; simp only [ByteArray.size_append] at h_; exact h_
    have c8n1 := eq_true c8n0
    have c8n2 := eq_false (Nat.not_lt.2 c8n0)
    obtain rfl := Option.some.inj H
    go_enter Tryd.func36, Tryd.ntmps36
    go_wp2_with (first | ((with_reducible refine gtC (f := 35) rfl ?_); refine goesL_ (some 7) rfl rfl Tryd.func35 (by kernel_rfl) rfl #[.int .i64 a0] rfl (by (try simp only [List.map_toArray, List.map_cons, List.map_nil]); first | done | rfl | (simp only [List.length_drop, List.length_take]; rfl)) ?_; (with_reducible refine (strconv_Itoa_35.calls a0 t101 _ A3.out (tabB HT.out (by repeat (first | (with_reducible first | exact HB.out | apply blA | apply pbN | apply bl1) | exact HB.out)))).mono ?_); rintro e w9 ⟨rfl, hb⟩; refine ⟨_, rfl, ?_⟩; have n0_ := Zs0.mk (blT (by repeat (first | (with_reducible first | exact HB.out | apply blA | apply pbN | apply bl1) | exact HB.out)) hb); clear HB; have HB := n0_; clear n0_; (try clear hb); (try clear hb2); (try clear hk); (try clear hi)) | ((with_reducible refine gtC (f := 35) rfl ?_); refine goesL_ (some 13) rfl rfl Tryd.func35 (by kernel_rfl) rfl #[.int .i64 a1] rfl (by (try simp only [List.map_toArray, List.map_cons, List.map_nil]); first | done | rfl | (simp only [List.length_drop, List.length_take]; rfl)) ?_; (with_reducible refine (strconv_Itoa_35.calls a1 t102 _ A6.out (tabB HT.out (by repeat (first | (with_reducible first | exact HB.out | apply blA | apply pbN | apply bl1) | exact HB.out)))).mono ?_); rintro e w10 ⟨rfl, hb⟩; refine ⟨_, rfl, ?_⟩; have n0_ := Zs0.mk (blT (by repeat (first | (with_reducible first | exact HB.out | apply blA | apply pbN | apply bl1) | exact HB.out)) hb); clear HB; have HB := n0_; clear n0_; (try clear hb); (try clear hb2); (try clear hk); (try clear hi)))
    go_ret
    exact ⟨by first | rfl | (simp [eWn, eWs] <;> rfl) | (simp [*, eWn, eWs] <;> rfl), by repeat (first | (with_reducible first | exact HB.out | apply blA | apply pbN | apply bl1) | exact HB.out)⟩
  · rw [if_neg c5] at H
    have c5b0 : decide (0 ≤ a1) = false := decide_eq_false c5
    clear c5
    obtain rfl := Option.some.inj H
    go_enter Tryd.func36, Tryd.ntmps36
    go_wp2_with (first | ((with_reducible refine gtC (f := 35) rfl ?_); refine goesL_ (some 7) rfl rfl Tryd.func35 (by kernel_rfl) rfl #[.int .i64 a0] rfl (by (try simp only [List.map_toArray, List.map_cons, List.map_nil]); first | done | rfl | (simp only [List.length_drop, List.length_take]; rfl)) ?_; (with_reducible refine (strconv_Itoa_35.calls a0 t101 _ A3.out (tabB HT.out (by repeat (first | (with_reducible first | exact HB.out | apply blA | apply pbN | apply bl1) | exact HB.out)))).mono ?_); rintro e w11 ⟨rfl, hb⟩; refine ⟨_, rfl, ?_⟩; have n0_ := Zs0.mk (blT (by repeat (first | (with_reducible first | exact HB.out | apply blA | apply pbN | apply bl1) | exact HB.out)) hb); clear HB; have HB := n0_; clear n0_; (try clear hb); (try clear hb2); (try clear hk); (try clear hi)))
    go_ret
    exact ⟨by first | rfl | (simp [eWn, eWs] <;> rfl) | (simp [*, eWn, eWs] <;> rfl), by repeat (first | (with_reducible first | exact HB.out | apply blA | apply pbN | apply bl1) | exact HB.out)⟩

end Go.Proofs.YtjcggilkfofiaaaDoor.P
namespace Go.Proofs.YtjcggilkfofiaaaDoor.Dec
open Go.RowKit Go.Proofs.YtjcggilkfofiaaaDoor.P Go.Proofs.YtjcggilkfofiaaaDoorW.PrintWords Go.Proofs.YtjcggilkfofiaaaDoorW.PrintLast Go.Proofs.YtjcggilkfofiaaaDoor.Aux
set_option linter.unusedVariables false
set_option linter.unusedSimpArgs false
/-- The digits of u, none for 0. -/
def digs (u : Nat) : List UInt8 := if u = 0 then [] else Lib.decDigits u
theorem digs_step (u : Nat) (h : u ≠ 0) : digs u = digs (u / 10) ++ [UInt8.ofNat (48 + u % 10)] := by
  unfold digs
  rw [if_neg h]
  by_cases h1 : u < 10
  · rw [Lib.decDigits, dif_pos h1, if_pos (by omega), Nat.mod_eq_of_lt h1]
    rfl
  · rw [Lib.decDigits, dif_neg h1, if_neg (by omega)]
theorem digs_le (d : Nat) : ∀ u, u < 10 ^ d → (digs u).length ≤ d := by
  induction d with
  | zero => 
    intro u h
    have h2 : u = 0 := by rw [Nat.pow_zero] at h; omega
    subst h2
    simp [digs]
  | succ d ih =>
    intro u h
    by_cases h0 : u = 0
    · subst h0; simp [digs]
    · rw [digs_step u h0, List.length_append]
      have := ih (u / 10) (by rw [Nat.pow_succ] at h; omega)
      simp only [List.length_cons, List.length_nil]
      omega
theorem digit_text (d : Nat) (h : d < 10) : ((⟨#[48, 49, 50, 51, 52, 53, 54, 55, 56, 57]⟩ : ByteArray).extract d (d + 1)) = ⟨#[UInt8.ofNat (48 + d)]⟩ := by
  have : ∀ d : Fin 10, ((⟨#[48, 49, 50, 51, 52, 53, 54, 55, 56, 57]⟩ : ByteArray).extract d (d + 1)) = ⟨#[UInt8.ofNat (48 + d)]⟩ := by decide
  exact this ⟨d, h⟩
theorem cons_bytes (b : UInt8) (l : List UInt8) (x : ByteArray) (hx : x = ⟨l.toArray⟩) : (⟨#[b]⟩ : ByteArray) ++ x = ⟨(b :: l).toArray⟩ := by
  subst hx
  apply ByteArray.ext
  simp
theorem bytes_size (l : List UInt8) : (⟨l.toArray⟩ : ByteArray).size = l.length := by simp [ByteArray.size]
theorem one_more (b : UInt8) (l : List UInt8) (h : l.length ≤ 1000) : (⟨#[b]⟩ : ByteArray).size + (⟨l.toArray⟩ : ByteArray).size ≤ 9223372036854775807 := by
  have h1 : (⟨#[b]⟩ : ByteArray).size = 1 := rfl
  have h2 := bytes_size l
  omega
theorem tdiv_ok (x q : Int) (hb : x.natAbs ≤ 9223372036854775808) (hq : q.natAbs = x.natAbs / 10) : -9223372036854775808 ≤ q ∧ q ≤ 9223372036854775807 ∧ wrap64 q = q := by
  have h0 : -9223372036854775808 ≤ q := by omega
  have h1 : q ≤ 9223372036854775807 := by omega
  exact ⟨h0, h1, wrap_ok h0 h1⟩
theorem tmod_neg (m : Int) (u : Nat) (hr : u < 10) (hm : m.natAbs = u) (hs : m < 0) : wrap64 (-m) = (u : Int) ∧ wrap64 ((u : Int) + 1) = ((u + 1 : Nat) : Int) ∧ 0 ≤ (u : Int) ∧ (u : Int) ≤ ((u + 1 : Nat) : Int) ∧ ((u + 1 : Nat) : Int) ≤ 10 := by
  have e : -m = (u : Int) := by omega
  refine ⟨?_, ?_, by omega, by omega, by omega⟩
  · rw [e]
    exact wrap_ok (by omega) (by omega)
  · rw [wrap_ok (by omega) (by omega)]
    omega
theorem tmod_pos (m : Int) (u : Nat) (hr : u < 10) (hm : m.natAbs = u) (hs : ¬ m < 0) : m = (u : Int) ∧ wrap64 ((u : Int) + 1) = ((u + 1 : Nat) : Int) ∧ 0 ≤ (u : Int) ∧ (u : Int) ≤ ((u + 1 : Nat) : Int) ∧ ((u + 1 : Nat) : Int) ≤ 10 := by
  refine ⟨by omega, ?_, by omega, by omega, by omega⟩
  rw [wrap_ok (by omega) (by omega)]
  omega
/-- What the loop answers. -/
theorem dec_loop (n : Int) (d : Nat) : ∀ (x : Int) (l : List UInt8), x.natAbs < 10 ^ d → -9223372036854775808 ≤ x → x ≤ 9223372036854775807 → l.length + d ≤ 1000 →
    Ev (fun k => spec_DecText.l0 k n ⟨l.toArray⟩ x) (if n < 0 then ⟨(45 :: (digs x.natAbs ++ l)).toArray⟩ else ⟨(digs x.natAbs ++ l).toArray⟩) := by
  induction d with
  | zero =>
    intro x l h _ _ hl
    have hx : x = 0 := by
      rw [Nat.pow_zero] at h
      omega
    subst hx
    by_cases hn : n < 0
    · refine Ev.step (f := fun _ => some _) (fun k => by rw [spec_DecText.l0, if_pos rfl, if_pos hn, if_pos (by rw [bytes_size]; omega)]) ?_
      rw [if_pos hn, cons_bytes 45 l _ rfl]
      simpa [digs] using Ev.now _
    · refine Ev.step (f := fun _ => some _) (fun k => by rw [spec_DecText.l0, if_pos rfl, if_neg hn]) ?_
      rw [if_neg hn]
      simpa [digs] using Ev.now _
  | succ d ih =>
    intro x l h h0 h1 hl
    by_cases hx : x = 0
    · exact ih x l (by subst hx; simp; exact Nat.pow_pos (by decide)) h0 h1 (by omega)
    · have hu : x.natAbs ≠ 0 := by omega
      have hq : (Int.tdiv x 10).natAbs = x.natAbs / 10 := by rw [Int.natAbs_tdiv]; rfl
      have hm : (Int.tmod x 10).natAbs = x.natAbs % 10 := by rw [Int.natAbs_tmod]; rfl
      have hd : digs x.natAbs ++ l = digs (x.natAbs / 10) ++ UInt8.ofNat (48 + x.natAbs % 10) :: l := by rw [digs_step _ hu, List.append_assoc]; rfl
      rw [hd]
      have hb : x.natAbs ≤ 9223372036854775808 := by omega
      have hlen : l.length ≤ 1000 := by omega
      have hlt : x.natAbs / 10 < 10 ^ d := by rw [Nat.pow_succ] at h; omega
      clear h hd hu h0 h1
      obtain ⟨hq0, hq1, hw⟩ := tdiv_ok x (Int.tdiv x 10) hb hq
      have key := ih (Int.tdiv x 10) (UInt8.ofNat (48 + x.natAbs % 10) :: l) (by rw [hq]; exact hlt) hq0 hq1 (by simp only [List.length_cons]; omega)
      rw [hq] at key
      have hdt := digit_text (x.natAbs % 10) (Nat.mod_lt _ (by decide))
      have hr : x.natAbs % 10 < 10 := Nat.mod_lt _ (by decide)
      by_cases hs : Int.tmod x 10 < 0
      · obtain ⟨w1, w2, g1, g2, g3⟩ := tmod_neg (Int.tmod x 10) (x.natAbs % 10) hr hm hs
        refine Ev.step (fun k => by rw [spec_DecText.l0, if_neg hx, if_pos hs, w1, w2, if_pos g1, if_pos g2, if_pos g3, Int.toNat_natCast, Int.toNat_natCast, hdt, if_pos (one_more _ l hlen), hw, cons_bytes _ l _ rfl]) key
      · obtain ⟨w0, w2, g1, g2, g3⟩ := tmod_pos (Int.tmod x 10) (x.natAbs % 10) hr hm hs
        refine Ev.step (fun k => by rw [spec_DecText.l0, if_neg hx, if_neg hs, w0, w2, if_pos g1, if_pos g2, if_pos g3, Int.toNat_natCast, Int.toNat_natCast, hdt, if_pos (one_more _ l hlen), hw, cons_bytes _ l _ rfl]) key
theorem dec_ev (n : Int) (h0 : -9223372036854775808 ≤ n) (h1 : n ≤ 9223372036854775807) : Ev (fun k => spec_DecText.f k n) ⟨(Lib.itoa n).toArray⟩ := by
  by_cases hz : n = 0
  · subst hz
    refine Ev.congr (f := fun _ => some _) (fun k => by unfold spec_DecText.f; rw [if_pos rfl]) ?_
    have : Lib.itoa 0 = [48] := by
      unfold Lib.itoa
      rw [if_neg (by omega), Lib.decDigits, dif_pos (by decide)]
      rfl
    rw [this]
    exact Ev.now _
  · refine Ev.congr (fun k => by unfold spec_DecText.f; rw [if_neg hz]) ?_
    have h := dec_loop n 20 n [] (by have : (10 : Nat) ^ 20 = 100000000000000000000 := by decide
                                     omega) h0 h1 (by simp)
    have e : (⟨#[]⟩ : ByteArray) = ⟨([] : List UInt8).toArray⟩ := rfl
    rw [e]
    have e2 : (if n < 0 then (⟨(45 :: (digs n.natAbs ++ [])).toArray⟩ : ByteArray) else ⟨(digs n.natAbs ++ []).toArray⟩) = ⟨(Lib.itoa n).toArray⟩ := by
      unfold Lib.itoa digs
      have hz2 : ¬ n.natAbs = 0 := by omega
      by_cases hn : n < 0
      · simp only [if_pos hn, if_neg hz2, List.append_nil]
      · simp only [if_neg hn, if_neg hz2, List.append_nil, show n.toNat = n.natAbs by omega]
    rw [e2] at h
    exact h
theorem i64_wf {n : Int} (h : (Lit.int .i64 n).wf = true) : -9223372036854775808 ≤ n ∧ n ≤ 9223372036854775807 := by
  simp [Lit.wf, IntKind.min, IntKind.max, IntKind.signed, IntKind.bits] at h
  omega
/-- How long a numeral is. -/
theorem digs_len (n : Int) (h0 : -9223372036854775808 ≤ n) (h1 : n ≤ 9223372036854775807) : (Lib.itoa n).length ≤ 21 := by
  have hl : ∀ u : Nat, u ≤ 9223372036854775808 → (Lib.decDigits u).length ≤ 20 := fun u hu => by
    by_cases hz : u = 0
    · subst hz
      rw [Lib.decDigits, dif_pos (by decide)]
      simp
    · have := digs_le 20 u (by have : (10 : Nat) ^ 20 = 100000000000000000000 := by decide
                               omega)
      unfold digs at this
      rw [if_neg hz] at this
      exact this
  unfold Lib.itoa
  split
  · have := hl n.natAbs (by omega)
    simp only [List.length_cons]
    omega
  · have := hl n.toNat (by omega)
    omega
theorem itoa_f (n : Int) (h0 : -9223372036854775808 ≤ n) (h1 : n ≤ 9223372036854775807) : strconv_Itoa_35.f n = some ⟨(Lib.itoa n).toArray⟩ := by
  unfold strconv_Itoa_35.f
  rw [if_pos ⟨h0, h1⟩]
end Go.Proofs.YtjcggilkfofiaaaDoor.Dec
namespace Go.Proofs.YtjcggilkfofiaaaDoor.Dec
open Go.RowKit Go.Proofs.YtjcggilkfofiaaaDoor.P Go.Proofs.YtjcggilkfofiaaaDoorW.PrintWords Go.Proofs.YtjcggilkfofiaaaDoorW.PrintLast Go.Proofs.YtjcggilkfofiaaaDoor.Aux
/-- A number's numeral. -/
def dt (n : Int) : ByteArray := ⟨(Lib.itoa n).toArray⟩
/-- The numbers of 64 bits. -/
def I64 (n : Int) : Prop := -9223372036854775808 ≤ n ∧ n ≤ 9223372036854775807
theorem dt_size {n : Int} (h : I64 n) : (dt n).size ≤ 21 := by
  unfold dt
  rw [bytes_size]
  exact digs_len n h.1 h.2
theorem dt_ev {n : Int} (h : I64 n) : Ev (fun k => spec_DecText.f k n) (dt n) := dec_ev n h.1 h.2
theorem dt_f {n : Int} (h : I64 n) : strconv_Itoa_35.f n = some (dt n) := itoa_f n h.1 h.2
theorem lit1 (a : UInt8) : (⟨#[a]⟩ : ByteArray).size = 1 := rfl
theorem lit2 (a b : UInt8) : (⟨#[a, b]⟩ : ByteArray).size = 2 := rfl
theorem lit3 (a b c : UInt8) : (⟨#[a, b, c]⟩ : ByteArray).size = 3 := rfl
end Go.Proofs.YtjcggilkfofiaaaDoor.Dec
